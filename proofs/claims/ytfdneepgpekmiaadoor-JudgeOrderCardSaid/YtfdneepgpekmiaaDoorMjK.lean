/- Texts of this proof, laid together: JdL, JdM. -/
import Derived.Test.YtfdneepgpekmiaaDoorMjG
/- What the judge says of some acts. -/
namespace Go.Proofs.YtfdneepgpekmiaaDoor
set_option linter.unusedVariables false
set_option linter.unusedSimpArgs false
set_option maxHeartbeats 8000000
open Go.RowKit
set_option maxRecDepth 8000

def bL : ByteArray := ⟨#[108]⟩
def kpA (c q : Int) (k : ByteArray) : ActD := ⟨1, c, q, 1, 0, 0, k, bB1, 1, default⟩
def kdA (c q p : Int) (k : ByteArray) : ActD := ⟨4, c, q, 0, 1, 0, ByteArray.empty, ByteArray.empty, 0, ⟨p, 1, k, bB1, false⟩⟩
def keysL (k q : Bool) : List ActD := [kpA 0 0 bK, kpA 1 (if q then 0 else 1) (if k then bK else bL), kdA 0 0 0 bK, kdA 2 (if q then 0 else 1) 1 (if k then bK else bL)]
theorem keys_ok (k q : Bool) : (keysL k q).all okB = true := by cases k <;> cases q <;> decide +kernel
theorem keys_eq (k q : Bool) : checkJ (keysL k q) = if k && q then 4 else 0 := by cases k <;> cases q <;> decide +kernel

def oD (c : Int) (t : Int) (again : Bool) : ActD := ⟨4, c, 0, 0, t, 0, ByteArray.empty, ByteArray.empty, 0, ⟨0, 1, bK, bB1, again⟩⟩
def oB (c : Int) : ActD := ⟨7, c, 0, 0, 1, 0, ByteArray.empty, ByteArray.empty, 0, default⟩
def once1 (c : Nat) (back : Bool) : List ActD := [kpA 0 0 bK, oD c 1 false] ++ (if back then [oB c] else [])
def onceL (c d : Nat) (back again : Bool) : List ActD := once1 c back ++ [oD d 2 again]
def onceW (back again : Bool) : Int := if !back || !again then (if back then 4 else 3) else 0
theorem once_ok : ∀ c : Fin 4, ∀ d : Fin 4, ∀ back again : Bool, (onceL c d back again).all okB = true ∧ checkJ (onceL c d back again) = onceW back again ∧ ([kpA 0 0 bK, oD c 1 again] : List ActD).all okB = true ∧ checkJ [kpA 0 0 bK, oD c 1 again] = if again then 2 else 0 := by decide +kernel

theorem app_acts (l m : List ActD) {n : Nat} {h : Nat → List AV} (hn : n = l.length) (hh : ∀ j, j < m.length → h j = rowsOf 14 (m.flatMap ActD.cells) j) {i : Nat} (hi : i < n + m.length) : joinG n (gOf ActD.cells l) h i = gOf ActD.cells (l ++ m) i := by
  subst hn
  unfold joinG gOf
  by_cases hlt : i < l.length
  · rw [if_pos hlt, List.getD_eq_getElem?_getD, List.getD_eq_getElem?_getD, List.getElem?_append_left hlt]
  · rw [if_neg hlt, hh _ (by omega), rowsOf_flat _ _ (by omega), gOf, List.getD_eq_getElem?_getD, List.getD_eq_getElem?_getD, List.getElem?_append_right (by omega)]

end Go.Proofs.YtfdneepgpekmiaaDoor

/- JudgeKeys, JudgeOnce. -/
namespace Go.Proofs.YtfdneepgpekmiaaDoor
set_option linter.unusedVariables false
set_option linter.unusedSimpArgs false
set_option maxHeartbeats 8000000
open Go.RowKit
set_option maxRecDepth 8000

theorem judgeKeys_p (k q : Bool) : PFn Tryd.prog 12 [.v (.bool k), .v (.bool q)] (.v (.bool true)) := by
  refine FnC.intro Tryd.func12 rfl Tryd.ntmps12 rfl ?_; intro off w0
  ((repeat refine S.seq ?_); refine S.region (L.go (T := tt) tt_ok rfl rfl ?sd212 ?_); (try (case sd212 => (repeat' ((first | first | exact trivial | exact zA | with_reducible refine zI ?_ ?_ | exact zB | exact zC | exact zD | exact zE | rfl | exact zN rfl | omega | assumption | (simp; done) | (simp [splice]; done) | (simp; omega) | (unfold fits; omega) | (unfold fits; simp_all; omega) | (simp_all; omega) | (simp_all; done) | intro _ | exact zI ?_ ?_ | intro _))))); try (refine L.nil ?_))
  ((repeat refine S.seq ?_); refine S.region (L.go (T := tt) tt_ok rfl rfl ?sd213 ?_); (try (case sd213 => (repeat' ((first | first | exact trivial | exact zA | with_reducible refine zI ?_ ?_ | exact zB | exact zC | exact zD | exact zE | rfl | exact zN rfl | omega | assumption | (simp; done) | (simp [splice]; done) | (simp; omega) | (unfold fits; omega) | (unfold fits; simp_all; omega) | (simp_all; omega) | (simp_all; done) | intro _ | exact zI ?_ ?_ | intro _))))); try (refine L.nil ?_))
  ((repeat refine S.seq ?_); refine S.region (L.go (T := tt) tt_ok rfl rfl ?sd214 ?_); (try (case sd214 => (repeat' ((first | first | exact trivial | exact zA | with_reducible refine zI ?_ ?_ | exact zB | exact zC | exact zD | exact zE | rfl | exact zN rfl | omega | assumption | (simp; done) | (simp [splice]; done) | (simp; omega) | (unfold fits; omega) | (unfold fits; simp_all; omega) | (simp_all; omega) | (simp_all; done) | intro _ | exact zI ?_ ?_ | intro _))))); try (refine L.nil ?_))
  refine S.cut (ι := Unit) (fun _ => [(0, .v (.bool k)), (1, .v (.bool q)), (5, .v (.string (if k then bK else bL))), (6, .v (.int .i64 1))]) (fun _ => []) ?_ ?_
  · ((repeat refine S.seq ?_); refine S.cond rfl (fun h => ?_) (fun h => ?_) <;> (try first | refine S.skip ?_ | refine S.exit ?_))
    · ((repeat refine S.seq ?_); refine S.region (L.go (T := tt) tt_ok rfl rfl ?sd215 ?_); (try (case sd215 => (repeat' ((first | first | exact trivial | exact zA | with_reducible refine zI ?_ ?_ | exact zB | exact zC | exact zD | exact zE | rfl | exact zN rfl | omega | assumption | (simp; done) | (simp [splice]; done) | (simp; omega) | (unfold fits; omega) | (unfold fits; simp_all; omega) | (simp_all; omega) | (simp_all; done) | intro _ | exact zI ?_ ?_ | intro _))))); try (refine L.nil ?_))
      exact fun a w hR => ⟨(), hR.weak ⟨Imp.refl _, Imp.refl _, Imp.of_eq (by rw [h]; rfl), Imp.refl _, trivial⟩ (List.Sublist.refl _)⟩
    · exact fun a w hR => ⟨(), hR.weak ⟨Imp.refl _, Imp.refl _, Imp.of_eq (by rw [h]; rfl), Imp.refl _, trivial⟩ (List.Sublist.refl _)⟩
  rintro ⟨⟩
  ((repeat refine S.seq ?_); refine S.region (L.go (T := tt) tt_ok rfl rfl ?sd216 ?_); (try (case sd216 => (repeat' ((first | first | exact trivial | exact zA | with_reducible refine zI ?_ ?_ | exact zB | exact zC | exact zD | exact zE | rfl | exact zN rfl | omega | assumption | (simp; done) | (simp [splice]; done) | (simp; omega) | (unfold fits; omega) | (unfold fits; simp_all; omega) | (simp_all; omega) | (simp_all; done) | intro _ | exact zI ?_ ?_ | intro _))))); try (refine L.nil ?_))
  repeat refine S.seq ?_
  refine S.cut (ι := Unit) (fun _ => [(0, .v (.bool k)), (1, .v (.bool q)), (5, .v (.string (if k then bK else bL))), (6, .v (.int .i64 (if q then 0 else 1)))]) (fun _ => []) ?_ ?_
  · ((repeat refine S.seq ?_); refine S.cond rfl (fun h => ?_) (fun h => ?_) <;> (try first | refine S.skip ?_ | refine S.exit ?_))
    · ((repeat refine S.seq ?_); refine S.region (L.go (T := tt) tt_ok rfl rfl ?sd217 ?_); (try (case sd217 => (repeat' ((first | first | exact trivial | exact zA | with_reducible refine zI ?_ ?_ | exact zB | exact zC | exact zD | exact zE | rfl | exact zN rfl | omega | assumption | (simp; done) | (simp [splice]; done) | (simp; omega) | (unfold fits; omega) | (unfold fits; simp_all; omega) | (simp_all; omega) | (simp_all; done) | intro _ | exact zI ?_ ?_ | intro _))))); try (refine L.nil ?_))
      exact fun a w hR => ⟨(), hR.weak ⟨Imp.refl _, Imp.refl _, Imp.refl _, Imp.of_eq (by rw [h]; rfl), trivial⟩ (List.Sublist.refl _)⟩
    · exact fun a w hR => ⟨(), hR.weak ⟨Imp.refl _, Imp.refl _, Imp.refl _, Imp.of_eq (by rw [h]; rfl), trivial⟩ (List.Sublist.refl _)⟩
  rintro ⟨⟩
  repeat refine S.seq ?_
  refine S.region ?_
  (refine L.go (T := tt) tt_ok rfl rfl ?sd232 ?_; (try (case sd232 => (repeat' ((first | first | exact trivial | exact zA | with_reducible refine zI ?_ ?_ | exact zB | exact zC | exact zD | exact zE | rfl | exact zN rfl | omega | assumption | (simp; done) | (simp [splice]; done) | (simp; omega) | (unfold fits; omega) | (unfold fits; simp_all; omega) | (simp_all; omega) | (simp_all; done) | intro _ | exact zI ?_ ?_ | intro _))))); try (refine L.nil ?_))
  refine slotAs 11 (kpA 0 0 bK).av rfl (Imp.refl _) ?_
  refine slotAs 14 (kpA 1 (if q then 0 else 1) (if k then bK else bL)).av rfl (Imp.refl _) ?_
  refine slotAs 16 (kdA 0 0 0 bK).av rfl (Imp.refl _) ?_
  refine slotAs 20 (kdA 2 (if q then 0 else 1) 1 (if k then bK else bL)).av rfl (Imp.refl _) ?_
  refine L.buildSlice (T := tt) 85 tt_ok rfl rfl rfl rfl rfl rfl (by decide) (by decide) rfl rfl (by (repeat' ((first | first | exact trivial | exact zA | with_reducible refine zI ?_ ?_ | exact zB | exact zC | exact zD | exact zE | rfl | exact zN rfl | omega | assumption | (simp; done) | (simp [splice]; done) | (simp; omega) | (unfold fits; omega) | (unfold fits; simp_all; omega) | (simp_all; omega) | (simp_all; done) | intro _ | exact zI ?_ ?_ | intro _)))) fun x21 => ?_
  refine freezeSlot 21 85 rfl rfl rfl ?_
  refine slotAs 21 (actsA (keysL k q)) rfl (Imp.acts (keysL k q) rfl (fun i hi => rfl)) ?_
  (refine L.go (T := tt) tt_ok rfl rfl ?sd233 ?_; (try (case sd233 => (repeat' ((first | first | exact trivial | exact zA | with_reducible refine zI ?_ ?_ | exact zB | exact zC | exact zD | exact zE | rfl | exact zN rfl | omega | assumption | (simp; done) | (simp [splice]; done) | (simp; omega) | (unfold fits; omega) | (unfold fits; simp_all; omega) | (simp_all; omega) | (simp_all; done) | intro _ | exact zI ?_ ?_ | intro _))))); try (refine L.nil ?_))
  ((repeat refine S.seq ?_); refine S.region (L.go (T := tt) tt_ok rfl rfl ?sd218 ?_); (try (case sd218 => (repeat' ((first | first | exact trivial | exact zA | with_reducible refine zI ?_ ?_ | exact zB | exact zC | exact zD | exact zE | rfl | exact zN rfl | omega | assumption | (simp; done) | (simp [splice]; done) | (simp; omega) | (unfold fits; omega) | (unfold fits; simp_all; omega) | (simp_all; omega) | (simp_all; done) | intro _ | exact zI ?_ ?_ | intro _))))); try (refine L.nil ?_))
  ((repeat refine S.seq ?_); refine S.region (L.go (T := tt) tt_ok rfl rfl ?sd219 ?_); (try (case sd219 => (repeat' ((first | first | exact trivial | exact zA | with_reducible refine zI ?_ ?_ | exact zB | exact zC | exact zD | exact zE | rfl | exact zN rfl | omega | assumption | (simp; done) | (simp [splice]; done) | (simp; omega) | (unfold fits; omega) | (unfold fits; simp_all; omega) | (simp_all; omega) | (simp_all; done) | intro _ | exact zI ?_ ?_ | intro _))))); try (refine L.nil ?_))
  repeat refine S.seq ?_
  refine S.cut (ι := Unit) (fun _ => [(7, actsA (keysL k q)), (8, .v (.int .i64 (if k && q then 4 else 0)))]) (fun _ => []) ?_ ?_
  · ((repeat refine S.seq ?_); refine S.cond rfl (fun h => ?_) (fun h => ?_) <;> (try first | refine S.skip ?_ | refine S.exit ?_))
    · ((repeat refine S.seq ?_); refine S.region (L.go (T := tt) tt_ok rfl rfl ?sd220 ?_); (try (case sd220 => (repeat' ((first | first | exact trivial | exact zA | with_reducible refine zI ?_ ?_ | exact zB | exact zC | exact zD | exact zE | rfl | exact zN rfl | omega | assumption | (simp; done) | (simp [splice]; done) | (simp; omega) | (unfold fits; omega) | (unfold fits; simp_all; omega) | (simp_all; omega) | (simp_all; done) | intro _ | exact zI ?_ ?_ | intro _))))); try (refine L.nil ?_))
      exact fun a w hR => ⟨(), hR.weak ⟨Imp.refl _, Imp.of_eq (by rw [show (k && q) = true from h]; rfl), trivial⟩ (List.Sublist.refl _)⟩
    · exact fun a w hR => ⟨(), hR.weak ⟨Imp.refl _, Imp.of_eq (by rw [show (k && q) = false from h]; rfl), trivial⟩ (List.Sublist.refl _)⟩
  rintro ⟨⟩
  repeat refine S.seq ?_
  refine S.region ?_
  refine L.callP rfl rfl rfl rfl rfl rfl rfl ⟨trivial, by (repeat' ((first | first | exact trivial | exact zA | with_reducible refine zI ?_ ?_ | exact zB | exact zC | exact zD | exact zE | rfl | exact zN rfl | omega | assumption | (simp; done) | (simp [splice]; done) | (simp; omega) | (unfold fits; omega) | (unfold fits; simp_all; omega) | (simp_all; omega) | (simp_all; done) | intro _ | exact zI ?_ ?_ | intro _)))⟩ rfl (Imps.refl _) told21_p ?_
  (refine L.go (T := tt) tt_ok rfl rfl ?sd234 ?_; (try (case sd234 => (repeat' ((first | first | exact trivial | exact zA | with_reducible refine zI ?_ ?_ | exact zB | exact zC | exact zD | exact zE | rfl | exact zN rfl | omega | assumption | (simp; done) | (simp [splice]; done) | (simp; omega) | (unfold fits; omega) | (unfold fits; simp_all; omega) | (simp_all; omega) | (simp_all; done) | intro _ | exact zI ?_ ?_ | intro _))))); try (refine L.nil ?_))
  refine L.callG rfl rfl rfl rfl rfl rfl rfl (fun _ => ⟨trivial, by (repeat' ((first | first | exact trivial | exact zA | with_reducible refine zI ?_ ?_ | exact zB | exact zC | exact zD | exact zE | rfl | exact zN rfl | omega | assumption | (simp; done) | (simp [splice]; done) | (simp; omega) | (unfold fits; omega) | (unfold fits; simp_all; omega) | (simp_all; omega) | (simp_all; done) | intro _ | exact zI ?_ ?_ | intro _)))⟩) rfl (Imps.refl _) (fun _ => (check_eq rfl (keys_ok k q) (keys_eq k q))) ?_
  (refine L.go (T := tt) tt_ok rfl rfl ?sd235 ?_; (try (case sd235 => (repeat' ((first | first | exact trivial | exact zA | with_reducible refine zI ?_ ?_ | exact zB | exact zC | exact zD | exact zE | rfl | exact zN rfl | omega | assumption | (simp; done) | (simp [splice]; done) | (simp; omega) | (unfold fits; omega) | (unfold fits; simp_all; omega) | (simp_all; omega) | (simp_all; done) | intro _ | exact zI ?_ ?_ | intro _))))); try (refine L.nil ?_))
  (((repeat refine S.seq ?_); refine S.ret ?_); refine E.retP (T := tt) tt_ok rfl rfl (by (repeat' ((first | first | exact trivial | exact zA | with_reducible refine zI ?_ ?_ | exact zB | exact zC | exact zD | exact zE | rfl | exact zN rfl | omega | assumption | (simp; done) | (simp [splice]; done) | (simp; omega) | (unfold fits; omega) | (unfold fits; simp_all; omega) | (simp_all; omega) | (simp_all; done) | intro _ | exact zI ?_ ?_ | intro _)))) ?_)
  exact Imp.of_eq (by simp [oneOf])

theorem judgeOnce_p (a b : Int) (back again : Bool) : PFn Tryd.prog 9 [.v (.int .i64 a), .v (.int .i64 b), .v (.bool back), .v (.bool again)] (.v (.bool true)) := by
  obtain ⟨C, hC, hCe⟩ := umod a 4 (by decide) (by decide)
  obtain ⟨D, hD, hDe⟩ := umod b 4 (by decide) (by decide)
  obtain ⟨k1, k2, k3, k4⟩ := once_ok ⟨C, by omega⟩ ⟨D, by omega⟩ back again
  dsimp only at k1 k2 k3 k4
  refine FnC.intro Tryd.func9 rfl Tryd.ntmps9 rfl ?_; intro off w0
  ((repeat refine S.seq ?_); refine S.region (L.go (T := tt) tt_ok rfl rfl ?sd221 ?_); (try (case sd221 => (repeat' ((first | first | exact trivial | exact zA | with_reducible refine zI ?_ ?_ | exact zB | exact zC | exact zD | exact zE | rfl | exact zN rfl | omega | assumption | (simp; done) | (simp [splice]; done) | (simp; omega) | (unfold fits; omega) | (unfold fits; simp_all; omega) | (simp_all; omega) | (simp_all; done) | intro _ | exact zI ?_ ?_ | intro _))))); try (refine L.nil ?_))
  ((repeat refine S.seq ?_); refine S.region (L.go (T := tt) tt_ok rfl rfl ?sd222 ?_); (try (case sd222 => (repeat' ((first | first | exact trivial | exact zA | with_reducible refine zI ?_ ?_ | exact zB | exact zC | exact zD | exact zE | rfl | exact zN rfl | omega | assumption | (simp; done) | (simp [splice]; done) | (simp; omega) | (unfold fits; omega) | (unfold fits; simp_all; omega) | (simp_all; omega) | (simp_all; done) | intro _ | exact zI ?_ ?_ | intro _))))); try (refine L.nil ?_))
  refine slotAs 9 (.v (.int .i64 C)) rfl (Imp.of_eq (by rw [← hCe])) ?_
  refine slotAs 10 (.v (.int .i64 D)) rfl (Imp.of_eq (by rw [← hDe])) ?_
  ((repeat refine S.seq ?_); refine S.region (L.go (T := tt) tt_ok rfl rfl ?sd223 ?_); (try (case sd223 => (repeat' ((first | first | exact trivial | exact zA | with_reducible refine zI ?_ ?_ | exact zB | exact zC | exact zD | exact zE | rfl | exact zN rfl | omega | assumption | (simp; done) | (simp [splice]; done) | (simp; omega) | (unfold fits; omega) | (unfold fits; simp_all; omega) | (simp_all; omega) | (simp_all; done) | intro _ | exact zI ?_ ?_ | intro _))))); try (refine L.nil ?_))
  refine L.alloc (T := tt) 81 tt_ok rfl rfl rfl rfl rfl fun b11 => ?_
  (refine L.store (T := tt) tt_ok rfl rfl rfl rfl rfl rfl ?sd245 ?_; (try (case sd245 => (repeat' ((first | first | exact trivial | exact zA | with_reducible refine zI ?_ ?_ | exact zB | exact zC | exact zD | exact zE | rfl | exact zN rfl | omega | assumption | (simp; done) | (simp [splice]; done) | (simp; omega) | (unfold fits; omega) | (unfold fits; simp_all; omega) | (simp_all; omega) | (simp_all; done) | intro _ | exact zI ?_ ?_ | intro _))))))
  refine L.nil ?_
  repeat refine S.seq ?_
  refine S.region ?_
  (refine L.go (T := tt) tt_ok rfl rfl ?sd236 ?_; (try (case sd236 => (repeat' ((first | first | exact trivial | exact zA | with_reducible refine zI ?_ ?_ | exact zB | exact zC | exact zD | exact zE | rfl | exact zN rfl | omega | assumption | (simp; done) | (simp [splice]; done) | (simp; omega) | (unfold fits; omega) | (unfold fits; simp_all; omega) | (simp_all; omega) | (simp_all; done) | intro _ | exact zI ?_ ?_ | intro _))))); try (refine L.nil ?_))
  refine slotAs 25 (kpA 0 0 bK).av rfl (Imp.refl _) ?_
  refine slotAs 28 (oD C 1 false).av rfl (Imp.refl _) ?_
  refine L.buildSlice (T := tt) 82 tt_ok rfl rfl rfl rfl rfl rfl (by decide) (by decide) rfl rfl (by (repeat' ((first | first | exact trivial | exact zA | with_reducible refine zI ?_ ?_ | exact zB | exact zC | exact zD | exact zE | rfl | exact zN rfl | omega | assumption | (simp; done) | (simp [splice]; done) | (simp; omega) | (unfold fits; omega) | (unfold fits; simp_all; omega) | (simp_all; omega) | (simp_all; done) | intro _ | exact zI ?_ ?_ | intro _)))) fun x29 => ?_
  refine ownAs 82 (gOf ActD.cells [kpA 0 0 bK, oD C 1 false]) rfl rfl (fun i hi => rowsOf_flat [kpA 0 0 bK, oD C 1 false] i hi) ?_
  (refine L.go (T := tt) tt_ok rfl rfl ?sd237 ?_; (try (case sd237 => (repeat' ((first | first | exact trivial | exact zA | with_reducible refine zI ?_ ?_ | exact zB | exact zC | exact zD | exact zE | rfl | exact zN rfl | omega | assumption | (simp; done) | (simp [splice]; done) | (simp; omega) | (unfold fits; omega) | (unfold fits; simp_all; omega) | (simp_all; omega) | (simp_all; done) | intro _ | exact zI ?_ ?_ | intro _))))); try (refine L.nil ?_))
  ((repeat refine S.seq ?_); refine S.region (L.go (T := tt) tt_ok rfl rfl ?sd224 ?_); (try (case sd224 => (repeat' ((first | first | exact trivial | exact zA | with_reducible refine zI ?_ ?_ | exact zB | exact zC | exact zD | exact zE | rfl | exact zN rfl | omega | assumption | (simp; done) | (simp [splice]; done) | (simp; omega) | (unfold fits; omega) | (unfold fits; simp_all; omega) | (simp_all; omega) | (simp_all; done) | intro _ | exact zI ?_ ?_ | intro _))))); try (refine L.nil ?_))
  repeat refine S.seq ?_
  refine S.cut (ι := Value) (fun y => [(3, .v (.bool again)), (2, .v (.bool back)), (9, .v (.int .i64 C)), (10, .v (.int .i64 D)), (11, .ptr 81 b11 0), (12, .ref 82 y)])
    (fun y => [(82, .own y 56 14 (once1 C back).length (gOf ActD.cells (once1 C back))), (81, .blk b11 42 [.v (.int .i64 0), .v (.int .i64 1), .v (.string bK), .v (.string bB1), .v (.bool false)])]) ?_ ?_
  · ((repeat refine S.seq ?_); refine S.cond rfl (fun h => ?_) (fun h => ?_) <;> (try first | refine S.skip ?_ | refine S.exit ?_))
    · repeat refine S.seq ?_
      refine S.region ?_
      (refine L.go (T := tt) tt_ok rfl rfl ?sd238 ?_; (try (case sd238 => (repeat' ((first | first | exact trivial | exact zA | with_reducible refine zI ?_ ?_ | exact zB | exact zC | exact zD | exact zE | rfl | exact zN rfl | omega | assumption | (simp; done) | (simp [splice]; done) | (simp; omega) | (unfold fits; omega) | (unfold fits; simp_all; omega) | (simp_all; omega) | (simp_all; done) | intro _ | exact zI ?_ ?_ | intro _))))); try (refine L.nil ?_))
      refine slotAs 33 (oB C).av rfl (Imp.refl _) ?_
      refine L.buildSlice (T := tt) 83 tt_ok rfl rfl rfl rfl rfl rfl (by decide) (by decide) rfl rfl (by (repeat' ((first | first | exact trivial | exact zA | with_reducible refine zI ?_ ?_ | exact zB | exact zC | exact zD | exact zE | rfl | exact zN rfl | omega | assumption | (simp; done) | (simp [splice]; done) | (simp; omega) | (unfold fits; omega) | (unfold fits; simp_all; omega) | (simp_all; omega) | (simp_all; done) | intro _ | exact zI ?_ ?_ | intro _)))) fun x34 => ?_
      refine L.append (T := tt) tt_ok rfl rfl rfl rfl rfl rfl rfl rfl rfl rfl (by (repeat' ((first | first | exact trivial | exact zA | with_reducible refine zI ?_ ?_ | exact zB | exact zC | exact zD | exact zE | rfl | exact zN rfl | omega | assumption | (simp; done) | (simp [splice]; done) | (simp; omega) | (unfold fits; omega) | (unfold fits; simp_all; omega) | (simp_all; omega) | (simp_all; done) | intro _ | exact zI ?_ ?_ | intro _)))) ⟨rfl, by decide, by decide⟩ (by decide) fun y35 => ?_
      (refine L.go (T := tt) tt_ok rfl rfl ?sd239 ?_; (try (case sd239 => (repeat' ((first | first | exact trivial | exact zA | with_reducible refine zI ?_ ?_ | exact zB | exact zC | exact zD | exact zE | rfl | exact zN rfl | omega | assumption | (simp; done) | (simp [splice]; done) | (simp; omega) | (unfold fits; omega) | (unfold fits; simp_all; omega) | (simp_all; omega) | (simp_all; done) | intro _ | exact zI ?_ ?_ | intro _))))); try (refine L.nil ?_))
      have e : once1 C back = [kpA 0 0 bK, oD C 1 false] ++ [oB C] := by rw [once1, show back = true from h]; rfl
      refine ownAs 82 (gOf ActD.cells (once1 C back)) rfl (show 2 + 1 = (once1 C back).length by rw [e]; rfl) (fun i hi => by rw [e]; exact app_acts [kpA 0 0 bK, oD C 1 false] [oB C] rfl (fun j hj => rfl) hi) ?_
      exact fun a w hR => ⟨y35, hR.weakP (by (repeat' (first | exact True.intro | exact Imp.refl _ | refine ⟨?_, ?_⟩))) (by (repeat (first | exact Sub.refl _ | refine Sub.pick (by first | exact p0 | exact pS p0 | exact pS (pS p0) | exact pS (pS (pS p0)) | exact pS (pS (pS (pS p0))) | exact pS (pS (pS (pS (pS p0))))) ?_)))⟩
    · have e : once1 C back = [kpA 0 0 bK, oD C 1 false] := by rw [once1, show back = false from h]; rfl
      exact fun a w hR => ⟨x29, by rw [e]; exact hR.weakP (by (repeat' (first | exact True.intro | exact Imp.refl _ | refine ⟨?_, ?_⟩))) (by (repeat (first | exact Sub.refl _ | refine Sub.pick (by first | exact p0 | exact pS p0 | exact pS (pS p0) | exact pS (pS (pS p0)) | exact pS (pS (pS (pS p0))) | exact pS (pS (pS (pS (pS p0))))) ?_)))⟩
  intro y
  ((repeat refine S.seq ?_); refine S.region (L.go (T := tt) tt_ok rfl rfl ?sd225 ?_); (try (case sd225 => (repeat' ((first | first | exact trivial | exact zA | with_reducible refine zI ?_ ?_ | exact zB | exact zC | exact zD | exact zE | rfl | exact zN rfl | omega | assumption | (simp; done) | (simp [splice]; done) | (simp; omega) | (unfold fits; omega) | (unfold fits; simp_all; omega) | (simp_all; omega) | (simp_all; done) | intro _ | exact zI ?_ ?_ | intro _))))); try (refine L.nil ?_))
  (refine L.store (T := tt) tt_ok rfl rfl rfl rfl rfl rfl ?sd246 ?_; (try (case sd246 => (repeat' ((first | first | exact trivial | exact zA | with_reducible refine zI ?_ ?_ | exact zB | exact zC | exact zD | exact zE | rfl | exact zN rfl | omega | assumption | (simp; done) | (simp [splice]; done) | (simp; omega) | (unfold fits; omega) | (unfold fits; simp_all; omega) | (simp_all; omega) | (simp_all; done) | intro _ | exact zI ?_ ?_ | intro _))))))
  refine L.nil ?_
  repeat refine S.seq ?_
  refine S.region ?_
  (refine L.go (T := tt) tt_ok rfl rfl ?sd240 ?_; (try (case sd240 => (repeat' ((first | first | exact trivial | exact zA | with_reducible refine zI ?_ ?_ | exact zB | exact zC | exact zD | exact zE | rfl | exact zN rfl | omega | assumption | (simp; done) | (simp [splice]; done) | (simp; omega) | (unfold fits; omega) | (unfold fits; simp_all; omega) | (simp_all; omega) | (simp_all; done) | intro _ | exact zI ?_ ?_ | intro _))))); try (refine L.nil ?_))
  refine slotAs 41 (oD D 2 again).av rfl (Imp.refl _) ?_
  refine L.buildSlice (T := tt) 83 tt_ok rfl rfl rfl rfl rfl rfl (by decide) (by decide) rfl rfl (by (repeat' ((first | first | exact trivial | exact zA | with_reducible refine zI ?_ ?_ | exact zB | exact zC | exact zD | exact zE | rfl | exact zN rfl | omega | assumption | (simp; done) | (simp [splice]; done) | (simp; omega) | (unfold fits; omega) | (unfold fits; simp_all; omega) | (simp_all; omega) | (simp_all; done) | intro _ | exact zI ?_ ?_ | intro _)))) fun x42 => ?_
  have hn1 : (once1 C back).length ≤ 3 := by cases back <;> simp [once1]
  refine L.append (T := tt) tt_ok rfl rfl rfl rfl rfl rfl rfl rfl rfl rfl (by (repeat' ((first | first | exact trivial | exact zA | with_reducible refine zI ?_ ?_ | exact zB | exact zC | exact zD | exact zE | rfl | exact zN rfl | omega | assumption | (simp; done) | (simp [splice]; done) | (simp; omega) | (unfold fits; omega) | (unfold fits; simp_all; omega) | (simp_all; omega) | (simp_all; done) | intro _ | exact zI ?_ ?_ | intro _)))) ⟨rfl, by decide, by decide⟩ (by show ((once1 C back).length + 1) * 144 ≤ _; omega) fun y43 => ?_
  (refine L.go (T := tt) tt_ok rfl rfl ?sd241 ?_; (try (case sd241 => (repeat' ((first | first | exact trivial | exact zA | with_reducible refine zI ?_ ?_ | exact zB | exact zC | exact zD | exact zE | rfl | exact zN rfl | omega | assumption | (simp; done) | (simp [splice]; done) | (simp; omega) | (unfold fits; omega) | (unfold fits; simp_all; omega) | (simp_all; omega) | (simp_all; done) | intro _ | exact zI ?_ ?_ | intro _))))); try (refine L.nil ?_))
  refine ownAs 82 (gOf ActD.cells (onceL C D back again)) rfl (show (once1 C back).length + 1 = (onceL C D back again).length by rw [onceL, List.length_append]; rfl) (fun i hi => by rw [onceL]; exact app_acts (once1 C back) [oD D 2 again] rfl (fun j hj => rfl) hi) ?_
  ((repeat refine S.seq ?_); refine S.region (L.go (T := tt) tt_ok rfl rfl ?sd226 ?_); (try (case sd226 => (repeat' ((first | first | exact trivial | exact zA | with_reducible refine zI ?_ ?_ | exact zB | exact zC | exact zD | exact zE | rfl | exact zN rfl | omega | assumption | (simp; done) | (simp [splice]; done) | (simp; omega) | (unfold fits; omega) | (unfold fits; simp_all; omega) | (simp_all; omega) | (simp_all; done) | intro _ | exact zI ?_ ?_ | intro _))))); try (refine L.nil ?_))
  ((repeat refine S.seq ?_); refine S.region (L.go (T := tt) tt_ok rfl rfl ?sd227 ?_); (try (case sd227 => (repeat' ((first | first | exact trivial | exact zA | with_reducible refine zI ?_ ?_ | exact zB | exact zC | exact zD | exact zE | rfl | exact zN rfl | omega | assumption | (simp; done) | (simp [splice]; done) | (simp; omega) | (unfold fits; omega) | (unfold fits; simp_all; omega) | (simp_all; omega) | (simp_all; done) | intro _ | exact zI ?_ ?_ | intro _))))); try (refine L.nil ?_))
  repeat refine S.seq ?_
  refine S.cut (ι := Unit) (fun _ => [(3, .v (.bool again)), (9, .v (.int .i64 C)), (11, .ptr 81 b11 0), (12, .ref 82 y43), (13, .v (.int .i64 (onceW back again)))])
    (fun _ => [(82, .own y43 56 14 (onceL C D back again).length (gOf ActD.cells (onceL C D back again))), (81, .blk b11 42 [.v (.int .i64 0), .v (.int .i64 1), .v (.string bK), .v (.string bB1), .v (.bool again)])]) ?_ ?_
  · ((repeat refine S.seq ?_); refine S.cond rfl (fun h => ?_) (fun h => ?_) <;> (try first | refine S.skip ?_ | refine S.exit ?_))
    · ((repeat refine S.seq ?_); refine S.region (L.go (T := tt) tt_ok rfl rfl ?sd228 ?_); (try (case sd228 => (repeat' ((first | first | exact trivial | exact zA | with_reducible refine zI ?_ ?_ | exact zB | exact zC | exact zD | exact zE | rfl | exact zN rfl | omega | assumption | (simp; done) | (simp [splice]; done) | (simp; omega) | (unfold fits; omega) | (unfold fits; simp_all; omega) | (simp_all; omega) | (simp_all; done) | intro _ | exact zI ?_ ?_ | intro _))))); try (refine L.nil ?_))
      have h' : (!back || !again) = true := h
      have e : ((onceL C D back again).length : Int) = onceW back again := by
        rw [onceW, if_pos h']
        cases back <;> rfl
      exact fun a w hR => ⟨(), hR.weakP ⟨Imp.refl _, Imp.refl _, Imp.refl _, Imp.refl _, Imp.of_eq (by rw [← e]), trivial⟩ (by (repeat (first | exact Sub.refl _ | refine Sub.pick (by first | exact p0 | exact pS p0 | exact pS (pS p0) | exact pS (pS (pS p0)) | exact pS (pS (pS (pS p0))) | exact pS (pS (pS (pS (pS p0))))) ?_)))⟩
    · have h' : (!back || !again) = false := h
      exact fun a w hR => ⟨(), hR.weakP ⟨Imp.refl _, Imp.refl _, Imp.refl _, Imp.refl _, Imp.of_eq (by rw [onceW, if_neg (by rw [h']; decide)]), trivial⟩ (by (repeat (first | exact Sub.refl _ | refine Sub.pick (by first | exact p0 | exact pS p0 | exact pS (pS p0) | exact pS (pS (pS p0)) | exact pS (pS (pS (pS p0))) | exact pS (pS (pS (pS (pS p0))))) ?_)))⟩
  rintro ⟨⟩
  have h0 : gOf ActD.cells (onceL C D back again) 0 = (kpA 0 0 bK).cells := by cases back <;> rfl
  have hlen : 2 < (onceL C D back again).length := by cases back <;> simp [onceL, once1]
  repeat refine S.seq ?_
  refine S.draw [(2, [82]), (4, [81])] mixed ?_
  (refine H.ts (T := tt) [0, 1, 2, 3, 4, 5] tt_ok (by kernel_rfl) (by kernel_rfl) (by kernel_rfl) (by intro ch a a' w h; obtain ⟨_, _, _, _, _, h, _⟩ := h; cases h) rfl ?sd247 ?_; (try (case sd247 => (repeat' ((first | first | exact trivial | exact zA | with_reducible refine zI ?_ ?_ | exact zB | exact zC | exact zD | exact zE | rfl | exact zN rfl | omega | assumption | (simp; done) | (simp [splice]; done) | (simp; omega) | (unfold fits; omega) | (unfold fits; simp_all; omega) | (simp_all; omega) | (simp_all; done) | intro _ | exact zI ?_ ?_ | intro _))))))
  refine H.tell 54 (.agg (gOf ActD.cells (onceL C D back again) 0)) rfl (Imp.refl _) ?_
  refine H.tell 54 (kpA 0 0 bK).av rfl (Imp.of_eq (by rw [h0]; rfl)) ?_
  refine H.tell 57 (oD C 1 again).av rfl (Imp.refl _) ?_
  refine H.o1 6 rfl (by kernel_rfl) (by kernel_rfl) (O.buildSlice (T := tt) 84 tt_ok rfl rfl rfl rfl rfl rfl (by decide) (by decide) rfl rfl (by (repeat' ((first | first | exact trivial | exact zA | with_reducible refine zI ?_ ?_ | exact zB | exact zC | exact zD | exact zE | rfl | exact zN rfl | omega | assumption | (simp; done) | (simp [splice]; done) | (simp; omega) | (unfold fits; omega) | (unfold fits; simp_all; omega) | (simp_all; omega) | (simp_all; done) | intro _ | exact zI ?_ ?_ | intro _))))) (.inr rfl) rfl fun x58 => ?_
  refine H.rebase ?_
  (refine H.ts (T := tt) [7] tt_ok (by kernel_rfl) (by kernel_rfl) (by kernel_rfl) (by intro ch a a' w h; obtain ⟨_, _, _, _, _, h, _⟩ := h; cases h) rfl ?sd248 ?_; (try (case sd248 => (repeat' ((first | first | exact trivial | exact zA | with_reducible refine zI ?_ ?_ | exact zB | exact zC | exact zD | exact zE | rfl | exact zN rfl | omega | assumption | (simp; done) | (simp [splice]; done) | (simp; omega) | (unfold fits; omega) | (unfold fits; simp_all; omega) | (simp_all; omega) | (simp_all; done) | intro _ | exact zI ?_ ?_ | intro _))))))
  refine H.done (by kernel_rfl) ?_
  refine freezeSlot 14 84 rfl rfl rfl ?_
  refine slotAs 14 (actsA [kpA 0 0 bK, oD C 1 again]) rfl (Imp.acts [kpA 0 0 bK, oD C 1 again] rfl (fun i hi => rfl)) ?_
  refine freezeSlot 12 82 rfl rfl rfl ?_
  refine slotAs 12 (actsA (onceL C D back again)) rfl (Imp.refl _) ?_
  ((repeat refine S.seq ?_); refine S.region (L.go (T := tt) tt_ok rfl rfl ?sd229 ?_); (try (case sd229 => (repeat' ((first | first | exact trivial | exact zA | with_reducible refine zI ?_ ?_ | exact zB | exact zC | exact zD | exact zE | rfl | exact zN rfl | omega | assumption | (simp; done) | (simp [splice]; done) | (simp; omega) | (unfold fits; omega) | (unfold fits; simp_all; omega) | (simp_all; omega) | (simp_all; done) | intro _ | exact zI ?_ ?_ | intro _))))); try (refine L.nil ?_))
  ((repeat refine S.seq ?_); refine S.region (L.go (T := tt) tt_ok rfl rfl ?sd230 ?_); (try (case sd230 => (repeat' ((first | first | exact trivial | exact zA | with_reducible refine zI ?_ ?_ | exact zB | exact zC | exact zD | exact zE | rfl | exact zN rfl | omega | assumption | (simp; done) | (simp [splice]; done) | (simp; omega) | (unfold fits; omega) | (unfold fits; simp_all; omega) | (simp_all; omega) | (simp_all; done) | intro _ | exact zI ?_ ?_ | intro _))))); try (refine L.nil ?_))
  repeat refine S.seq ?_
  refine S.cut (ι := Unit) (fun _ => [(12, actsA (onceL C D back again)), (13, .v (.int .i64 (onceW back again))), (14, actsA [kpA 0 0 bK, oD C 1 again]), (15, .v (.int .i64 (if again then 2 else 0)))]) (fun _ => []) ?_ ?_
  · ((repeat refine S.seq ?_); refine S.cond rfl (fun h => ?_) (fun h => ?_) <;> (try first | refine S.skip ?_ | refine S.exit ?_))
    · ((repeat refine S.seq ?_); refine S.region (L.go (T := tt) tt_ok rfl rfl ?sd231 ?_); (try (case sd231 => (repeat' ((first | first | exact trivial | exact zA | with_reducible refine zI ?_ ?_ | exact zB | exact zC | exact zD | exact zE | rfl | exact zN rfl | omega | assumption | (simp; done) | (simp [splice]; done) | (simp; omega) | (unfold fits; omega) | (unfold fits; simp_all; omega) | (simp_all; omega) | (simp_all; done) | intro _ | exact zI ?_ ?_ | intro _))))); try (refine L.nil ?_))
      exact fun a w hR => ⟨(), hR.weakP ⟨Imp.refl _, Imp.refl _, Imp.refl _, Imp.of_eq (by rw [show again = true from h]; rfl), trivial⟩ (Sub.refl _)⟩
    · exact fun a w hR => ⟨(), hR.weakP ⟨Imp.refl _, Imp.refl _, Imp.refl _, Imp.of_eq (by rw [show again = false from h]; rfl), trivial⟩ (Sub.refl _)⟩
  rintro ⟨⟩
  have hn2 : (onceL C D back again).length ≤ 900 := by cases back <;> simp [onceL, once1]
  repeat refine S.seq ?_
  refine S.region ?_
  refine L.callP rfl rfl rfl rfl rfl rfl rfl ⟨trivial, by (repeat' ((first | first | exact trivial | exact zA | with_reducible refine zI ?_ ?_ | exact zB | exact zC | exact zD | exact zE | rfl | exact zN rfl | omega | assumption | (simp; done) | (simp [splice]; done) | (simp; omega) | (unfold fits; omega) | (unfold fits; simp_all; omega) | (simp_all; omega) | (simp_all; done) | intro _ | exact zI ?_ ?_ | intro _)))⟩ rfl (Imps.refl _) told21_p ?_
  (refine L.go (T := tt) tt_ok rfl rfl ?sd242 ?_; (try (case sd242 => (repeat' ((first | first | exact trivial | exact zA | with_reducible refine zI ?_ ?_ | exact zB | exact zC | exact zD | exact zE | rfl | exact zN rfl | omega | assumption | (simp; done) | (simp [splice]; done) | (simp; omega) | (unfold fits; omega) | (unfold fits; simp_all; omega) | (simp_all; omega) | (simp_all; done) | intro _ | exact zI ?_ ?_ | intro _))))); try (refine L.nil ?_))
  refine L.callG rfl rfl rfl rfl rfl rfl rfl (fun _ => ⟨trivial, by (repeat' ((first | first | exact trivial | exact zA | with_reducible refine zI ?_ ?_ | exact zB | exact zC | exact zD | exact zE | rfl | exact zN rfl | omega | assumption | (simp; done) | (simp [splice]; done) | (simp; omega) | (unfold fits; omega) | (unfold fits; simp_all; omega) | (simp_all; omega) | (simp_all; done) | intro _ | exact zI ?_ ?_ | intro _)))⟩) rfl (Imps.refl _) (fun _ => (check_eq (Nat.ble_eq_true_of_le hn2) k1 k2)) ?_
  (refine L.go (T := tt) tt_ok rfl rfl ?sd243 ?_; (try (case sd243 => (repeat' ((first | first | exact trivial | exact zA | with_reducible refine zI ?_ ?_ | exact zB | exact zC | exact zD | exact zE | rfl | exact zN rfl | omega | assumption | (simp; done) | (simp [splice]; done) | (simp; omega) | (unfold fits; omega) | (unfold fits; simp_all; omega) | (simp_all; omega) | (simp_all; done) | intro _ | exact zI ?_ ?_ | intro _))))); try (refine L.nil ?_))
  refine L.callG rfl rfl rfl rfl rfl rfl rfl (fun _ => ⟨trivial, by (repeat' ((first | first | exact trivial | exact zA | with_reducible refine zI ?_ ?_ | exact zB | exact zC | exact zD | exact zE | rfl | exact zN rfl | omega | assumption | (simp; done) | (simp [splice]; done) | (simp; omega) | (unfold fits; omega) | (unfold fits; simp_all; omega) | (simp_all; omega) | (simp_all; done) | intro _ | exact zI ?_ ?_ | intro _)))⟩) rfl (Imps.refl _) (fun _ => (check_eq rfl k3 k4)) ?_
  (refine L.go (T := tt) tt_ok rfl rfl ?sd244 ?_; (try (case sd244 => (repeat' ((first | first | exact trivial | exact zA | with_reducible refine zI ?_ ?_ | exact zB | exact zC | exact zD | exact zE | rfl | exact zN rfl | omega | assumption | (simp; done) | (simp [splice]; done) | (simp; omega) | (unfold fits; omega) | (unfold fits; simp_all; omega) | (simp_all; omega) | (simp_all; done) | intro _ | exact zI ?_ ?_ | intro _))))); try (refine L.nil ?_))
  (((repeat refine S.seq ?_); refine S.ret ?_); refine E.retP (T := tt) tt_ok rfl rfl (by (repeat' ((first | first | exact trivial | exact zA | with_reducible refine zI ?_ ?_ | exact zB | exact zC | exact zD | exact zE | rfl | exact zN rfl | omega | assumption | (simp; done) | (simp [splice]; done) | (simp; omega) | (unfold fits; omega) | (unfold fits; simp_all; omega) | (simp_all; omega) | (simp_all; done) | intro _ | exact zI ?_ ?_ | intro _)))) ?_)
  exact Imp.of_eq (by simp [oneOf])
end Go.Proofs.YtfdneepgpekmiaaDoor
