/- Texts of this proof, laid together: JrO, JrP. -/
import Derived.Test.YtfdneepgpekmiaaDoorMjK
import Derived.Test.YtfdneepgpekmiaaDoorMjC
/- What the judge says of messages in order, and of refused ones. -/
namespace Go.Proofs.YtfdneepgpekmiaaDoor
set_option linter.unusedVariables false
set_option linter.unusedSimpArgs false
set_option maxHeartbeats 8000000
open Go.RowKit
set_option maxRecDepth 8000

def pA (i : Int) : ActD := ⟨1, 0, 0, i, 0, 0, bK, bB1, 1, default⟩
def cA (i : Int) : ActD := ⟨2, 0, 0, i, 0, 0, bK, ByteArray.empty, 0, default⟩
def rA (i : Int) : ActD := ⟨3, 0, 0, i, 0, 0, bK, ByteArray.empty, 0, default⟩
def dA (t s : Int) (again : Bool) : ActD := ⟨4, 0, 0, 0, t, 0, ByteArray.empty, ByteArray.empty, 0, ⟨0, s, bK, bB1, again⟩⟩
def aA (t : Int) : ActD := ⟨5, 0, 0, 0, t, 0, ByteArray.empty, ByteArray.empty, 0, default⟩
def sA (t : Int) : ActD := ⟨6, 0, 0, 0, t, 0, ByteArray.empty, ByteArray.empty, 0, default⟩
def pubL : Nat → List ActD
  | 0 => []
  | k + 1 => pubL k ++ [pA (k + 1), cA (k + 1)]
theorem pubL_len : ∀ k, (pubL k).length = 2 * k
  | 0 => rfl
  | k + 1 => by rw [pubL, List.length_append, pubL_len k]; simp; omega
def ordL (K : Nat) : Nat → List ActD
  | 0 => pubL K
  | j + 1 => ordL K j ++ [dA (j + 1) (j + 1) false, aA (j + 1), sA (j + 1)]
theorem ordL_len (K : Nat) : ∀ j, (ordL K j).length = 2 * K + 3 * j
  | 0 => pubL_len K
  | j + 1 => by rw [ordL, List.length_append, ordL_len K j]; simp; omega
def ord1 (K E : Nat) : List ActD := pubL K ++ [dA 1 (E + 1) false]
def ord2 (K E : Nat) : List ActD := ordL K K ++ [dA (K + 1) (E + 1) true]
theorem order_ok : ∀ K : Fin 8, (ordL (K + 1) (K + 1)).all okB = true ∧ checkJ (ordL (K + 1) (K + 1)) = 0 ∧ openJ (ordL (K + 1) (K + 1)) = [] := by decide +kernel
theorem order_ok2 : ∀ K E : Fin 8, E.val ≤ K.val → (ord1 (K + 1) E).all okB = true ∧ ((checkJ (ord1 (K + 1) E) == 0) = ((E.val : Int) + 1 == 1)) ∧ (ord2 (K + 1) E).all okB = true ∧ checkJ (ord2 (K + 1) E) = (ord2 (K + 1) E).length := by decide +kernel
def refS (K R : Nat) : Nat → List ActD × Nat
  | 0 => ((pubL K).set (2 * R + 1) (rA (R + 1)), 0)
  | j + 1 => if j = R then refS K R j else ((refS K R j).1 ++ [dA ((refS K R j).2 + 1) (j + 1) false, aA ((refS K R j).2 + 1)], (refS K R j).2 + 1)
theorem refS_len (K R : Nat) : ∀ j, (refS K R j).2 ≤ j ∧ (refS K R j).1.length ≤ 2 * K + 2 * j
  | 0 => ⟨Nat.le_refl _, by show ((pubL K).set _ _).length ≤ _; rw [List.length_set, pubL_len]; omega⟩
  | j + 1 => by
    have := refS_len K R j
    unfold refS
    split
    · omega
    · simp only [List.length_append, List.length_cons, List.length_nil]
      omega
def ref1 (K R : Nat) : List ActD := (refS K R 0).1 ++ [dA 1 (R + 1) false]
theorem refused_ok : ∀ K : Fin 5, ∀ R : Fin 6, R.val < K.val + 2 → (ref1 (K + 2) R).all okB = true ∧ checkJ (ref1 (K + 2) R) = (ref1 (K + 2) R).length ∧ (refS (K + 2) R (K + 2)).1.all okB = true ∧ checkJ (refS (K + 2) R (K + 2)).1 = 0 ∧ ((refS (K + 2) R (K + 2)).1.countP fun a => a.kind == 1) = K + 2 := by decide +kernel
end Go.Proofs.YtfdneepgpekmiaaDoor

/- JudgeOrder, JudgeRefused. -/
namespace Go.Proofs.YtfdneepgpekmiaaDoor
set_option linter.unusedVariables false
set_option linter.unusedSimpArgs false
set_option maxHeartbeats 8000000
open Go.RowKit
set_option maxRecDepth 8000

theorem published_p (n : Nat) (hn : n ≤ 100) : FnC Tryd.prog 34 [.v (.int .i64 n)] [] (fun r F' => ∃ y, r = .ref 82 y ∧ F' = [(82, .own y 56 14 (pubL n).length (gOf ActD.cells (pubL n)))]) := by
  refine FnC.intro Tryd.func34 rfl Tryd.ntmps34 rfl ?_; intro off w0
  ((repeat refine S.seq ?_); refine S.region (L.go (T := tt) tt_ok rfl rfl ?sd1 ?_); (try (case sd1 => (repeat' ((first | first | exact trivial | exact zA | with_reducible refine zI ?_ ?_ | exact zB | exact zC | exact zD | exact zE | rfl | exact zN rfl | omega | assumption | (simp; done) | (simp [splice]; done) | (simp; omega) | (unfold fits; omega) | (unfold fits; simp_all; omega) | (simp_all; omega) | (simp_all; done) | intro _ | exact zI ?_ ?_ | intro _))))); try (refine L.nil ?_))
  ((repeat refine S.seq ?_); refine S.region (L.go (T := tt) tt_ok rfl rfl ?sd2 ?_); (try (case sd2 => (repeat' ((first | first | exact trivial | exact zA | with_reducible refine zI ?_ ?_ | exact zB | exact zC | exact zD | exact zE | rfl | exact zN rfl | omega | assumption | (simp; done) | (simp [splice]; done) | (simp; omega) | (unfold fits; omega) | (unfold fits; simp_all; omega) | (simp_all; omega) | (simp_all; done) | intro _ | exact zI ?_ ?_ | intro _))))); try (refine L.nil ?_))
  ((repeat refine S.seq ?_); refine S.region (L.go (T := tt) tt_ok rfl rfl ?sd3 ?_); (try (case sd3 => (repeat' ((first | first | exact trivial | exact zA | with_reducible refine zI ?_ ?_ | exact zB | exact zC | exact zD | exact zE | rfl | exact zN rfl | omega | assumption | (simp; done) | (simp [splice]; done) | (simp; omega) | (unfold fits; omega) | (unfold fits; simp_all; omega) | (simp_all; omega) | (simp_all; done) | intro _ | exact zI ?_ ?_ | intro _))))); try (refine L.nil ?_))
  refine nilRow 82 56 14 (gOf ActD.cells (pubL 0)) ?_
  refine slotAs 3 (.ref 82 (.slice none 0 0)) rfl (Imp.vref rfl) ?_
  repeat refine S.seq ?_
  refine S.block (S.loop (ι := { k : Nat × Value // k.1 ≤ n }) (fun k => [(0, .v (.int .i64 n)), (3, .ref 82 k.1.2), (4, .v (.int .i64 ((k.1.1 : Int) + 1)))])
    (fun k => [(82, .own k.1.2 56 14 (pubL k.1.1).length (gOf ActD.cells (pubL k.1.1)))]) (fun k => n - k.1.1) ?_ ?_)
  · exact fun a w h => ⟨⟨(0, .slice none 0 0), Nat.zero_le _⟩, h.weakP (by (repeat' (first | exact True.intro | exact Imp.refl _ | refine ⟨?_, ?_⟩))) (Sub.self _)⟩
  rintro ⟨⟨k, y⟩, hk⟩
  dsimp only at hk ⊢
  have hlen := pubL_len k
  ((repeat refine S.seq ?_); refine S.region (L.go (T := tt) tt_ok rfl rfl ?sd4 ?_); (try (case sd4 => (repeat' ((first | first | exact trivial | exact zA | with_reducible refine zI ?_ ?_ | exact zB | exact zC | exact zD | exact zE | rfl | exact zN rfl | omega | assumption | (simp; done) | (simp [splice]; done) | (simp; omega) | (unfold fits; omega) | (unfold fits; simp_all; omega) | (simp_all; omega) | (simp_all; done) | intro _ | exact zI ?_ ?_ | intro _))))); try (refine L.nil ?_))
  ((repeat refine S.seq ?_); refine S.cond rfl (fun hc => ?_) (fun hc => ?_) <;> (try first | refine S.skip ?_ | refine S.exit ?_))
  · have hkl : k < n := by have := of_dec hc; omega
    repeat refine S.seq ?_
    refine S.block ?_
    repeat refine S.seq ?_
    refine S.region ?_
    (refine L.go (T := tt) tt_ok rfl rfl ?sd23 ?_; (try (case sd23 => (repeat' ((first | first | exact trivial | exact zA | with_reducible refine zI ?_ ?_ | exact zB | exact zC | exact zD | exact zE | rfl | exact zN rfl | omega | assumption | (simp; done) | (simp [splice]; done) | (simp; omega) | (unfold fits; omega) | (unfold fits; simp_all; omega) | (simp_all; omega) | (simp_all; done) | intro _ | exact zI ?_ ?_ | intro _))))); try (refine L.nil ?_))
    refine slotAs 12 (pA (k + 1)).av rfl (Imp.refl _) ?_
    refine slotAs 14 (cA (k + 1)).av rfl (Imp.refl _) ?_
    refine L.buildSlice (T := tt) 85 tt_ok rfl rfl rfl rfl rfl rfl (by decide) (by decide) rfl rfl (by (repeat' ((first | first | exact trivial | exact zA | with_reducible refine zI ?_ ?_ | exact zB | exact zC | exact zD | exact zE | rfl | exact zN rfl | omega | assumption | (simp; done) | (simp [splice]; done) | (simp; omega) | (unfold fits; omega) | (unfold fits; simp_all; omega) | (simp_all; omega) | (simp_all; done) | intro _ | exact zI ?_ ?_ | intro _)))) fun x15 => ?_
    refine L.append (T := tt) tt_ok rfl rfl rfl rfl rfl rfl rfl rfl rfl rfl (by (repeat' ((first | first | exact trivial | exact zA | with_reducible refine zI ?_ ?_ | exact zB | exact zC | exact zD | exact zE | rfl | exact zN rfl | omega | assumption | (simp; done) | (simp [splice]; done) | (simp; omega) | (unfold fits; omega) | (unfold fits; simp_all; omega) | (simp_all; omega) | (simp_all; done) | intro _ | exact zI ?_ ?_ | intro _)))) ⟨rfl, by decide, by decide⟩ (by show ((pubL k).length + 2) * 144 ≤ _; omega) fun y16 => ?_
    (refine L.go (T := tt) tt_ok rfl rfl ?sd24 ?_; (try (case sd24 => (repeat' ((first | first | exact trivial | exact zA | with_reducible refine zI ?_ ?_ | exact zB | exact zC | exact zD | exact zE | rfl | exact zN rfl | omega | assumption | (simp; done) | (simp [splice]; done) | (simp; omega) | (unfold fits; omega) | (unfold fits; simp_all; omega) | (simp_all; omega) | (simp_all; done) | intro _ | exact zI ?_ ?_ | intro _))))); try (refine L.nil ?_))
    refine ownAs 82 (gOf ActD.cells (pubL (k + 1))) rfl (show (pubL k).length + 2 = (pubL (k + 1)).length by rw [pubL, List.length_append]; rfl) (fun i hi => by rw [pubL]; exact app_acts (pubL k) [pA (k + 1), cA (k + 1)] rfl (fun j hj => rfl) hi) ?_
    ((repeat refine S.seq ?_); refine S.region (L.go (T := tt) tt_ok rfl rfl ?sd5 ?_); (try (case sd5 => (repeat' ((first | first | exact trivial | exact zA | with_reducible refine zI ?_ ?_ | exact zB | exact zC | exact zD | exact zE | rfl | exact zN rfl | omega | assumption | (simp; done) | (simp [splice]; done) | (simp; omega) | (unfold fits; omega) | (unfold fits; simp_all; omega) | (simp_all; omega) | (simp_all; done) | intro _ | exact zI ?_ ?_ | intro _))))); try (refine L.nil ?_))
    exact fun a w h => ⟨⟨(k + 1, y16), by show k + 1 ≤ _; omega⟩, by show n - (k + 1) < n - k; omega, h.weakP (by (repeat' (first | exact True.intro | exact Imp.refl _ | refine ⟨?_, ?_⟩))) (by (repeat (first | exact Sub.refl _ | refine Sub.pick (by first | exact p0 | exact pS p0 | exact pS (pS p0) | exact pS (pS (pS p0)) | exact pS (pS (pS (pS p0))) | exact pS (pS (pS (pS (pS p0))))) ?_)))⟩
  have hkl : k = n := by have := of_dec' hc; omega
  subst hkl
  ((repeat refine S.seq ?_); refine S.region (L.go (T := tt) tt_ok rfl rfl ?sd6 ?_); (try (case sd6 => (repeat' ((first | first | exact trivial | exact zA | with_reducible refine zI ?_ ?_ | exact zB | exact zC | exact zD | exact zE | rfl | exact zN rfl | omega | assumption | (simp; done) | (simp [splice]; done) | (simp; omega) | (unfold fits; omega) | (unfold fits; simp_all; omega) | (simp_all; omega) | (simp_all; done) | intro _ | exact zI ?_ ?_ | intro _))))); try (refine L.nil ?_))
  ((repeat refine S.seq ?_); refine S.ret ?_)
  exact E.ret (T := tt) tt_ok rfl rfl (by (repeat' ((first | first | exact trivial | exact zA | with_reducible refine zI ?_ ?_ | exact zB | exact zC | exact zD | exact zE | rfl | exact zN rfl | omega | assumption | (simp; done) | (simp [splice]; done) | (simp; omega) | (unfold fits; omega) | (unfold fits; simp_all; omega) | (simp_all; omega) | (simp_all; done) | intro _ | exact zI ?_ ?_ | intro _)))) (F' := [(82, .own y 56 14 (pubL k).length (gOf ActD.cells (pubL k)))]) (Imp.refl _) (List.Sublist.refl _) ⟨_, rfl, rfl⟩

/-- A new list: an empty one, and another one's elements. -/
theorem copyJ (l : List ActD) {i : Nat} (h : i < 0 + l.length) : joinG 0 (rowsOf 14 []) (gOf ActD.cells l) i = gOf ActD.cells l i := by
  simp only [joinG, Nat.not_lt_zero, if_false, Nat.sub_zero]

theorem judgeOrder_p (n early : Int) : PFn Tryd.prog 10 [.v (.int .i64 n), .v (.int .i64 early)] (.v (.bool true)) := by
  obtain ⟨K, hK, hKe⟩ := umod n 8 (by decide) (by decide)
  have hw : IntKind.u64.wrap (1 + (K : Int)) = 1 + (K : Int) := by
    have : K < 8 := by omega
    revert this
    clear hK hKe
    revert K
    decide +kernel
  obtain ⟨D, hD, hDe⟩ := umod early (1 + (K : Int)) (by omega) (by omega)
  obtain ⟨o1, o2, o3⟩ := order_ok ⟨K, by omega⟩
  obtain ⟨q1, q2, q3, q4⟩ := order_ok2 ⟨K, by omega⟩ ⟨D, by omega⟩ (by show D ≤ K; omega)
  dsimp only at o1 o2 o3 q1 q2 q3 q4
  refine FnC.intro Tryd.func10 rfl Tryd.ntmps10 rfl ?_; intro off w0
  ((repeat refine S.seq ?_); refine S.region (L.go (T := tt) tt_ok rfl rfl ?sd7 ?_); (try (case sd7 => (repeat' ((first | first | exact trivial | exact zA | with_reducible refine zI ?_ ?_ | exact zB | exact zC | exact zD | exact zE | rfl | exact zN rfl | omega | assumption | (simp; done) | (simp [splice]; done) | (simp; omega) | (unfold fits; omega) | (unfold fits; simp_all; omega) | (simp_all; omega) | (simp_all; done) | intro _ | exact zI ?_ ?_ | intro _))))); try (refine L.nil ?_))
  ((repeat refine S.seq ?_); refine S.region (L.go (T := tt) tt_ok rfl rfl ?sd8 ?_); (try (case sd8 => (repeat' ((first | first | exact trivial | exact zA | with_reducible refine zI ?_ ?_ | exact zB | exact zC | exact zD | exact zE | rfl | exact zN rfl | omega | assumption | (simp; done) | (simp [splice]; done) | (simp; omega) | (unfold fits; omega) | (unfold fits; simp_all; omega) | (simp_all; omega) | (simp_all; done) | intro _ | exact zI ?_ ?_ | intro _))))); try (refine L.nil ?_))
  refine slotAs 5 (.v (.int .i64 (1 + (K : Int)))) rfl (Imp.of_eq (by rw [← hKe])) ?_
  ((repeat refine S.seq ?_); refine S.region (L.go (T := tt) tt_ok rfl rfl ?sd9 ?_); (try (case sd9 => (repeat' ((first | first | exact trivial | exact zA | with_reducible refine zI ?_ ?_ | exact zB | exact zC | exact zD | exact zE | rfl | exact zN rfl | omega | assumption | (simp; done) | (simp [splice]; done) | (simp; omega) | (unfold fits; omega) | (unfold fits; simp_all; omega) | (simp_all; omega) | (simp_all; done) | intro _ | exact zI ?_ ?_ | intro _))))); try (refine L.nil ?_))
  refine slotAs 6 (.v (.int .i64 (1 + (D : Int)))) rfl (Imp.of_eq (by rw [hw, ← hDe])) ?_
  repeat refine S.seq ?_
  refine S.region ?_
  (refine L.go (T := tt) tt_ok rfl rfl ?sd25 ?_; (try (case sd25 => (repeat' ((first | first | exact trivial | exact zA | with_reducible refine zI ?_ ?_ | exact zB | exact zC | exact zD | exact zE | rfl | exact zN rfl | omega | assumption | (simp; done) | (simp [splice]; done) | (simp; omega) | (unfold fits; omega) | (unfold fits; simp_all; omega) | (simp_all; omega) | (simp_all; done) | intro _ | exact zI ?_ ?_ | intro _))))); try (refine L.nil ?_))
  refine slotAs 22 (.v (.int .i64 ((K + 1 : Nat) : Int))) rfl (Imp.of_eq (by rw [show ((K + 1 : Nat) : Int) = 1 + (K : Int) by omega])) ?_
  refine L.call (G := []) (H := []) rfl rfl rfl rfl rfl rfl rfl ⟨trivial, by (repeat' ((first | first | exact trivial | exact zA | with_reducible refine zI ?_ ?_ | exact zB | exact zC | exact zD | exact zE | rfl | exact zN rfl | omega | assumption | (simp; done) | (simp [splice]; done) | (simp; omega) | (unfold fits; omega) | (unfold fits; simp_all; omega) | (simp_all; omega) | (simp_all; done) | intro _ | exact zI ?_ ?_ | intro _)))⟩ rfl (by exact Imps.refl [.v (.int .i64 ((K + 1 : Nat) : Int))]) (List.Perm.refl _) (published_p (K + 1) (by omega)) ?_
  rintro r F' ⟨y, rfl, rfl⟩
  (refine L.go (T := tt) tt_ok rfl rfl ?sd26 ?_; (try (case sd26 => (repeat' ((first | first | exact trivial | exact zA | with_reducible refine zI ?_ ?_ | exact zB | exact zC | exact zD | exact zE | rfl | exact zN rfl | omega | assumption | (simp; done) | (simp [splice]; done) | (simp; omega) | (unfold fits; omega) | (unfold fits; simp_all; omega) | (simp_all; omega) | (simp_all; done) | intro _ | exact zI ?_ ?_ | intro _))))); try (refine L.nil ?_))
  have hpl := pubL_len (K + 1)
  repeat refine S.seq ?_
  refine S.region ?_
  refine L.buildSlice (T := tt) 83 tt_ok rfl rfl rfl rfl rfl rfl (by decide) (by decide) rfl rfl (by (repeat' ((first | first | exact trivial | exact zA | with_reducible refine zI ?_ ?_ | exact zB | exact zC | exact zD | exact zE | rfl | exact zN rfl | omega | assumption | (simp; done) | (simp [splice]; done) | (simp; omega) | (unfold fits; omega) | (unfold fits; simp_all; omega) | (simp_all; omega) | (simp_all; done) | intro _ | exact zI ?_ ?_ | intro _)))) fun x24 => ?_
  (refine L.go (T := tt) tt_ok rfl rfl ?sd27 ?_; (try (case sd27 => (repeat' ((first | first | exact trivial | exact zA | with_reducible refine zI ?_ ?_ | exact zB | exact zC | exact zD | exact zE | rfl | exact zN rfl | omega | assumption | (simp; done) | (simp [splice]; done) | (simp; omega) | (unfold fits; omega) | (unfold fits; simp_all; omega) | (simp_all; omega) | (simp_all; done) | intro _ | exact zI ?_ ?_ | intro _))))); try (refine L.nil ?_))
  refine L.append (T := tt) tt_ok rfl rfl rfl rfl rfl rfl rfl rfl rfl rfl (by (repeat' ((first | first | exact trivial | exact zA | with_reducible refine zI ?_ ?_ | exact zB | exact zC | exact zD | exact zE | rfl | exact zN rfl | omega | assumption | (simp; done) | (simp [splice]; done) | (simp; omega) | (unfold fits; omega) | (unfold fits; simp_all; omega) | (simp_all; omega) | (simp_all; done) | intro _ | exact zI ?_ ?_ | intro _)))) ⟨rfl, by decide, by decide⟩ (by show (0 + (pubL (K + 1)).length) * 144 ≤ _; omega) fun y26 => ?_
  (refine L.go (T := tt) tt_ok rfl rfl ?sd28 ?_; (try (case sd28 => (repeat' ((first | first | exact trivial | exact zA | with_reducible refine zI ?_ ?_ | exact zB | exact zC | exact zD | exact zE | rfl | exact zN rfl | omega | assumption | (simp; done) | (simp [splice]; done) | (simp; omega) | (unfold fits; omega) | (unfold fits; simp_all; omega) | (simp_all; omega) | (simp_all; done) | intro _ | exact zI ?_ ?_ | intro _))))); try (refine L.nil ?_))
  refine ownAs 83 (gOf ActD.cells (pubL (K + 1))) rfl (Nat.zero_add _) (fun i hi => copyJ _ hi) ?_
  refine slotAs 29 (dA 1 (1 + (D : Int)) false).av rfl (Imp.refl _) ?_
  refine L.buildSlice (T := tt) 84 tt_ok rfl rfl rfl rfl rfl rfl (by decide) (by decide) rfl rfl (by (repeat' ((first | first | exact trivial | exact zA | with_reducible refine zI ?_ ?_ | exact zB | exact zC | exact zD | exact zE | rfl | exact zN rfl | omega | assumption | (simp; done) | (simp [splice]; done) | (simp; omega) | (unfold fits; omega) | (unfold fits; simp_all; omega) | (simp_all; omega) | (simp_all; done) | intro _ | exact zI ?_ ?_ | intro _)))) fun x30 => ?_
  refine L.append (T := tt) tt_ok rfl rfl rfl rfl rfl rfl rfl rfl rfl rfl (by (repeat' ((first | first | exact trivial | exact zA | with_reducible refine zI ?_ ?_ | exact zB | exact zC | exact zD | exact zE | rfl | exact zN rfl | omega | assumption | (simp; done) | (simp [splice]; done) | (simp; omega) | (unfold fits; omega) | (unfold fits; simp_all; omega) | (simp_all; omega) | (simp_all; done) | intro _ | exact zI ?_ ?_ | intro _)))) ⟨rfl, by decide, by decide⟩ (by show ((pubL (K + 1)).length + 1) * 144 ≤ _; omega) fun y31 => ?_
  (refine L.go (T := tt) tt_ok rfl rfl ?sd29 ?_; (try (case sd29 => (repeat' ((first | first | exact trivial | exact zA | with_reducible refine zI ?_ ?_ | exact zB | exact zC | exact zD | exact zE | rfl | exact zN rfl | omega | assumption | (simp; done) | (simp [splice]; done) | (simp; omega) | (unfold fits; omega) | (unfold fits; simp_all; omega) | (simp_all; omega) | (simp_all; done) | intro _ | exact zI ?_ ?_ | intro _))))); try (refine L.nil ?_))
  have e1 : ord1 (K + 1) D = pubL (K + 1) ++ [dA 1 (1 + (D : Int)) false] := by rw [ord1, show 1 + (D : Int) = (D : Int) + 1 by omega]
  refine ownAs 83 (gOf ActD.cells (ord1 (K + 1) D)) rfl (show (pubL (K + 1)).length + 1 = (ord1 (K + 1) D).length by rw [e1, List.length_append]; rfl) (fun i hi => by rw [e1]; exact app_acts (pubL (K + 1)) [dA 1 (1 + (D : Int)) false] rfl (fun j hj => rfl) hi) ?_
  refine freezeSlot 8 83 rfl rfl rfl ?_
  refine slotAs 8 (actsA (ord1 (K + 1) D)) rfl (Imp.refl _) ?_
  have hl1 : (ord1 (K + 1) D).length ≤ 900 := by rw [ord1, List.length_append, hpl]; simp; omega
  repeat refine S.seq ?_
  refine S.region ?_
  (refine L.go (T := tt) tt_ok rfl rfl ?sd30 ?_; (try (case sd30 => (repeat' ((first | first | exact trivial | exact zA | with_reducible refine zI ?_ ?_ | exact zB | exact zC | exact zD | exact zE | rfl | exact zN rfl | omega | assumption | (simp; done) | (simp [splice]; done) | (simp; omega) | (unfold fits; omega) | (unfold fits; simp_all; omega) | (simp_all; omega) | (simp_all; done) | intro _ | exact zI ?_ ?_ | intro _))))); try (refine L.nil ?_))
  refine L.callP rfl rfl rfl rfl rfl rfl rfl ⟨trivial, by (repeat' ((first | first | exact trivial | exact zA | with_reducible refine zI ?_ ?_ | exact zB | exact zC | exact zD | exact zE | rfl | exact zN rfl | omega | assumption | (simp; done) | (simp [splice]; done) | (simp; omega) | (unfold fits; omega) | (unfold fits; simp_all; omega) | (simp_all; omega) | (simp_all; done) | intro _ | exact zI ?_ ?_ | intro _)))⟩ rfl (Imps.refl _) (check_eq (Nat.ble_eq_true_of_le hl1) q1 rfl) ?_
  (refine L.go (T := tt) tt_ok rfl rfl ?sd31 ?_; (try (case sd31 => (repeat' ((first | first | exact trivial | exact zA | with_reducible refine zI ?_ ?_ | exact zB | exact zC | exact zD | exact zE | rfl | exact zN rfl | omega | assumption | (simp; done) | (simp [splice]; done) | (simp; omega) | (unfold fits; omega) | (unfold fits; simp_all; omega) | (simp_all; omega) | (simp_all; done) | intro _ | exact zI ?_ ?_ | intro _))))); try (refine L.nil ?_))
  refine slotAs 37 (.v (.bool false)) rfl (Imp.of_eq ?_) ?_
  · have e : ((1 + (D : Int)) == 1) = (((D : Int) + 1) == 1) := by rw [Int.add_comm]
    show AV.v (Value.bool ((checkJ (ord1 (K + 1) D) == 0) != ((1 + (D : Int)) == 1))) = _
    rw [e, q2]
    simp
  ((repeat refine S.seq ?_); refine S.cond rfl (fun h1 => ?_) (fun h1 => ?_) <;> (try first | refine S.skip ?_ | refine S.exit ?_))
  · cases h1
  ((repeat refine S.seq ?_); refine S.region (L.go (T := tt) tt_ok rfl rfl ?sd10 ?_); (try (case sd10 => (repeat' ((first | first | exact trivial | exact zA | with_reducible refine zI ?_ ?_ | exact zB | exact zC | exact zD | exact zE | rfl | exact zN rfl | omega | assumption | (simp; done) | (simp [splice]; done) | (simp; omega) | (unfold fits; omega) | (unfold fits; simp_all; omega) | (simp_all; omega) | (simp_all; done) | intro _ | exact zI ?_ ?_ | intro _))))); try (refine L.nil ?_))
  repeat refine S.seq ?_
  refine S.block (S.loop (ι := { k : Nat × Value // k.1 ≤ K + 1 }) (fun k => [(5, .v (.int .i64 (1 + (K : Int)))), (6, .v (.int .i64 (1 + (D : Int)))), (7, .ref 82 k.1.2), (9, .v (.int .i64 ((k.1.1 : Int) + 1)))])
    (fun k => [(82, .own k.1.2 56 14 (ordL (K + 1) k.1.1).length (gOf ActD.cells (ordL (K + 1) k.1.1)))]) (fun k => K + 1 - k.1.1) ?_ ?_)
  · exact fun a w h => ⟨⟨(0, y), Nat.zero_le _⟩, h.weakP (by (repeat' (first | exact True.intro | exact Imp.refl _ | refine ⟨?_, ?_⟩))) (by (repeat (first | exact Sub.refl _ | refine Sub.pick (by first | exact p0 | exact pS p0 | exact pS (pS p0) | exact pS (pS (pS p0)) | exact pS (pS (pS (pS p0))) | exact pS (pS (pS (pS (pS p0))))) ?_)))⟩
  rintro ⟨⟨k, y⟩, hk⟩
  dsimp only at hk ⊢
  have hlen := ordL_len (K + 1) k
  ((repeat refine S.seq ?_); refine S.region (L.go (T := tt) tt_ok rfl rfl ?sd11 ?_); (try (case sd11 => (repeat' ((first | first | exact trivial | exact zA | with_reducible refine zI ?_ ?_ | exact zB | exact zC | exact zD | exact zE | rfl | exact zN rfl | omega | assumption | (simp; done) | (simp [splice]; done) | (simp; omega) | (unfold fits; omega) | (unfold fits; simp_all; omega) | (simp_all; omega) | (simp_all; done) | intro _ | exact zI ?_ ?_ | intro _))))); try (refine L.nil ?_))
  ((repeat refine S.seq ?_); refine S.cond rfl (fun hc => ?_) (fun hc => ?_) <;> (try first | refine S.skip ?_ | refine S.exit ?_))
  · have hkl : k < K + 1 := by have := of_dec hc; omega
    repeat refine S.seq ?_
    refine S.block ?_
    repeat refine S.seq ?_
    refine S.region ?_
    (refine L.go (T := tt) tt_ok rfl rfl ?sd32 ?_; (try (case sd32 => (repeat' ((first | first | exact trivial | exact zA | with_reducible refine zI ?_ ?_ | exact zB | exact zC | exact zD | exact zE | rfl | exact zN rfl | omega | assumption | (simp; done) | (simp [splice]; done) | (simp; omega) | (unfold fits; omega) | (unfold fits; simp_all; omega) | (simp_all; omega) | (simp_all; done) | intro _ | exact zI ?_ ?_ | intro _))))); try (refine L.nil ?_))
    refine slotAs 47 (dA (k + 1) (k + 1) false).av rfl (Imp.refl _) ?_
    refine slotAs 49 (aA (k + 1)).av rfl (Imp.refl _) ?_
    refine slotAs 51 (sA (k + 1)).av rfl (Imp.refl _) ?_
    refine L.buildSlice (T := tt) 85 tt_ok rfl rfl rfl rfl rfl rfl (by decide) (by decide) rfl rfl (by (repeat' ((first | first | exact trivial | exact zA | with_reducible refine zI ?_ ?_ | exact zB | exact zC | exact zD | exact zE | rfl | exact zN rfl | omega | assumption | (simp; done) | (simp [splice]; done) | (simp; omega) | (unfold fits; omega) | (unfold fits; simp_all; omega) | (simp_all; omega) | (simp_all; done) | intro _ | exact zI ?_ ?_ | intro _)))) fun x52 => ?_
    refine L.append (T := tt) tt_ok rfl rfl rfl rfl rfl rfl rfl rfl rfl rfl (by (repeat' ((first | first | exact trivial | exact zA | with_reducible refine zI ?_ ?_ | exact zB | exact zC | exact zD | exact zE | rfl | exact zN rfl | omega | assumption | (simp; done) | (simp [splice]; done) | (simp; omega) | (unfold fits; omega) | (unfold fits; simp_all; omega) | (simp_all; omega) | (simp_all; done) | intro _ | exact zI ?_ ?_ | intro _)))) ⟨rfl, by decide, by decide⟩ (by show ((ordL (K + 1) k).length + 3) * 144 ≤ _; omega) fun y53 => ?_
    (refine L.go (T := tt) tt_ok rfl rfl ?sd33 ?_; (try (case sd33 => (repeat' ((first | first | exact trivial | exact zA | with_reducible refine zI ?_ ?_ | exact zB | exact zC | exact zD | exact zE | rfl | exact zN rfl | omega | assumption | (simp; done) | (simp [splice]; done) | (simp; omega) | (unfold fits; omega) | (unfold fits; simp_all; omega) | (simp_all; omega) | (simp_all; done) | intro _ | exact zI ?_ ?_ | intro _))))); try (refine L.nil ?_))
    refine ownAs 82 (gOf ActD.cells (ordL (K + 1) (k + 1))) rfl (show (ordL (K + 1) k).length + 3 = (ordL (K + 1) (k + 1)).length by rw [ordL, List.length_append]; rfl) (fun i hi => by rw [ordL]; exact app_acts (ordL (K + 1) k) [dA (k + 1) (k + 1) false, aA (k + 1), sA (k + 1)] rfl (fun j hj => rfl) hi) ?_
    ((repeat refine S.seq ?_); refine S.region (L.go (T := tt) tt_ok rfl rfl ?sd12 ?_); (try (case sd12 => (repeat' ((first | first | exact trivial | exact zA | with_reducible refine zI ?_ ?_ | exact zB | exact zC | exact zD | exact zE | rfl | exact zN rfl | omega | assumption | (simp; done) | (simp [splice]; done) | (simp; omega) | (unfold fits; omega) | (unfold fits; simp_all; omega) | (simp_all; omega) | (simp_all; done) | intro _ | exact zI ?_ ?_ | intro _))))); try (refine L.nil ?_))
    exact fun a w h => ⟨⟨(k + 1, y53), by show k + 1 ≤ _; omega⟩, by show K + 1 - (k + 1) < K + 1 - k; omega, h.weakP (by (repeat' (first | exact True.intro | exact Imp.refl _ | refine ⟨?_, ?_⟩))) (by (repeat (first | exact Sub.refl _ | refine Sub.pick (by first | exact p0 | exact pS p0 | exact pS (pS p0) | exact pS (pS (pS p0)) | exact pS (pS (pS (pS p0))) | exact pS (pS (pS (pS (pS p0))))) ?_)))⟩
  have hkl : k = K + 1 := by have := of_dec' hc; omega
  subst hkl
  have hl2 : (ordL (K + 1) (K + 1)).length ≤ 900 := by omega
  repeat refine S.seq ?_
  refine S.region ?_
  (refine L.go (T := tt) tt_ok rfl rfl ?sd34 ?_; (try (case sd34 => (repeat' ((first | first | exact trivial | exact zA | with_reducible refine zI ?_ ?_ | exact zB | exact zC | exact zD | exact zE | rfl | exact zN rfl | omega | assumption | (simp; done) | (simp [splice]; done) | (simp; omega) | (unfold fits; omega) | (unfold fits; simp_all; omega) | (simp_all; omega) | (simp_all; done) | intro _ | exact zI ?_ ?_ | intro _))))); try (refine L.nil ?_))
  refine L.call (G := [(82, .own y 56 14 (ordL (K + 1) (K + 1)).length (gOf ActD.cells (ordL (K + 1) (K + 1))))]) (H := []) rfl rfl rfl rfl rfl rfl rfl ⟨trivial, by (repeat' ((first | first | exact trivial | exact zA | with_reducible refine zI ?_ ?_ | exact zB | exact zC | exact zD | exact zE | rfl | exact zN rfl | omega | assumption | (simp; done) | (simp [splice]; done) | (simp; omega) | (unfold fits; omega) | (unfold fits; simp_all; omega) | (simp_all; omega) | (simp_all; done) | intro _ | exact zI ?_ ?_ | intro _)))⟩ rfl (by exact Imps.refl [.ref 82 y]) (List.Perm.refl _) (borrow0 (check_eq (Nat.ble_eq_true_of_le hl2) o1 o2)) ?_
  rintro r F' ⟨rfl, rfl⟩
  (refine L.go (T := tt) tt_ok rfl rfl ?sd35 ?_; (try (case sd35 => (repeat' ((first | first | exact trivial | exact zA | with_reducible refine zI ?_ ?_ | exact zB | exact zC | exact zD | exact zE | rfl | exact zN rfl | omega | assumption | (simp; done) | (simp [splice]; done) | (simp; omega) | (unfold fits; omega) | (unfold fits; simp_all; omega) | (simp_all; omega) | (simp_all; done) | intro _ | exact zI ?_ ?_ | intro _))))); try (refine L.nil ?_))
  refine slotAs 57 (.v (.bool false)) rfl (Imp.of_eq rfl) ?_
  refine L.callT (G := [(82, .own y 56 14 (ordL (K + 1) (K + 1)).length (gOf ActD.cells (ordL (K + 1) (K + 1))))]) (H := []) rfl rfl rfl rfl rfl rfl rfl rfl ⟨trivial, by (repeat' ((first | first | exact trivial | exact zA | with_reducible refine zI ?_ ?_ | exact zB | exact zC | exact zD | exact zE | rfl | exact zN rfl | omega | assumption | (simp; done) | (simp [splice]; done) | (simp; omega) | (unfold fits; omega) | (unfold fits; simp_all; omega) | (simp_all; omega) | (simp_all; done) | intro _ | exact zI ?_ ?_ | intro _)))⟩ rfl (by exact Imps.refl [.ref 82 y]) (List.Perm.refl _) (borrow1 (fun i hi => absurd hi (Nat.not_lt_zero i)) (open_eq (Nat.ble_eq_true_of_le hl2) o1 o3)) ?_
  rintro r F' ⟨y3, rfl, rfl⟩
  (refine L.go (T := tt) tt_ok rfl rfl ?sd36 ?_; (try (case sd36 => (repeat' ((first | first | exact trivial | exact zA | with_reducible refine zI ?_ ?_ | exact zB | exact zC | exact zD | exact zE | rfl | exact zN rfl | omega | assumption | (simp; done) | (simp [splice]; done) | (simp; omega) | (unfold fits; omega) | (unfold fits; simp_all; omega) | (simp_all; omega) | (simp_all; done) | intro _ | exact zI ?_ ?_ | intro _))))); try (refine L.nil ?_))
  ((repeat refine S.seq ?_); refine S.cond rfl (fun h2 => ?_) (fun h2 => ?_) <;> (try first | refine S.skip ?_ | refine S.exit ?_))
  · cases h2
  have hlen2 : (ord2 (K + 1) D).length = 2 * (K + 1) + 3 * (K + 1) + 1 := by rw [ord2, List.length_append, hlen]; rfl
  have e2 : ord2 (K + 1) D = ordL (K + 1) (K + 1) ++ [dA (1 + (K : Int) + 1) (1 + (D : Int)) true] := by rw [ord2, show 1 + (K : Int) + 1 = ((K + 1 : Nat) : Int) + 1 by omega, show 1 + (D : Int) = (D : Int) + 1 by omega]
  repeat refine S.seq ?_
  refine S.region ?_
  (refine L.go (T := tt) tt_ok rfl rfl ?sd37 ?_; (try (case sd37 => (repeat' ((first | first | exact trivial | exact zA | with_reducible refine zI ?_ ?_ | exact zB | exact zC | exact zD | exact zE | rfl | exact zN rfl | omega | assumption | (simp; done) | (simp [splice]; done) | (simp; omega) | (unfold fits; omega) | (unfold fits; simp_all; omega) | (simp_all; omega) | (simp_all; done) | intro _ | exact zI ?_ ?_ | intro _))))); try (refine L.nil ?_))
  refine slotAs 68 (dA (1 + (K : Int) + 1) (1 + (D : Int)) true).av rfl (Imp.refl _) ?_
  refine L.buildSlice (T := tt) 85 tt_ok rfl rfl rfl rfl rfl rfl (by decide) (by decide) rfl rfl (by (repeat' ((first | first | exact trivial | exact zA | with_reducible refine zI ?_ ?_ | exact zB | exact zC | exact zD | exact zE | rfl | exact zN rfl | omega | assumption | (simp; done) | (simp [splice]; done) | (simp; omega) | (unfold fits; omega) | (unfold fits; simp_all; omega) | (simp_all; omega) | (simp_all; done) | intro _ | exact zI ?_ ?_ | intro _)))) fun x69 => ?_
  refine L.append (T := tt) tt_ok rfl rfl rfl rfl rfl rfl rfl rfl rfl rfl (by (repeat' ((first | first | exact trivial | exact zA | with_reducible refine zI ?_ ?_ | exact zB | exact zC | exact zD | exact zE | rfl | exact zN rfl | omega | assumption | (simp; done) | (simp [splice]; done) | (simp; omega) | (unfold fits; omega) | (unfold fits; simp_all; omega) | (simp_all; omega) | (simp_all; done) | intro _ | exact zI ?_ ?_ | intro _)))) ⟨rfl, by decide, by decide⟩ (by show ((ordL (K + 1) (K + 1)).length + 1) * 144 ≤ _; omega) fun y70 => ?_
  (refine L.go (T := tt) tt_ok rfl rfl ?sd38 ?_; (try (case sd38 => (repeat' ((first | first | exact trivial | exact zA | with_reducible refine zI ?_ ?_ | exact zB | exact zC | exact zD | exact zE | rfl | exact zN rfl | omega | assumption | (simp; done) | (simp [splice]; done) | (simp; omega) | (unfold fits; omega) | (unfold fits; simp_all; omega) | (simp_all; omega) | (simp_all; done) | intro _ | exact zI ?_ ?_ | intro _))))); try (refine L.nil ?_))
  refine ownAs 82 (gOf ActD.cells (ord2 (K + 1) D)) rfl (show (ordL (K + 1) (K + 1)).length + 1 = (ord2 (K + 1) D).length by rw [hlen2, hlen]) (fun i hi => by rw [e2]; exact app_acts (ordL (K + 1) (K + 1)) [dA (1 + (K : Int) + 1) (1 + (D : Int)) true] rfl (fun j hj => rfl) hi) ?_
  refine freezeSlot 7 82 rfl rfl rfl ?_
  refine slotAs 7 (actsA (ord2 (K + 1) D)) rfl (Imp.refl _) ?_
  have hl3 : (ord2 (K + 1) D).length ≤ 900 := by omega
  repeat refine S.seq ?_
  refine S.region ?_
  refine L.callP rfl rfl rfl rfl rfl rfl rfl ⟨trivial, by (repeat' ((first | first | exact trivial | exact zA | with_reducible refine zI ?_ ?_ | exact zB | exact zC | exact zD | exact zE | rfl | exact zN rfl | omega | assumption | (simp; done) | (simp [splice]; done) | (simp; omega) | (unfold fits; omega) | (unfold fits; simp_all; omega) | (simp_all; omega) | (simp_all; done) | intro _ | exact zI ?_ ?_ | intro _)))⟩ rfl (Imps.refl _) told21_p ?_
  (refine L.go (T := tt) tt_ok rfl rfl ?sd39 ?_; (try (case sd39 => (repeat' ((first | first | exact trivial | exact zA | with_reducible refine zI ?_ ?_ | exact zB | exact zC | exact zD | exact zE | rfl | exact zN rfl | omega | assumption | (simp; done) | (simp [splice]; done) | (simp; omega) | (unfold fits; omega) | (unfold fits; simp_all; omega) | (simp_all; omega) | (simp_all; done) | intro _ | exact zI ?_ ?_ | intro _))))); try (refine L.nil ?_))
  refine L.callG rfl rfl rfl rfl rfl rfl rfl (fun _ => ⟨trivial, by (repeat' ((first | first | exact trivial | exact zA | with_reducible refine zI ?_ ?_ | exact zB | exact zC | exact zD | exact zE | rfl | exact zN rfl | omega | assumption | (simp; done) | (simp [splice]; done) | (simp; omega) | (unfold fits; omega) | (unfold fits; simp_all; omega) | (simp_all; omega) | (simp_all; done) | intro _ | exact zI ?_ ?_ | intro _)))⟩) rfl (Imps.refl _) (fun _ => (check_eq (Nat.ble_eq_true_of_le hl3) q3 q4)) ?_
  (refine L.go (T := tt) tt_ok rfl rfl ?sd40 ?_; (try (case sd40 => (repeat' ((first | first | exact trivial | exact zA | with_reducible refine zI ?_ ?_ | exact zB | exact zC | exact zD | exact zE | rfl | exact zN rfl | omega | assumption | (simp; done) | (simp [splice]; done) | (simp; omega) | (unfold fits; omega) | (unfold fits; simp_all; omega) | (simp_all; omega) | (simp_all; done) | intro _ | exact zI ?_ ?_ | intro _))))); try (refine L.nil ?_))
  (((repeat refine S.seq ?_); refine S.ret ?_); refine E.retP (T := tt) tt_ok rfl rfl (by (repeat' ((first | first | exact trivial | exact zA | with_reducible refine zI ?_ ?_ | exact zB | exact zC | exact zD | exact zE | rfl | exact zN rfl | omega | assumption | (simp; done) | (simp [splice]; done) | (simp; omega) | (unfold fits; omega) | (unfold fits; simp_all; omega) | (simp_all; omega) | (simp_all; done) | intro _ | exact zI ?_ ?_ | intro _)))) ?_)
  exact Imp.of_eq (by simp [oneOf])

theorem judgeRefused_p (n which : Int) : PFn Tryd.prog 11 [.v (.int .i64 n), .v (.int .i64 which)] (.v (.bool true)) := by
  obtain ⟨K, hK, hKe⟩ := umod n 5 (by decide) (by decide)
  have hw : IntKind.u64.wrap (2 + (K : Int)) = 2 + (K : Int) := by
    have : K < 8 := by omega
    revert this
    clear hK hKe
    revert K
    decide +kernel
  obtain ⟨D, hD, hDe⟩ := umod which (2 + (K : Int)) (by omega) (by omega)
  obtain ⟨o1, o2, o3, o4, o5⟩ := refused_ok ⟨K, by omega⟩ ⟨D, by omega⟩ (by show D < K + 2; omega)
  dsimp only at o1 o2 o3 o4 o5
  have hpl := pubL_len (K + 2)
  obtain ⟨L0, hL0⟩ : ∃ L0, L0 = (refS (K + 2) D 0).1 := ⟨_, rfl⟩
  have hL0e : L0 = (pubL (K + 2)).set (2 * D + 1) (rA (D + 1)) := hL0
  have hL0l : L0.length = 2 * (K + 2) := by rw [hL0e, List.length_set, hpl]
  refine FnC.intro Tryd.func11 rfl Tryd.ntmps11 rfl ?_; intro off w0
  ((repeat refine S.seq ?_); refine S.region (L.go (T := tt) tt_ok rfl rfl ?sd13 ?_); (try (case sd13 => (repeat' ((first | first | exact trivial | exact zA | with_reducible refine zI ?_ ?_ | exact zB | exact zC | exact zD | exact zE | rfl | exact zN rfl | omega | assumption | (simp; done) | (simp [splice]; done) | (simp; omega) | (unfold fits; omega) | (unfold fits; simp_all; omega) | (simp_all; omega) | (simp_all; done) | intro _ | exact zI ?_ ?_ | intro _))))); try (refine L.nil ?_))
  ((repeat refine S.seq ?_); refine S.region (L.go (T := tt) tt_ok rfl rfl ?sd14 ?_); (try (case sd14 => (repeat' ((first | first | exact trivial | exact zA | with_reducible refine zI ?_ ?_ | exact zB | exact zC | exact zD | exact zE | rfl | exact zN rfl | omega | assumption | (simp; done) | (simp [splice]; done) | (simp; omega) | (unfold fits; omega) | (unfold fits; simp_all; omega) | (simp_all; omega) | (simp_all; done) | intro _ | exact zI ?_ ?_ | intro _))))); try (refine L.nil ?_))
  refine slotAs 5 (.v (.int .i64 (2 + (K : Int)))) rfl (Imp.of_eq (by rw [← hKe])) ?_
  ((repeat refine S.seq ?_); refine S.region (L.go (T := tt) tt_ok rfl rfl ?sd15 ?_); (try (case sd15 => (repeat' ((first | first | exact trivial | exact zA | with_reducible refine zI ?_ ?_ | exact zB | exact zC | exact zD | exact zE | rfl | exact zN rfl | omega | assumption | (simp; done) | (simp [splice]; done) | (simp; omega) | (unfold fits; omega) | (unfold fits; simp_all; omega) | (simp_all; omega) | (simp_all; done) | intro _ | exact zI ?_ ?_ | intro _))))); try (refine L.nil ?_))
  refine slotAs 6 (.v (.int .i64 (1 + (D : Int)))) rfl (Imp.of_eq (by rw [hw, ← hDe])) ?_
  repeat refine S.seq ?_
  refine S.region ?_
  (refine L.go (T := tt) tt_ok rfl rfl ?sd41 ?_; (try (case sd41 => (repeat' ((first | first | exact trivial | exact zA | with_reducible refine zI ?_ ?_ | exact zB | exact zC | exact zD | exact zE | rfl | exact zN rfl | omega | assumption | (simp; done) | (simp [splice]; done) | (simp; omega) | (unfold fits; omega) | (unfold fits; simp_all; omega) | (simp_all; omega) | (simp_all; done) | intro _ | exact zI ?_ ?_ | intro _))))); try (refine L.nil ?_))
  refine slotAs 23 (.v (.int .i64 ((K + 2 : Nat) : Int))) rfl (Imp.of_eq (by rw [show ((K + 2 : Nat) : Int) = 2 + (K : Int) by omega])) ?_
  refine L.call (G := []) (H := []) rfl rfl rfl rfl rfl rfl rfl ⟨trivial, by (repeat' ((first | first | exact trivial | exact zA | with_reducible refine zI ?_ ?_ | exact zB | exact zC | exact zD | exact zE | rfl | exact zN rfl | omega | assumption | (simp; done) | (simp [splice]; done) | (simp; omega) | (unfold fits; omega) | (unfold fits; simp_all; omega) | (simp_all; omega) | (simp_all; done) | intro _ | exact zI ?_ ?_ | intro _)))⟩ rfl (by exact Imps.refl [.v (.int .i64 ((K + 2 : Nat) : Int))]) (List.Perm.refl _) (published_p (K + 2) (by omega)) ?_
  rintro r F' ⟨y, rfl, rfl⟩
  (refine L.go (T := tt) tt_ok rfl rfl ?sd42 ?_; (try (case sd42 => (repeat' ((first | first | exact trivial | exact zA | with_reducible refine zI ?_ ?_ | exact zB | exact zC | exact zD | exact zE | rfl | exact zN rfl | omega | assumption | (simp; done) | (simp [splice]; done) | (simp; omega) | (unfold fits; omega) | (unfold fits; simp_all; omega) | (simp_all; omega) | (simp_all; done) | intro _ | exact zI ?_ ?_ | intro _))))); try (refine L.nil ?_))
  repeat refine S.seq ?_
  refine S.region ?_
  (refine L.go (T := tt) tt_ok rfl rfl ?sd43 ?_; (try (case sd43 => (repeat' ((first | first | exact trivial | exact zA | with_reducible refine zI ?_ ?_ | exact zB | exact zC | exact zD | exact zE | rfl | exact zN rfl | omega | assumption | (simp; done) | (simp [splice]; done) | (simp; omega) | (unfold fits; omega) | (unfold fits; simp_all; omega) | (simp_all; omega) | (simp_all; done) | intro _ | exact zI ?_ ?_ | intro _))))); try (refine L.nil ?_))
  (refine L.store (T := tt) tt_ok rfl rfl rfl rfl rfl rfl ?sd54 ?_; (try (case sd54 => (repeat' ((first | first | exact trivial | exact zA | with_reducible refine zI ?_ ?_ | exact zB | exact zC | exact zD | exact zE | rfl | exact zN rfl | omega | assumption | (simp; done) | (simp [splice]; done) | (simp; omega) | (unfold fits; omega) | (unfold fits; simp_all; omega) | (simp_all; omega) | (simp_all; done) | intro _ | exact zI ?_ ?_ | intro _))))))
  refine L.nil ?_
  have hix : (2 * (1 + (D : Int)) - 1).toNat = 2 * D + 1 := by omega
  have hD3 : D < K + 2 := by omega
  have hat : (pubL (K + 2)).getD (2 * D + 1) default = cA (D + 1) := by
    have : ∀ K : Fin 5, ∀ D : Fin 6, D.val < K.val + 2 → (pubL (K + 2)).getD (2 * D + 1) default = cA (D + 1) := by decide +kernel
    exact this ⟨K, by omega⟩ ⟨D, by omega⟩ hD3
  refine ownAs 82 (gOf ActD.cells L0) rfl (show (pubL (K + 2)).length = L0.length by rw [hL0l, hpl]) (fun j hj => ?_) ?_
  · rw [hL0e]
    simp only [hix]
    exact set_g ActD.cells (by omega) (by rw [hat]; rfl) hj
  repeat refine S.seq ?_
  refine S.region ?_
  refine L.buildSlice (T := tt) 83 tt_ok rfl rfl rfl rfl rfl rfl (by decide) (by decide) rfl rfl (by (repeat' ((first | first | exact trivial | exact zA | with_reducible refine zI ?_ ?_ | exact zB | exact zC | exact zD | exact zE | rfl | exact zN rfl | omega | assumption | (simp; done) | (simp [splice]; done) | (simp; omega) | (unfold fits; omega) | (unfold fits; simp_all; omega) | (simp_all; omega) | (simp_all; done) | intro _ | exact zI ?_ ?_ | intro _)))) fun x31 => ?_
  (refine L.go (T := tt) tt_ok rfl rfl ?sd44 ?_; (try (case sd44 => (repeat' ((first | first | exact trivial | exact zA | with_reducible refine zI ?_ ?_ | exact zB | exact zC | exact zD | exact zE | rfl | exact zN rfl | omega | assumption | (simp; done) | (simp [splice]; done) | (simp; omega) | (unfold fits; omega) | (unfold fits; simp_all; omega) | (simp_all; omega) | (simp_all; done) | intro _ | exact zI ?_ ?_ | intro _))))); try (refine L.nil ?_))
  refine L.append (T := tt) tt_ok rfl rfl rfl rfl rfl rfl rfl rfl rfl rfl (by (repeat' ((first | first | exact trivial | exact zA | with_reducible refine zI ?_ ?_ | exact zB | exact zC | exact zD | exact zE | rfl | exact zN rfl | omega | assumption | (simp; done) | (simp [splice]; done) | (simp; omega) | (unfold fits; omega) | (unfold fits; simp_all; omega) | (simp_all; omega) | (simp_all; done) | intro _ | exact zI ?_ ?_ | intro _)))) ⟨rfl, by decide, by decide⟩ (by show (0 + L0.length) * 144 ≤ _; omega) fun y33 => ?_
  (refine L.go (T := tt) tt_ok rfl rfl ?sd45 ?_; (try (case sd45 => (repeat' ((first | first | exact trivial | exact zA | with_reducible refine zI ?_ ?_ | exact zB | exact zC | exact zD | exact zE | rfl | exact zN rfl | omega | assumption | (simp; done) | (simp [splice]; done) | (simp; omega) | (unfold fits; omega) | (unfold fits; simp_all; omega) | (simp_all; omega) | (simp_all; done) | intro _ | exact zI ?_ ?_ | intro _))))); try (refine L.nil ?_))
  refine ownAs 83 (gOf ActD.cells L0) rfl (Nat.zero_add _) (fun i hi => copyJ _ hi) ?_
  refine slotAs 36 (dA 1 (1 + (D : Int)) false).av rfl (Imp.refl _) ?_
  refine L.buildSlice (T := tt) 84 tt_ok rfl rfl rfl rfl rfl rfl (by decide) (by decide) rfl rfl (by (repeat' ((first | first | exact trivial | exact zA | with_reducible refine zI ?_ ?_ | exact zB | exact zC | exact zD | exact zE | rfl | exact zN rfl | omega | assumption | (simp; done) | (simp [splice]; done) | (simp; omega) | (unfold fits; omega) | (unfold fits; simp_all; omega) | (simp_all; omega) | (simp_all; done) | intro _ | exact zI ?_ ?_ | intro _)))) fun x37 => ?_
  refine L.append (T := tt) tt_ok rfl rfl rfl rfl rfl rfl rfl rfl rfl rfl (by (repeat' ((first | first | exact trivial | exact zA | with_reducible refine zI ?_ ?_ | exact zB | exact zC | exact zD | exact zE | rfl | exact zN rfl | omega | assumption | (simp; done) | (simp [splice]; done) | (simp; omega) | (unfold fits; omega) | (unfold fits; simp_all; omega) | (simp_all; omega) | (simp_all; done) | intro _ | exact zI ?_ ?_ | intro _)))) ⟨rfl, by decide, by decide⟩ (by show (L0.length + 1) * 144 ≤ _; omega) fun y38 => ?_
  (refine L.go (T := tt) tt_ok rfl rfl ?sd46 ?_; (try (case sd46 => (repeat' ((first | first | exact trivial | exact zA | with_reducible refine zI ?_ ?_ | exact zB | exact zC | exact zD | exact zE | rfl | exact zN rfl | omega | assumption | (simp; done) | (simp [splice]; done) | (simp; omega) | (unfold fits; omega) | (unfold fits; simp_all; omega) | (simp_all; omega) | (simp_all; done) | intro _ | exact zI ?_ ?_ | intro _))))); try (refine L.nil ?_))
  have e1 : ref1 (K + 2) D = L0 ++ [dA 1 (1 + (D : Int)) false] := by rw [ref1, ← hL0, show 1 + (D : Int) = (D : Int) + 1 by omega]
  have hl1 : (ref1 (K + 2) D).length = L0.length + 1 := by rw [e1, List.length_append]; rfl
  refine ownAs 83 (gOf ActD.cells (ref1 (K + 2) D)) rfl hl1.symm (fun i hi => by rw [e1]; exact app_acts L0 [dA 1 (1 + (D : Int)) false] rfl (fun j hj => rfl) hi) ?_
  refine freezeSlot 8 83 rfl rfl rfl ?_
  refine slotAs 8 (actsA (ref1 (K + 2) D)) rfl (Imp.refl _) ?_
  have hl2 : (ref1 (K + 2) D).length ≤ 900 := by omega
  repeat refine S.seq ?_
  refine S.region ?_
  (refine L.go (T := tt) tt_ok rfl rfl ?sd47 ?_; (try (case sd47 => (repeat' ((first | first | exact trivial | exact zA | with_reducible refine zI ?_ ?_ | exact zB | exact zC | exact zD | exact zE | rfl | exact zN rfl | omega | assumption | (simp; done) | (simp [splice]; done) | (simp; omega) | (unfold fits; omega) | (unfold fits; simp_all; omega) | (simp_all; omega) | (simp_all; done) | intro _ | exact zI ?_ ?_ | intro _))))); try (refine L.nil ?_))
  refine L.callP rfl rfl rfl rfl rfl rfl rfl ⟨trivial, by (repeat' ((first | first | exact trivial | exact zA | with_reducible refine zI ?_ ?_ | exact zB | exact zC | exact zD | exact zE | rfl | exact zN rfl | omega | assumption | (simp; done) | (simp [splice]; done) | (simp; omega) | (unfold fits; omega) | (unfold fits; simp_all; omega) | (simp_all; omega) | (simp_all; done) | intro _ | exact zI ?_ ?_ | intro _)))⟩ rfl (Imps.refl _) (check_eq (Nat.ble_eq_true_of_le hl2) o1 o2) ?_
  (refine L.go (T := tt) tt_ok rfl rfl ?sd48 ?_; (try (case sd48 => (repeat' ((first | first | exact trivial | exact zA | with_reducible refine zI ?_ ?_ | exact zB | exact zC | exact zD | exact zE | rfl | exact zN rfl | omega | assumption | (simp; done) | (simp [splice]; done) | (simp; omega) | (unfold fits; omega) | (unfold fits; simp_all; omega) | (simp_all; omega) | (simp_all; done) | intro _ | exact zI ?_ ?_ | intro _))))); try (refine L.nil ?_))
  refine slotAs 43 (.v (.bool false)) rfl (Imp.of_eq ?_) ?_
  · show AV.v (Value.bool (((ref1 (K + 2) D).length : Int) != ((ref1 (K + 2) D).length : Int))) = _
    simp
  ((repeat refine S.seq ?_); refine S.cond rfl (fun h1 => ?_) (fun h1 => ?_) <;> (try first | refine S.skip ?_ | refine S.exit ?_))
  · cases h1
  ((repeat refine S.seq ?_); refine S.region (L.go (T := tt) tt_ok rfl rfl ?sd16 ?_); (try (case sd16 => (repeat' ((first | first | exact trivial | exact zA | with_reducible refine zI ?_ ?_ | exact zB | exact zC | exact zD | exact zE | rfl | exact zN rfl | omega | assumption | (simp; done) | (simp [splice]; done) | (simp; omega) | (unfold fits; omega) | (unfold fits; simp_all; omega) | (simp_all; omega) | (simp_all; done) | intro _ | exact zI ?_ ?_ | intro _))))); try (refine L.nil ?_))
  ((repeat refine S.seq ?_); refine S.region (L.go (T := tt) tt_ok rfl rfl ?sd17 ?_); (try (case sd17 => (repeat' ((first | first | exact trivial | exact zA | with_reducible refine zI ?_ ?_ | exact zB | exact zC | exact zD | exact zE | rfl | exact zN rfl | omega | assumption | (simp; done) | (simp [splice]; done) | (simp; omega) | (unfold fits; omega) | (unfold fits; simp_all; omega) | (simp_all; omega) | (simp_all; done) | intro _ | exact zI ?_ ?_ | intro _))))); try (refine L.nil ?_))
  repeat refine S.seq ?_
  refine S.block (S.loop (ι := { k : Nat × Value // k.1 ≤ K + 2 }) (fun k => [(5, .v (.int .i64 (2 + (K : Int)))), (6, .v (.int .i64 (1 + (D : Int)))), (7, .ref 82 k.1.2), (9, .v (.int .i64 ((refS (K + 2) D k.1.1).2 : Int))), (10, .v (.int .i64 ((k.1.1 : Int) + 1)))])
    (fun k => [(82, .own k.1.2 56 14 (refS (K + 2) D k.1.1).1.length (gOf ActD.cells (refS (K + 2) D k.1.1).1))]) (fun k => K + 2 - k.1.1) ?_ ?_)
  · exact fun a w h => ⟨⟨(0, y), Nat.zero_le _⟩, h.weakP (by (repeat' (first | exact True.intro | exact Imp.refl _ | refine ⟨?_, ?_⟩))) (Sub.of _ (by rw [hL0]; exact List.Perm.swap _ _ _))⟩
  rintro ⟨⟨k, y⟩, hk⟩
  dsimp only at hk ⊢
  have hlen := refS_len (K + 2) D k
  ((repeat refine S.seq ?_); refine S.region (L.go (T := tt) tt_ok rfl rfl ?sd18 ?_); (try (case sd18 => (repeat' ((first | first | exact trivial | exact zA | with_reducible refine zI ?_ ?_ | exact zB | exact zC | exact zD | exact zE | rfl | exact zN rfl | omega | assumption | (simp; done) | (simp [splice]; done) | (simp; omega) | (unfold fits; omega) | (unfold fits; simp_all; omega) | (simp_all; omega) | (simp_all; done) | intro _ | exact zI ?_ ?_ | intro _))))); try (refine L.nil ?_))
  ((repeat refine S.seq ?_); refine S.cond rfl (fun hc => ?_) (fun hc => ?_) <;> (try first | refine S.skip ?_ | refine S.exit ?_))
  · have hkl : k < K + 2 := by have := of_dec hc; omega
    repeat refine S.seq ?_
    refine S.block ?_
    ((repeat refine S.seq ?_); refine S.region (L.go (T := tt) tt_ok rfl rfl ?sd19 ?_); (try (case sd19 => (repeat' ((first | first | exact trivial | exact zA | with_reducible refine zI ?_ ?_ | exact zB | exact zC | exact zD | exact zE | rfl | exact zN rfl | omega | assumption | (simp; done) | (simp [splice]; done) | (simp; omega) | (unfold fits; omega) | (unfold fits; simp_all; omega) | (simp_all; omega) | (simp_all; done) | intro _ | exact zI ?_ ?_ | intro _))))); try (refine L.nil ?_))
    ((repeat refine S.seq ?_); refine S.cond rfl (fun h3 => ?_) (fun h3 => ?_) <;> (try first | refine S.skip ?_ | refine S.exit ?_))
    · have hkD : k = D := by
        have h3' : (((k : Int) + 1) == 1 + (D : Int)) = true := h3
        rw [beq_iff_eq] at h3'
        omega
      have es : refS (K + 2) D (k + 1) = refS (K + 2) D k := by rw [refS, if_pos hkD]
      ((repeat refine S.seq ?_); refine S.region (L.go (T := tt) tt_ok rfl rfl ?sd20 ?_); (try (case sd20 => (repeat' ((first | first | exact trivial | exact zA | with_reducible refine zI ?_ ?_ | exact zB | exact zC | exact zD | exact zE | rfl | exact zN rfl | omega | assumption | (simp; done) | (simp [splice]; done) | (simp; omega) | (unfold fits; omega) | (unfold fits; simp_all; omega) | (simp_all; omega) | (simp_all; done) | intro _ | exact zI ?_ ?_ | intro _))))); try (refine L.nil ?_))
      exact fun a w h => ⟨⟨(k + 1, y), by show k + 1 ≤ _; omega⟩, by show K + 2 - (k + 1) < K + 2 - k; omega, h.weakP ⟨Imp.refl _, Imp.refl _, Imp.refl _, Imp.of_eq (by rw [es]), Imp.refl _, trivial⟩ (Sub.of _ (by rw [es, List.append_nil]))⟩
    have hkD : ¬ k = D := by
      have h3' : (((k : Int) + 1) == 1 + (D : Int)) = false := h3
      rw [beq_eq_false_iff_ne] at h3'
      omega
    obtain ⟨T, hT⟩ : ∃ T, T = (refS (K + 2) D k).2 := ⟨_, rfl⟩
    obtain ⟨M0, hL⟩ : ∃ M0, M0 = (refS (K + 2) D k).1 := ⟨_, rfl⟩
    have es : refS (K + 2) D (k + 1) = (M0 ++ [dA (T + 1) (k + 1) false, aA (T + 1)], T + 1) := by rw [refS, if_neg hkD, ← hT, ← hL]
    rw [← hT, ← hL] at hlen ⊢
    ((repeat refine S.seq ?_); refine S.region (L.go (T := tt) tt_ok rfl rfl ?sd21 ?_); (try (case sd21 => (repeat' ((first | first | exact trivial | exact zA | with_reducible refine zI ?_ ?_ | exact zB | exact zC | exact zD | exact zE | rfl | exact zN rfl | omega | assumption | (simp; done) | (simp [splice]; done) | (simp; omega) | (unfold fits; omega) | (unfold fits; simp_all; omega) | (simp_all; omega) | (simp_all; done) | intro _ | exact zI ?_ ?_ | intro _))))); try (refine L.nil ?_))
    repeat refine S.seq ?_
    refine S.region ?_
    (refine L.go (T := tt) tt_ok rfl rfl ?sd49 ?_; (try (case sd49 => (repeat' ((first | first | exact trivial | exact zA | with_reducible refine zI ?_ ?_ | exact zB | exact zC | exact zD | exact zE | rfl | exact zN rfl | omega | assumption | (simp; done) | (simp [splice]; done) | (simp; omega) | (unfold fits; omega) | (unfold fits; simp_all; omega) | (simp_all; omega) | (simp_all; done) | intro _ | exact zI ?_ ?_ | intro _))))); try (refine L.nil ?_))
    refine slotAs 58 (dA (T + 1) (k + 1) false).av rfl (Imp.refl _) ?_
    refine slotAs 60 (aA (T + 1)).av rfl (Imp.refl _) ?_
    refine L.buildSlice (T := tt) 85 tt_ok rfl rfl rfl rfl rfl rfl (by decide) (by decide) rfl rfl (by (repeat' ((first | first | exact trivial | exact zA | with_reducible refine zI ?_ ?_ | exact zB | exact zC | exact zD | exact zE | rfl | exact zN rfl | omega | assumption | (simp; done) | (simp [splice]; done) | (simp; omega) | (unfold fits; omega) | (unfold fits; simp_all; omega) | (simp_all; omega) | (simp_all; done) | intro _ | exact zI ?_ ?_ | intro _)))) fun x61 => ?_
    refine L.append (T := tt) tt_ok rfl rfl rfl rfl rfl rfl rfl rfl rfl rfl (by (repeat' ((first | first | exact trivial | exact zA | with_reducible refine zI ?_ ?_ | exact zB | exact zC | exact zD | exact zE | rfl | exact zN rfl | omega | assumption | (simp; done) | (simp [splice]; done) | (simp; omega) | (unfold fits; omega) | (unfold fits; simp_all; omega) | (simp_all; omega) | (simp_all; done) | intro _ | exact zI ?_ ?_ | intro _)))) ⟨rfl, by decide, by decide⟩ (by show (M0.length + 2) * 144 ≤ _; omega) fun y62 => ?_
    (refine L.go (T := tt) tt_ok rfl rfl ?sd50 ?_; (try (case sd50 => (repeat' ((first | first | exact trivial | exact zA | with_reducible refine zI ?_ ?_ | exact zB | exact zC | exact zD | exact zE | rfl | exact zN rfl | omega | assumption | (simp; done) | (simp [splice]; done) | (simp; omega) | (unfold fits; omega) | (unfold fits; simp_all; omega) | (simp_all; omega) | (simp_all; done) | intro _ | exact zI ?_ ?_ | intro _))))); try (refine L.nil ?_))
    refine ownAs 82 (gOf ActD.cells (refS (K + 2) D (k + 1)).1) rfl (show M0.length + 2 = (refS (K + 2) D (k + 1)).1.length by rw [es, List.length_append]; rfl) (fun i hi => by rw [es]; exact app_acts M0 [dA (T + 1) (k + 1) false, aA (T + 1)] rfl (fun j hj => rfl) hi) ?_
    ((repeat refine S.seq ?_); refine S.region (L.go (T := tt) tt_ok rfl rfl ?sd22 ?_); (try (case sd22 => (repeat' ((first | first | exact trivial | exact zA | with_reducible refine zI ?_ ?_ | exact zB | exact zC | exact zD | exact zE | rfl | exact zN rfl | omega | assumption | (simp; done) | (simp [splice]; done) | (simp; omega) | (unfold fits; omega) | (unfold fits; simp_all; omega) | (simp_all; omega) | (simp_all; done) | intro _ | exact zI ?_ ?_ | intro _))))); try (refine L.nil ?_))
    exact fun a w h => ⟨⟨(k + 1, y62), by show k + 1 ≤ _; omega⟩, by show K + 2 - (k + 1) < K + 2 - k; omega, h.weakP ⟨Imp.refl _, Imp.refl _, Imp.refl _, Imp.of_eq (by rw [es]; rfl), Imp.refl _, trivial⟩ (by (repeat (first | exact Sub.refl _ | refine Sub.pick (by first | exact p0 | exact pS p0 | exact pS (pS p0) | exact pS (pS (pS p0)) | exact pS (pS (pS (pS p0))) | exact pS (pS (pS (pS (pS p0))))) ?_)))⟩
  have hkl : k = K + 2 := by have := of_dec' hc; omega
  subst hkl
  have hl3 : (refS (K + 2) D (K + 2)).1.length ≤ 900 := by omega
  refine freezeSlot 7 82 rfl rfl rfl ?_
  refine slotAs 7 (actsA (refS (K + 2) D (K + 2)).1) rfl (Imp.refl _) ?_
  repeat refine S.seq ?_
  refine S.region ?_
  refine L.callP rfl rfl rfl rfl rfl rfl rfl ⟨trivial, by (repeat' ((first | first | exact trivial | exact zA | with_reducible refine zI ?_ ?_ | exact zB | exact zC | exact zD | exact zE | rfl | exact zN rfl | omega | assumption | (simp; done) | (simp [splice]; done) | (simp; omega) | (unfold fits; omega) | (unfold fits; simp_all; omega) | (simp_all; omega) | (simp_all; done) | intro _ | exact zI ?_ ?_ | intro _)))⟩ rfl (Imps.refl _) told21_p ?_
  (refine L.go (T := tt) tt_ok rfl rfl ?sd51 ?_; (try (case sd51 => (repeat' ((first | first | exact trivial | exact zA | with_reducible refine zI ?_ ?_ | exact zB | exact zC | exact zD | exact zE | rfl | exact zN rfl | omega | assumption | (simp; done) | (simp [splice]; done) | (simp; omega) | (unfold fits; omega) | (unfold fits; simp_all; omega) | (simp_all; omega) | (simp_all; done) | intro _ | exact zI ?_ ?_ | intro _))))); try (refine L.nil ?_))
  refine L.callG rfl rfl rfl rfl rfl rfl rfl (fun _ => ⟨trivial, by (repeat' ((first | first | exact trivial | exact zA | with_reducible refine zI ?_ ?_ | exact zB | exact zC | exact zD | exact zE | rfl | exact zN rfl | omega | assumption | (simp; done) | (simp [splice]; done) | (simp; omega) | (unfold fits; omega) | (unfold fits; simp_all; omega) | (simp_all; omega) | (simp_all; done) | intro _ | exact zI ?_ ?_ | intro _)))⟩) rfl (Imps.refl _) (fun _ => (check_eq (Nat.ble_eq_true_of_le hl3) o3 o4)) ?_
  (refine L.go (T := tt) tt_ok rfl rfl ?sd52 ?_; (try (case sd52 => (repeat' ((first | first | exact trivial | exact zA | with_reducible refine zI ?_ ?_ | exact zB | exact zC | exact zD | exact zE | rfl | exact zN rfl | omega | assumption | (simp; done) | (simp [splice]; done) | (simp; omega) | (unfold fits; omega) | (unfold fits; simp_all; omega) | (simp_all; omega) | (simp_all; done) | intro _ | exact zI ?_ ?_ | intro _))))); try (refine L.nil ?_))
  refine L.callG rfl rfl rfl rfl rfl rfl rfl (fun _ => ⟨trivial, by (repeat' ((first | first | exact trivial | exact zA | with_reducible refine zI ?_ ?_ | exact zB | exact zC | exact zD | exact zE | rfl | exact zN rfl | omega | assumption | (simp; done) | (simp [splice]; done) | (simp; omega) | (unfold fits; omega) | (unfold fits; simp_all; omega) | (simp_all; omega) | (simp_all; done) | intro _ | exact zI ?_ ?_ | intro _)))⟩) rfl (Imps.refl _) (fun _ => (jbatches_p (refS (K + 2) D (K + 2)).1)) ?_
  rw [o5]
  (refine L.go (T := tt) tt_ok rfl rfl ?sd53 ?_; (try (case sd53 => (repeat' ((first | first | exact trivial | exact zA | with_reducible refine zI ?_ ?_ | exact zB | exact zC | exact zD | exact zE | rfl | exact zN rfl | omega | assumption | (simp; done) | (simp [splice]; done) | (simp; omega) | (unfold fits; omega) | (unfold fits; simp_all; omega) | (simp_all; omega) | (simp_all; done) | intro _ | exact zI ?_ ?_ | intro _))))); try (refine L.nil ?_))
  (((repeat refine S.seq ?_); refine S.ret ?_); refine E.retP (T := tt) tt_ok rfl rfl (by (repeat' ((first | first | exact trivial | exact zA | with_reducible refine zI ?_ ?_ | exact zB | exact zC | exact zD | exact zE | rfl | exact zN rfl | omega | assumption | (simp; done) | (simp [splice]; done) | (simp; omega) | (unfold fits; omega) | (unfold fits; simp_all; omega) | (simp_all; omega) | (simp_all; done) | intro _ | exact zI ?_ ?_ | intro _)))) ?_)
  exact Imp.of_eq (show AV.v (Value.bool (true && true && (((K + 2 : Nat) : Int) == 2 + (K : Int)))) = AV.v (.bool true) from by rw [show ((K + 2 : Nat) : Int) = 2 + (K : Int) by omega]; simp)
end Go.Proofs.YtfdneepgpekmiaaDoor
