/- Texts of this proof, laid together: AuT, AuP, AuQ, AuH, SymRrd, AuI. -/
import Derived.Test.YtfdneepgpekmiaaDoorMgE
import Derived.Test.YtfdneepgpekmiaaDoorMgD
import Derived.Test.YtfdneepgpekmiaaDoorMgC
/- What is confirmed, or refused, is gone. -/
namespace Go.Proofs.YtfdneepgpekmiaaDoor
set_option linter.unusedVariables false
set_option linter.unusedSimpArgs false
set_option maxHeartbeats 8000000
open Go.RowKit
set_option maxRecDepth 4000

def kA : ByteArray := ⟨#[97]⟩
def tB (j : Nat) : OutD := ⟨3, [⟨1, 2 * (j : Int) + 1, kA, ⟨#[98, 48]⟩, false⟩, ⟨1, 2 * (j : Int) + 2, kA, ⟨#[98, 49]⟩, false⟩]⟩
def tSt (k i : Nat) : AuD := ⟨1, (List.range k).map (fun j : Nat => (⟨3, kA, 2 * ((j : Int) + 1)⟩ : Mark)), ((List.range k).drop i).map tB⟩
def codesL : List Int := [0, 8, 4, 1, 6, 5, 7]
def wantL : List Int := [0, 0, 4, 1, 7, 7, 7]
theorem tells1 : ∀ k, k < 5 → pubE (tSt k 0) 3 kA bB 2 = 0 ∧ pubS (tSt k 0) 3 kA bB 2 = tSt (k + 1) 0 ∧ lastSeq (tSt k 0).seqs 3 kA = 2 * (k : Int) := by decide +kernel
theorem tells2 : ∀ k, k < 6 → ∀ i, i < k → nextO (tSt k i).l (tSt k i).l.length = [tB i] := by decide +kernel
theorem tells3 : ∀ k, k < 6 → ∀ i, i < k → ∀ j, j < 7 → toldE (tSt k i) 3 kA (2 * (i : Int) + 1) (codesL.getD j default) = 3 ∧ toldS (tSt k i) 3 kA (2 * (i : Int) + 1) (codesL.getD j default) = tSt k i := by decide +kernel
theorem tells4 : ∀ k, k < 6 → ∀ i, i < k → ∀ j, j < 7 → toldE (tSt k i) 2 kA (2 * (i : Int) + 2) (codesL.getD j default) = 3 ∧ toldS (tSt k i) 2 kA (2 * (i : Int) + 2) (codesL.getD j default) = tSt k i := by decide +kernel
theorem tells5 : ∀ k, k < 6 → ∀ i, i < k → ∀ j, j < 7 → toldE (tSt k i) 3 kA (2 * (i : Int) + 2) (codesL.getD j default) = wantL.getD j default ∧ toldS (tSt k i) 3 kA (2 * (i : Int) + 2) (codesL.getD j default) = if wantL.getD j default = 7 then tSt k i else tSt k (i + 1) := by decide +kernel
theorem tells6 : ∀ k, k < 6 → (tSt k 0).l.length = k ∧ (tSt k k).l = [] := by decide +kernel
theorem fitA : fitS kA := by unfold fitS; decide
theorem tSt_ok : ∀ k, k ≤ 5 → AuOk (tSt k 0) ∧ ∀ q c, 0 ≤ lastSeq (tSt k 0).seqs q c ∧ lastSeq (tSt k 0).seqs q c ≤ 8 * (k : Int)
  | 0, _ => ⟨AuOk.nil 1, fun q c => by simp [tSt, lastSeq]⟩
  | k + 1, hk => by
    obtain ⟨h1, h2⟩ := tSt_ok k (by omega)
    obtain ⟨-, e, -⟩ := tells1 k (by omega)
    rw [← e]
    refine ⟨h1.pub (N := 8 * (k : Int)) (fun q c => (h2 q c).2) (by omega) 3 fitA bB 2, fun q c => ?_⟩
    obtain ⟨a1, a2⟩ := pubS_seq (tSt k 0) 3 kA bB 2 (fun q c => (h2 q c).1) q c
    have := a2 _ (fun q c => (h2 q c).2)
    exact ⟨a1, by omega⟩
theorem tSt_ok2 (k i : Nat) (hk : k ≤ 5) : AuOk (tSt k i) := by
  obtain ⟨h1, -⟩ := tSt_ok k hk
  refine ⟨?_, h1.seq, fun o ho => h1.some1 o ?_⟩
  · show (((List.range k).drop i).map tB).length ≤ 16
    rw [List.length_map, List.length_drop, List.length_range]
    omega
  · obtain ⟨j, hj, rfl⟩ := List.mem_map.1 (show o ∈ ((List.range k).drop i).map tB from ho)
    exact List.mem_map.2 ⟨j, List.mem_of_mem_drop hj, rfl⟩

theorem lit7 (l : List Int) (a b c d e f g : Int) (h : l = [a, b, c, d, e, f, g]) : ∀ i, i < 7 → rowsOf 1 [.v (.int .i64 a), .v (.int .i64 b), .v (.int .i64 c), .v (.int .i64 d), .v (.int .i64 e), .v (.int .i64 f), .v (.int .i64 g)] i = gOf intC l i := by
  intro i hi
  subst h
  match i, hi with
  | 0, _ => rfl
  | 1, _ => rfl
  | 2, _ => rfl
  | 3, _ => rfl
  | 4, _ => rfl
  | 5, _ => rfl
  | 6, _ => rfl

theorem authorTells_p (code n : Int) : PFn Tryd.prog 5 [.v (.int .i64 code), .v (.int .i64 n)] (.v (.bool true)) := by
  obtain ⟨J, hJ, hJe⟩ := umod code 7 (by decide) (by decide)
  obtain ⟨N, hN, hNe⟩ := umod n 5 (by decide) (by decide)
  obtain ⟨c, hc⟩ : ∃ c, c = codesL.getD J default := ⟨_, rfl⟩
  obtain ⟨w, hw⟩ : ∃ w, w = wantL.getD J default := ⟨_, rfl⟩
  refine FnC.intro Tryd.func5 rfl Tryd.ntmps5 rfl ?_; intro off w0
  ((repeat refine S.seq ?_); refine S.region (L.go (T := tt) tt_ok rfl rfl ?sd1 ?_); (try (case sd1 => (repeat' ((first | first | exact trivial | exact zA | with_reducible refine zI ?_ ?_ | exact zB | exact zC | exact zD | exact zE | rfl | exact zN rfl | omega | assumption | (simp; done) | (simp [splice]; done) | (simp; omega) | (unfold fits; omega) | (unfold fits; simp_all; omega) | (simp_all; omega) | (simp_all; done) | intro _ | exact zI ?_ ?_ | intro _))))); try (refine L.nil ?_))
  repeat refine S.seq ?_
  refine S.region ?_
  refine L.call (G := []) rfl rfl rfl rfl rfl rfl rfl ⟨trivial, by (repeat' ((first | first | exact trivial | exact zA | with_reducible refine zI ?_ ?_ | exact zB | exact zC | exact zD | exact zE | rfl | exact zN rfl | omega | assumption | (simp; done) | (simp [splice]; done) | (simp; omega) | (unfold fits; omega) | (unfold fits; simp_all; omega) | (simp_all; omega) | (simp_all; done) | intro _ | exact zI ?_ ?_ | intro _)))⟩ rfl (Imps.refl _) (by (repeat (first | exact pick0 | refine pickS (by first | exact p0 | exact pS p0 | exact pS (pS p0) | exact pS (pS (pS p0)) | exact pS (pS (pS (pS p0))) | exact pS (pS (pS (pS (pS p0)))) | exact pS (pS (pS (pS (pS (pS p0)))))) ?_))) (anew_p 1 (by decide) (by decide)) ?_
  rintro r F' ⟨b, mb, rfl, rfl⟩
  (refine L.go (T := tt) tt_ok rfl rfl ?sd12 ?_; (try (case sd12 => (repeat' ((first | first | exact trivial | exact zA | with_reducible refine zI ?_ ?_ | exact zB | exact zC | exact zD | exact zE | rfl | exact zN rfl | omega | assumption | (simp; done) | (simp [splice]; done) | (simp; omega) | (unfold fits; omega) | (unfold fits; simp_all; omega) | (simp_all; omega) | (simp_all; done) | intro _ | exact zI ?_ ?_ | intro _))))); try (refine L.nil ?_))
  ((repeat refine S.seq ?_); refine S.region (L.go (T := tt) tt_ok rfl rfl ?sd2 ?_); (try (case sd2 => (repeat' ((first | first | exact trivial | exact zA | with_reducible refine zI ?_ ?_ | exact zB | exact zC | exact zD | exact zE | rfl | exact zN rfl | omega | assumption | (simp; done) | (simp [splice]; done) | (simp; omega) | (unfold fits; omega) | (unfold fits; simp_all; omega) | (simp_all; omega) | (simp_all; done) | intro _ | exact zI ?_ ?_ | intro _))))); try (refine L.nil ?_))
  ((repeat refine S.seq ?_); refine S.cond rfl (fun h1 => ?_) (fun h1 => ?_) <;> (try first | refine S.skip ?_ | refine S.exit ?_))
  · cases h1
  ((repeat refine S.seq ?_); refine S.region (L.go (T := tt) tt_ok rfl rfl ?sd3 ?_); (try (case sd3 => (repeat' ((first | first | exact trivial | exact zA | with_reducible refine zI ?_ ?_ | exact zB | exact zC | exact zD | exact zE | rfl | exact zN rfl | omega | assumption | (simp; done) | (simp [splice]; done) | (simp; omega) | (unfold fits; omega) | (unfold fits; simp_all; omega) | (simp_all; omega) | (simp_all; done) | intro _ | exact zI ?_ ?_ | intro _))))); try (refine L.nil ?_))
  refine slotAs 6 (.v (.int .i64 ((N + 1 : Nat) : Int))) rfl (Imp.of_eq (by rw [hNe, Int.add_comm]; rfl)) ?_
  ((repeat refine S.seq ?_); refine S.region (L.go (T := tt) tt_ok rfl rfl ?sd4 ?_); (try (case sd4 => (repeat' ((first | first | exact trivial | exact zA | with_reducible refine zI ?_ ?_ | exact zB | exact zC | exact zD | exact zE | rfl | exact zN rfl | omega | assumption | (simp; done) | (simp [splice]; done) | (simp; omega) | (unfold fits; omega) | (unfold fits; simp_all; omega) | (simp_all; omega) | (simp_all; done) | intro _ | exact zI ?_ ?_ | intro _))))); try (refine L.nil ?_))
  repeat refine S.seq ?_
  refine S.block (S.loop (ι := { q : Nat × Value // q.1 ≤ N + 1 }) (fun q => [(0, .v (.int .i64 code)), (5, .ptr 40 b 0), (6, .v (.int .i64 ((N + 1 : Nat) : Int))), (7, .v (.int .i64 q.1.1))])
    (fun q => auR b mb q.1.2 (tSt q.1.1 0)) (fun q => N + 1 - q.1.1) ?_ ?_)
  · exact fun a w h => ⟨⟨(0, .slice none 0 0), Nat.zero_le _⟩, h.weakP (by (repeat' (first | exact True.intro | exact Imp.refl _ | refine ⟨?_, ?_⟩))) (by first | (unfold auR; (repeat (first | exact Sub.refl _ | refine Sub.pick (by first | exact p0 | exact pS p0 | exact pS (pS p0) | exact pS (pS (pS p0)) | exact pS (pS (pS (pS p0))) | exact pS (pS (pS (pS (pS p0))))) ?_))) | (repeat (first | exact Sub.refl _ | refine Sub.pick (by first | exact p0 | exact pS p0 | exact pS (pS p0) | exact pS (pS (pS p0)) | exact pS (pS (pS (pS p0))) | exact pS (pS (pS (pS (pS p0))))) ?_)))⟩
  rintro ⟨⟨k, x⟩, hk⟩
  dsimp only at hk ⊢
  unfold auR
  ((repeat refine S.seq ?_); refine S.region (L.go (T := tt) tt_ok rfl rfl ?sd5 ?_); (try (case sd5 => (repeat' ((first | first | exact trivial | exact zA | with_reducible refine zI ?_ ?_ | exact zB | exact zC | exact zD | exact zE | rfl | exact zN rfl | omega | assumption | (simp; done) | (simp [splice]; done) | (simp; omega) | (unfold fits; omega) | (unfold fits; simp_all; omega) | (simp_all; omega) | (simp_all; done) | intro _ | exact zI ?_ ?_ | intro _))))); try (refine L.nil ?_))
  ((repeat refine S.seq ?_); refine S.cond rfl (fun h2 => ?_) (fun h2 => ?_) <;> (try first | refine S.skip ?_ | refine S.exit ?_))
  · have h2n : k < N + 1 := by have := of_dec h2; omega
    obtain ⟨e1, e2, e3⟩ := tells1 k (by omega)
    obtain ⟨k1, k2⟩ := tSt_ok k (by omega)
    repeat refine S.seq ?_
    refine S.block ?_
    repeat refine S.seq ?_
    refine S.region ?_
    (refine L.go (T := tt) tt_ok rfl rfl ?sd13 ?_; (try (case sd13 => (repeat' ((first | first | exact trivial | exact zA | with_reducible refine zI ?_ ?_ | exact zB | exact zC | exact zD | exact zE | rfl | exact zN rfl | omega | assumption | (simp; done) | (simp [splice]; done) | (simp; omega) | (unfold fits; omega) | (unfold fits; simp_all; omega) | (simp_all; omega) | (simp_all; done) | intro _ | exact zI ?_ ?_ | intro _))))); try (refine L.nil ?_))
    refine L.call (G := auR b mb x (tSt k 0)) (H := []) rfl rfl rfl rfl rfl rfl rfl ⟨trivial, by (repeat' ((first | first | exact trivial | exact zA | with_reducible refine zI ?_ ?_ | exact zB | exact zC | exact zD | exact zE | rfl | exact zN rfl | omega | assumption | (simp; done) | (simp [splice]; done) | (simp; omega) | (unfold fits; omega) | (unfold fits; simp_all; omega) | (simp_all; omega) | (simp_all; done) | intro _ | exact zI ?_ ?_ | intro _)))⟩ rfl (by exact Imps.refl _) (by unfold auR; (repeat (first | exact pick0 | refine pickS (by first | exact p0 | exact pS p0 | exact pS (pS p0) | exact pS (pS (pS p0)) | exact pS (pS (pS (pS p0))) | exact pS (pS (pS (pS (pS p0)))) | exact pS (pS (pS (pS (pS (pS p0)))))) ?_))) (publish_p b mb x (tSt k 0) 3 kA bB 2 k1 fitA (by decide)) ?_
    rintro r F' ⟨x1, rfl, rfl⟩
    rw [e1, e2, e3, if_pos rfl]
    (refine L.go (T := tt) tt_ok rfl rfl ?sd14 ?_; (try (case sd14 => (repeat' ((first | first | exact trivial | exact zA | with_reducible refine zI ?_ ?_ | exact zB | exact zC | exact zD | exact zE | rfl | exact zN rfl | omega | assumption | (simp; done) | (simp [splice]; done) | (simp; omega) | (unfold fits; omega) | (unfold fits; simp_all; omega) | (simp_all; omega) | (simp_all; done) | intro _ | exact zI ?_ ?_ | intro _))))); try (refine L.nil ?_))
    ((repeat refine S.seq ?_); refine S.region (L.go (T := tt) tt_ok rfl rfl ?sd6 ?_); (try (case sd6 => (repeat' ((first | first | exact trivial | exact zA | with_reducible refine zI ?_ ?_ | exact zB | exact zC | exact zD | exact zE | rfl | exact zN rfl | omega | assumption | (simp; done) | (simp [splice]; done) | (simp; omega) | (unfold fits; omega) | (unfold fits; simp_all; omega) | (simp_all; omega) | (simp_all; done) | intro _ | exact zI ?_ ?_ | intro _))))); try (refine L.nil ?_))
    ((repeat refine S.seq ?_); refine S.cond rfl (fun h3 => ?_) (fun h3 => ?_) <;> (try first | refine S.skip ?_ | refine S.exit ?_))
    · exfalso
      simp at h3
    ((repeat refine S.seq ?_); refine S.region (L.go (T := tt) tt_ok rfl rfl ?sd7 ?_); (try (case sd7 => (repeat' ((first | first | exact trivial | exact zA | with_reducible refine zI ?_ ?_ | exact zB | exact zC | exact zD | exact zE | rfl | exact zN rfl | omega | assumption | (simp; done) | (simp [splice]; done) | (simp; omega) | (unfold fits; omega) | (unfold fits; simp_all; omega) | (simp_all; omega) | (simp_all; done) | intro _ | exact zI ?_ ?_ | intro _))))); try (refine L.nil ?_))
    exact fun a w h => ⟨⟨(k + 1, x1), by show k + 1 ≤ _; omega⟩, by show N + 1 - (k + 1) < N + 1 - k; omega, h.weakP (by (repeat' (first | exact True.intro | exact Imp.refl _ | refine ⟨?_, ?_⟩))) (by first | (unfold auR; (repeat (first | exact Sub.refl _ | refine Sub.pick (by first | exact p0 | exact pS p0 | exact pS (pS p0) | exact pS (pS (pS p0)) | exact pS (pS (pS (pS p0))) | exact pS (pS (pS (pS (pS p0))))) ?_))) | (repeat (first | exact Sub.refl _ | refine Sub.pick (by first | exact p0 | exact pS p0 | exact pS (pS p0) | exact pS (pS (pS p0)) | exact pS (pS (pS (pS p0))) | exact pS (pS (pS (pS (pS p0))))) ?_)))⟩
  have h2n : k = N + 1 := by have := of_dec' h2; omega
  subst h2n
  repeat refine S.seq ?_
  refine S.region ?_
  refine L.buildSlice (T := tt) 60 tt_ok rfl rfl rfl rfl rfl rfl (by decide) (by decide) rfl rfl (by (repeat' ((first | first | exact trivial | exact zA | with_reducible refine zI ?_ ?_ | exact zB | exact zC | exact zD | exact zE | rfl | exact zN rfl | omega | assumption | (simp; done) | (simp [splice]; done) | (simp; omega) | (unfold fits; omega) | (unfold fits; simp_all; omega) | (simp_all; omega) | (simp_all; done) | intro _ | exact zI ?_ ?_ | intro _)))) fun x41 => ?_
  refine freezeSlot 41 60 rfl rfl rfl ?_
  refine slotAs 41 (.lst 1 7 (gOf intC codesL)) rfl (Imp.lst rfl (lit7 codesL _ _ _ _ _ _ _ rfl)) ?_
  (refine L.go (T := tt) tt_ok rfl rfl ?sd15 ?_; (try (case sd15 => (repeat' ((first | first | exact trivial | exact zA | with_reducible refine zI ?_ ?_ | exact zB | exact zC | exact zD | exact zE | rfl | exact zN rfl | omega | assumption | (simp; done) | (simp [splice]; done) | (simp; omega) | (unfold fits; omega) | (unfold fits; simp_all; omega) | (simp_all; omega) | (simp_all; done) | intro _ | exact zI ?_ ?_ | intro _))))); try (refine L.nil ?_))
  refine slotAs 10 (.v (.int .i64 c)) rfl (Imp.of_eq (by rw [hJe, hc]; rfl)) ?_
  repeat refine S.seq ?_
  refine S.region ?_
  refine L.buildSlice (T := tt) 61 tt_ok rfl rfl rfl rfl rfl rfl (by decide) (by decide) rfl rfl (by (repeat' ((first | first | exact trivial | exact zA | with_reducible refine zI ?_ ?_ | exact zB | exact zC | exact zD | exact zE | rfl | exact zN rfl | omega | assumption | (simp; done) | (simp [splice]; done) | (simp; omega) | (unfold fits; omega) | (unfold fits; simp_all; omega) | (simp_all; omega) | (simp_all; done) | intro _ | exact zI ?_ ?_ | intro _)))) fun x48 => ?_
  refine freezeSlot 48 61 rfl rfl rfl ?_
  refine slotAs 48 (.lst 1 7 (gOf intC wantL)) rfl (Imp.lst rfl (lit7 wantL _ _ _ _ _ _ _ rfl)) ?_
  (refine L.go (T := tt) tt_ok rfl rfl ?sd16 ?_; (try (case sd16 => (repeat' ((first | first | exact trivial | exact zA | with_reducible refine zI ?_ ?_ | exact zB | exact zC | exact zD | exact zE | rfl | exact zN rfl | omega | assumption | (simp; done) | (simp [splice]; done) | (simp; omega) | (unfold fits; omega) | (unfold fits; simp_all; omega) | (simp_all; omega) | (simp_all; done) | intro _ | exact zI ?_ ?_ | intro _))))); try (refine L.nil ?_))
  refine slotAs 11 (.v (.int .i64 w)) rfl (Imp.of_eq (by rw [hJe, hw]; rfl)) ?_
  ((repeat refine S.seq ?_); refine S.region (L.go (T := tt) tt_ok rfl rfl ?sd8 ?_); (try (case sd8 => (repeat' ((first | first | exact trivial | exact zA | with_reducible refine zI ?_ ?_ | exact zB | exact zC | exact zD | exact zE | rfl | exact zN rfl | omega | assumption | (simp; done) | (simp [splice]; done) | (simp; omega) | (unfold fits; omega) | (unfold fits; simp_all; omega) | (simp_all; omega) | (simp_all; done) | intro _ | exact zI ?_ ?_ | intro _))))); try (refine L.nil ?_))
  repeat refine S.seq ?_
  refine S.block (S.loop (ι := { q : Nat × Value // q.1 ≤ N + 1 ∧ (q.1 = 0 ∨ w ≠ 7) }) (fun q => [(5, .ptr 40 b 0), (6, .v (.int .i64 ((N + 1 : Nat) : Int))), (10, .v (.int .i64 c)), (11, .v (.int .i64 w)), (12, .v (.int .i64 q.1.1))])
    (fun q => auR b mb q.1.2 (tSt (N + 1) q.1.1)) (fun q => N + 1 - q.1.1) ?_ ?_)
  · exact fun a w h => ⟨⟨(0, x), Nat.zero_le _, .inl rfl⟩, h.weakP (by (repeat' (first | exact True.intro | exact Imp.refl _ | refine ⟨?_, ?_⟩))) (by first | (unfold auR; (repeat (first | exact Sub.refl _ | refine Sub.pick (by first | exact p0 | exact pS p0 | exact pS (pS p0) | exact pS (pS (pS p0)) | exact pS (pS (pS (pS p0))) | exact pS (pS (pS (pS (pS p0))))) ?_))) | (repeat (first | exact Sub.refl _ | refine Sub.pick (by first | exact p0 | exact pS p0 | exact pS (pS p0) | exact pS (pS (pS p0)) | exact pS (pS (pS (pS p0))) | exact pS (pS (pS (pS (pS p0))))) ?_)))⟩
  rintro ⟨⟨i, x⟩, hi, hi7⟩
  dsimp only at hi hi7 ⊢
  unfold auR
  ((repeat refine S.seq ?_); refine S.region (L.go (T := tt) tt_ok rfl rfl ?sd9 ?_); (try (case sd9 => (repeat' ((first | first | exact trivial | exact zA | with_reducible refine zI ?_ ?_ | exact zB | exact zC | exact zD | exact zE | rfl | exact zN rfl | omega | assumption | (simp; done) | (simp [splice]; done) | (simp; omega) | (unfold fits; omega) | (unfold fits; simp_all; omega) | (simp_all; omega) | (simp_all; done) | intro _ | exact zI ?_ ?_ | intro _))))); try (refine L.nil ?_))
  ((repeat refine S.seq ?_); refine S.cond rfl (fun h2 => ?_) (fun h2 => ?_) <;> (try first | refine S.skip ?_ | refine S.exit ?_))
  · have h2n : i < N + 1 := by have := of_dec h2; omega
    have f2 := tells2 (N + 1) (by omega) i h2n
    obtain ⟨f3, f3'⟩ := tells3 (N + 1) (by omega) i h2n J (by omega)
    obtain ⟨f4, f4'⟩ := tells4 (N + 1) (by omega) i h2n J (by omega)
    obtain ⟨f5, f5'⟩ := tells5 (N + 1) (by omega) i h2n J (by omega)
    rw [← hc] at f3 f3' f4 f4' f5 f5'
    rw [← hw] at f5 f5'
    have hok := tSt_ok2 (N + 1) i (by omega)
    repeat refine S.seq ?_
    refine S.block ?_
    repeat refine S.seq ?_
    refine S.region ?_
    (refine L.go (T := tt) tt_ok rfl rfl ?sd17 ?_; (try (case sd17 => (repeat' ((first | first | exact trivial | exact zA | with_reducible refine zI ?_ ?_ | exact zB | exact zC | exact zD | exact zE | rfl | exact zN rfl | omega | assumption | (simp; done) | (simp [splice]; done) | (simp; omega) | (unfold fits; omega) | (unfold fits; simp_all; omega) | (simp_all; omega) | (simp_all; done) | intro _ | exact zI ?_ ?_ | intro _))))); try (refine L.nil ?_))
    refine L.call (G := auR b mb x (tSt (N + 1) i)) (H := []) rfl rfl rfl rfl rfl rfl rfl ⟨trivial, by (repeat' ((first | first | exact trivial | exact zA | with_reducible refine zI ?_ ?_ | exact zB | exact zC | exact zD | exact zE | rfl | exact zN rfl | omega | assumption | (simp; done) | (simp [splice]; done) | (simp; omega) | (unfold fits; omega) | (unfold fits; simp_all; omega) | (simp_all; omega) | (simp_all; done) | intro _ | exact zI ?_ ?_ | intro _)))⟩ rfl (by exact Imps.refl _) (by unfold auR; (repeat (first | exact pick0 | refine pickS (by first | exact p0 | exact pS p0 | exact pS (pS p0) | exact pS (pS (pS p0)) | exact pS (pS (pS (pS p0))) | exact pS (pS (pS (pS (pS p0)))) | exact pS (pS (pS (pS (pS (pS p0)))))) ?_))) (next_p b mb x (tSt (N + 1) i) hok) ?_
    rintro r F' ⟨y, rfl, rfl⟩
    have hlq : ([tB i].getD (Int.toNat 0) default).l.length = 2 := rfl
    have hsq : (([tB i].getD (Int.toNat 0) default).l.getD (Int.toNat 0) default).seq = 2 * (i : Int) + 1 := rfl
    rw [f2]
    refine freezeSlot 61 46 rfl rfl rfl ?_
    (refine L.go (T := tt) tt_ok rfl rfl ?sd18 ?_; (try (case sd18 => (repeat' ((first | first | exact trivial | exact zA | with_reducible refine zI ?_ ?_ | exact zB | exact zC | exact zD | exact zE | rfl | exact zN rfl | omega | assumption | (simp; done) | (simp [splice]; done) | (simp; omega) | (unfold fits; omega) | (unfold fits; simp_all; omega) | (simp_all; omega) | (simp_all; done) | intro _ | exact zI ?_ ?_ | intro _))))); try (refine L.nil ?_))
    repeat refine S.seq ?_
    refine S.region ?_
    (refine L.go (T := tt) tt_ok rfl rfl ?sd19 ?_; (try (case sd19 => (repeat' ((first | first | exact trivial | exact zA | with_reducible refine zI ?_ ?_ | exact zB | exact zC | exact zD | exact zE | rfl | exact zN rfl | omega | assumption | (simp; done) | (simp [splice]; done) | (simp; omega) | (unfold fits; omega) | (unfold fits; simp_all; omega) | (simp_all; omega) | (simp_all; done) | intro _ | exact zI ?_ ?_ | intro _))))); try (refine L.nil ?_))
    refine slotAs 78 (.v (.bool false)) rfl (Imp.of_eq (by rw [hsq]; simp)) ?_
    refine L.callT (G := auR b mb x (tSt (N + 1) i)) (H := []) rfl rfl rfl rfl rfl rfl rfl rfl ⟨trivial, by (repeat' ((first | first | exact trivial | exact zA | with_reducible refine zI ?_ ?_ | exact zB | exact zC | exact zD | exact zE | rfl | exact zN rfl | omega | assumption | (simp; done) | (simp [splice]; done) | (simp; omega) | (unfold fits; omega) | (unfold fits; simp_all; omega) | (simp_all; omega) | (simp_all; done) | intro _ | exact zI ?_ ?_ | intro _)))⟩ rfl (by exact Imps.refl _) (by unfold auR; (repeat (first | exact pick0 | refine pickS (by first | exact p0 | exact pS p0 | exact pS (pS p0) | exact pS (pS (pS p0)) | exact pS (pS (pS (pS p0))) | exact pS (pS (pS (pS (pS p0)))) | exact pS (pS (pS (pS (pS (pS p0)))))) ?_))) (told_p b mb x (tSt (N + 1) i) 3 kA (2 * (i : Int) + 1) c hok) ?_
    rintro r F' ⟨x1, rfl, rfl⟩
    rw [f3, f3']
    (refine L.go (T := tt) tt_ok rfl rfl ?sd20 ?_; (try (case sd20 => (repeat' ((first | first | exact trivial | exact zA | with_reducible refine zI ?_ ?_ | exact zB | exact zC | exact zD | exact zE | rfl | exact zN rfl | omega | assumption | (simp; done) | (simp [splice]; done) | (simp; omega) | (unfold fits; omega) | (unfold fits; simp_all; omega) | (simp_all; omega) | (simp_all; done) | intro _ | exact zI ?_ ?_ | intro _))))); try (refine L.nil ?_))
    refine slotAs 87 (.v (.bool false)) rfl (Imp.of_eq (by simp)) ?_
    refine L.callT (G := auR b mb x1 (tSt (N + 1) i)) (H := []) rfl rfl rfl rfl rfl rfl rfl rfl ⟨trivial, by (repeat' ((first | first | exact trivial | exact zA | with_reducible refine zI ?_ ?_ | exact zB | exact zC | exact zD | exact zE | rfl | exact zN rfl | omega | assumption | (simp; done) | (simp [splice]; done) | (simp; omega) | (unfold fits; omega) | (unfold fits; simp_all; omega) | (simp_all; omega) | (simp_all; done) | intro _ | exact zI ?_ ?_ | intro _)))⟩ rfl (by exact Imps.refl _) (by unfold auR; (repeat (first | exact pick0 | refine pickS (by first | exact p0 | exact pS p0 | exact pS (pS p0) | exact pS (pS (pS p0)) | exact pS (pS (pS (pS p0))) | exact pS (pS (pS (pS (pS p0)))) | exact pS (pS (pS (pS (pS (pS p0)))))) ?_))) (told_p b mb x1 (tSt (N + 1) i) 2 kA (2 * (i : Int) + 2) c hok) ?_
    rintro r F' ⟨x2, rfl, rfl⟩
    rw [f4, f4']
    (refine L.go (T := tt) tt_ok rfl rfl ?sd21 ?_; (try (case sd21 => (repeat' ((first | first | exact trivial | exact zA | with_reducible refine zI ?_ ?_ | exact zB | exact zC | exact zD | exact zE | rfl | exact zN rfl | omega | assumption | (simp; done) | (simp [splice]; done) | (simp; omega) | (unfold fits; omega) | (unfold fits; simp_all; omega) | (simp_all; omega) | (simp_all; done) | intro _ | exact zI ?_ ?_ | intro _))))); try (refine L.nil ?_))
    refine slotAs 96 (.v (.bool false)) rfl (Imp.of_eq (by simp)) ?_
    refine L.callT (G := auR b mb x2 (tSt (N + 1) i)) (H := []) rfl rfl rfl rfl rfl rfl rfl rfl ⟨trivial, by (repeat' ((first | first | exact trivial | exact zA | with_reducible refine zI ?_ ?_ | exact zB | exact zC | exact zD | exact zE | rfl | exact zN rfl | omega | assumption | (simp; done) | (simp [splice]; done) | (simp; omega) | (unfold fits; omega) | (unfold fits; simp_all; omega) | (simp_all; omega) | (simp_all; done) | intro _ | exact zI ?_ ?_ | intro _)))⟩ rfl (by exact Imps.refl _) (by unfold auR; (repeat (first | exact pick0 | refine pickS (by first | exact p0 | exact pS p0 | exact pS (pS p0) | exact pS (pS (pS p0)) | exact pS (pS (pS (pS p0))) | exact pS (pS (pS (pS (pS p0)))) | exact pS (pS (pS (pS (pS (pS p0)))))) ?_))) (told_p b mb x2 (tSt (N + 1) i) 3 kA (2 * (i : Int) + 2) c hok) ?_
    rintro r F' ⟨x3, rfl, rfl⟩
    rw [f5, f5']
    (refine L.go (T := tt) tt_ok rfl rfl ?sd22 ?_; (try (case sd22 => (repeat' ((first | first | exact trivial | exact zA | with_reducible refine zI ?_ ?_ | exact zB | exact zC | exact zD | exact zE | rfl | exact zN rfl | omega | assumption | (simp; done) | (simp [splice]; done) | (simp; omega) | (unfold fits; omega) | (unfold fits; simp_all; omega) | (simp_all; omega) | (simp_all; done) | intro _ | exact zI ?_ ?_ | intro _))))); try (refine L.nil ?_))
    ((repeat refine S.seq ?_); refine S.cond rfl (fun h3 => ?_) (fun h3 => ?_) <;> (try first | refine S.skip ?_ | refine S.exit ?_))
    · exfalso
      simp at h3
    ((repeat refine S.seq ?_); refine S.region (L.go (T := tt) tt_ok rfl rfl ?sd10 ?_); (try (case sd10 => (repeat' ((first | first | exact trivial | exact zA | with_reducible refine zI ?_ ?_ | exact zB | exact zC | exact zD | exact zE | rfl | exact zN rfl | omega | assumption | (simp; done) | (simp [splice]; done) | (simp; omega) | (unfold fits; omega) | (unfold fits; simp_all; omega) | (simp_all; omega) | (simp_all; done) | intro _ | exact zI ?_ ?_ | intro _))))); try (refine L.nil ?_))
    ((repeat refine S.seq ?_); refine S.cond rfl (fun h4 => ?_) (fun h4 => ?_) <;> (try first | refine S.skip ?_ | refine S.exit ?_))
    · have hw7 : w = 7 := by simpa using h4
      have hi0 : i = 0 := by
        rcases hi7 with h | h
        · exact h
        · exact absurd hw7 h
      subst hi0
      rw [if_pos hw7]
      obtain ⟨g1, -⟩ := tells6 (N + 1) (by omega)
      repeat refine S.seq ?_
      refine S.region ?_
      refine L.callP rfl rfl rfl rfl rfl rfl rfl ⟨trivial, by (repeat' ((first | first | exact trivial | exact zA | with_reducible refine zI ?_ ?_ | exact zB | exact zC | exact zD | exact zE | rfl | exact zN rfl | omega | assumption | (simp; done) | (simp [splice]; done) | (simp; omega) | (unfold fits; omega) | (unfold fits; simp_all; omega) | (simp_all; omega) | (simp_all; done) | intro _ | exact zI ?_ ?_ | intro _)))⟩ rfl (Imps.refl _) told20_p ?_
      (refine L.go (T := tt) tt_ok rfl rfl ?sd23 ?_; (try (case sd23 => (repeat' ((first | first | exact trivial | exact zA | with_reducible refine zI ?_ ?_ | exact zB | exact zC | exact zD | exact zE | rfl | exact zN rfl | omega | assumption | (simp; done) | (simp [splice]; done) | (simp; omega) | (unfold fits; omega) | (unfold fits; simp_all; omega) | (simp_all; omega) | (simp_all; done) | intro _ | exact zI ?_ ?_ | intro _))))); try (refine L.nil ?_))
      refine L.callT (G := auR b mb x3 (tSt (N + 1) 0)) (H := []) rfl rfl rfl rfl rfl rfl rfl rfl ⟨trivial, by (repeat' ((first | first | exact trivial | exact zA | with_reducible refine zI ?_ ?_ | exact zB | exact zC | exact zD | exact zE | rfl | exact zN rfl | omega | assumption | (simp; done) | (simp [splice]; done) | (simp; omega) | (unfold fits; omega) | (unfold fits; simp_all; omega) | (simp_all; omega) | (simp_all; done) | intro _ | exact zI ?_ ?_ | intro _)))⟩ rfl (by exact Imps.refl _) (by unfold auR; (repeat (first | exact pick0 | refine pickS (by first | exact p0 | exact pS p0 | exact pS (pS p0) | exact pS (pS (pS p0)) | exact pS (pS (pS (pS p0))) | exact pS (pS (pS (pS (pS p0)))) | exact pS (pS (pS (pS (pS (pS p0)))))) ?_))) (alen_p b mb x3 (tSt (N + 1) 0)) ?_
      rintro r F' ⟨rfl, rfl⟩
      rw [g1]
      (refine L.go (T := tt) tt_ok rfl rfl ?sd24 ?_; (try (case sd24 => (repeat' ((first | first | exact trivial | exact zA | with_reducible refine zI ?_ ?_ | exact zB | exact zC | exact zD | exact zE | rfl | exact zN rfl | omega | assumption | (simp; done) | (simp [splice]; done) | (simp; omega) | (unfold fits; omega) | (unfold fits; simp_all; omega) | (simp_all; omega) | (simp_all; done) | intro _ | exact zI ?_ ?_ | intro _))))); try (refine L.nil ?_))
      (((repeat refine S.seq ?_); refine S.ret ?_); refine E.retP (T := tt) tt_ok rfl rfl (by (repeat' ((first | first | exact trivial | exact zA | with_reducible refine zI ?_ ?_ | exact zB | exact zC | exact zD | exact zE | rfl | exact zN rfl | omega | assumption | (simp; done) | (simp [splice]; done) | (simp; omega) | (unfold fits; omega) | (unfold fits; simp_all; omega) | (simp_all; omega) | (simp_all; done) | intro _ | exact zI ?_ ?_ | intro _)))) (Imp.of_eq ?_))
      simp
      rfl
    have hw7 : w ≠ 7 := by simpa using h4
    rw [if_neg hw7]
    unfold auR
    ((repeat refine S.seq ?_); refine S.region (L.go (T := tt) tt_ok rfl rfl ?sd11 ?_); (try (case sd11 => (repeat' ((first | first | exact trivial | exact zA | with_reducible refine zI ?_ ?_ | exact zB | exact zC | exact zD | exact zE | rfl | exact zN rfl | omega | assumption | (simp; done) | (simp [splice]; done) | (simp; omega) | (unfold fits; omega) | (unfold fits; simp_all; omega) | (simp_all; omega) | (simp_all; done) | intro _ | exact zI ?_ ?_ | intro _))))); try (refine L.nil ?_))
    exact fun a w h => ⟨⟨(i + 1, x3), by show i + 1 ≤ _; omega, .inr hw7⟩, by show N + 1 - (i + 1) < N + 1 - i; omega, h.weakP (by (repeat' (first | exact True.intro | exact Imp.refl _ | refine ⟨?_, ?_⟩))) (by first | (unfold auR; (repeat (first | exact Sub.refl _ | refine Sub.pick (by first | exact p0 | exact pS p0 | exact pS (pS p0) | exact pS (pS (pS p0)) | exact pS (pS (pS (pS p0))) | exact pS (pS (pS (pS (pS p0))))) ?_))) | (repeat (first | exact Sub.refl _ | refine Sub.pick (by first | exact p0 | exact pS p0 | exact pS (pS p0) | exact pS (pS (pS p0)) | exact pS (pS (pS (pS p0))) | exact pS (pS (pS (pS (pS p0))))) ?_)))⟩
  have h2n : i = N + 1 := by have := of_dec' h2; omega
  subst h2n
  obtain ⟨-, g2⟩ := tells6 (N + 1) (by omega)
  have g3 : nextO (tSt (N + 1) (N + 1)).l (tSt (N + 1) (N + 1)).l.length = [] := by rw [g2]; rfl
  repeat refine S.seq ?_
  refine S.region ?_
  refine L.callP rfl rfl rfl rfl rfl rfl rfl ⟨trivial, by (repeat' ((first | first | exact trivial | exact zA | with_reducible refine zI ?_ ?_ | exact zB | exact zC | exact zD | exact zE | rfl | exact zN rfl | omega | assumption | (simp; done) | (simp [splice]; done) | (simp; omega) | (unfold fits; omega) | (unfold fits; simp_all; omega) | (simp_all; omega) | (simp_all; done) | intro _ | exact zI ?_ ?_ | intro _)))⟩ rfl (Imps.refl _) told20_p ?_
  (refine L.go (T := tt) tt_ok rfl rfl ?sd25 ?_; (try (case sd25 => (repeat' ((first | first | exact trivial | exact zA | with_reducible refine zI ?_ ?_ | exact zB | exact zC | exact zD | exact zE | rfl | exact zN rfl | omega | assumption | (simp; done) | (simp [splice]; done) | (simp; omega) | (unfold fits; omega) | (unfold fits; simp_all; omega) | (simp_all; omega) | (simp_all; done) | intro _ | exact zI ?_ ?_ | intro _))))); try (refine L.nil ?_))
  refine L.callT (G := auR b mb x (tSt (N + 1) (N + 1))) (H := []) rfl rfl rfl rfl rfl rfl rfl rfl ⟨trivial, by (repeat' ((first | first | exact trivial | exact zA | with_reducible refine zI ?_ ?_ | exact zB | exact zC | exact zD | exact zE | rfl | exact zN rfl | omega | assumption | (simp; done) | (simp [splice]; done) | (simp; omega) | (unfold fits; omega) | (unfold fits; simp_all; omega) | (simp_all; omega) | (simp_all; done) | intro _ | exact zI ?_ ?_ | intro _)))⟩ rfl (by exact Imps.refl _) (by unfold auR; (repeat (first | exact pick0 | refine pickS (by first | exact p0 | exact pS p0 | exact pS (pS p0) | exact pS (pS (pS p0)) | exact pS (pS (pS (pS p0))) | exact pS (pS (pS (pS (pS p0)))) | exact pS (pS (pS (pS (pS (pS p0)))))) ?_))) (alen_p b mb x (tSt (N + 1) (N + 1))) ?_
  rintro r F' ⟨rfl, rfl⟩
  rw [show (tSt (N + 1) (N + 1)).l.length = 0 by rw [g2]; rfl]
  (refine L.go (T := tt) tt_ok rfl rfl ?sd26 ?_; (try (case sd26 => (repeat' ((first | first | exact trivial | exact zA | with_reducible refine zI ?_ ?_ | exact zB | exact zC | exact zD | exact zE | rfl | exact zN rfl | omega | assumption | (simp; done) | (simp [splice]; done) | (simp; omega) | (unfold fits; omega) | (unfold fits; simp_all; omega) | (simp_all; omega) | (simp_all; done) | intro _ | exact zI ?_ ?_ | intro _))))); try (refine L.nil ?_))
  refine L.callT (G := auR b mb x (tSt (N + 1) (N + 1))) (H := []) rfl rfl rfl rfl rfl rfl rfl rfl ⟨trivial, by (repeat' ((first | first | exact trivial | exact zA | with_reducible refine zI ?_ ?_ | exact zB | exact zC | exact zD | exact zE | rfl | exact zN rfl | omega | assumption | (simp; done) | (simp [splice]; done) | (simp; omega) | (unfold fits; omega) | (unfold fits; simp_all; omega) | (simp_all; omega) | (simp_all; done) | intro _ | exact zI ?_ ?_ | intro _)))⟩ rfl (by exact Imps.refl _) (by unfold auR; (repeat (first | exact pick0 | refine pickS (by first | exact p0 | exact pS p0 | exact pS (pS p0) | exact pS (pS (pS p0)) | exact pS (pS (pS (pS p0))) | exact pS (pS (pS (pS (pS p0)))) | exact pS (pS (pS (pS (pS (pS p0)))))) ?_))) (next_p b mb x (tSt (N + 1) (N + 1)) (tSt_ok2 (N + 1) (N + 1) (by omega))) ?_
  rintro r F' ⟨y, rfl, rfl⟩
  rw [g3]
  (refine L.go (T := tt) tt_ok rfl rfl ?sd27 ?_; (try (case sd27 => (repeat' ((first | first | exact trivial | exact zA | with_reducible refine zI ?_ ?_ | exact zB | exact zC | exact zD | exact zE | rfl | exact zN rfl | omega | assumption | (simp; done) | (simp [splice]; done) | (simp; omega) | (unfold fits; omega) | (unfold fits; simp_all; omega) | (simp_all; omega) | (simp_all; done) | intro _ | exact zI ?_ ?_ | intro _))))); try (refine L.nil ?_))
  (((repeat refine S.seq ?_); refine S.ret ?_); refine E.retP (T := tt) tt_ok rfl rfl (by (repeat' ((first | first | exact trivial | exact zA | with_reducible refine zI ?_ ?_ | exact zB | exact zC | exact zD | exact zE | rfl | exact zN rfl | omega | assumption | (simp; done) | (simp [splice]; done) | (simp; omega) | (unfold fits; omega) | (unfold fits; simp_all; omega) | (simp_all; omega) | (simp_all; done) | intro _ | exact zI ?_ ?_ | intro _)))) (Imp.of_eq ?_))
  rfl

end Go.Proofs.YtfdneepgpekmiaaDoor

/- The reference's author. -/
namespace Go.Proofs.YtfdneepgpekmiaaDoor
set_option linter.unusedVariables false
set_option linter.unusedSimpArgs false
set_option maxHeartbeats 8000000
open Go.RowKit
set_option maxRecDepth 4000

noncomputable def raR (b : Nat) (xl xc : Value) (A : AuD) (cs : List Mark) : Rows := [(50, .blk b 30 [.v (.int .i64 A.pub), .ref 51 xl, .ref 52 xc]), (51, .own xl 39 2 A.l.length (gOf OutD.cells A.l)), (52, .own xc 88 3 cs.length (gOf Mark.cells cs))]

def e10 : ByteArray := ⟨#[48, 49, 50, 51, 52, 53, 54, 55, 56, 57]⟩
theorem e10_at {i : Int} (h0 : 0 ≤ i) (h1 : i < 10) : e10.extract i.toNat (IntKind.u64.wrap (i + 1)).toNat ++ ByteArray.empty = numT i ∧ (e10.extract i.toNat (IntKind.u64.wrap (i + 1)).toNat).size = 1 ∧ IntKind.u64.wrap (i + 1) = i + 1 ∧ IntKind.u64.wrap i = i := by
  have : i = 0 ∨ i = 1 ∨ i = 2 ∨ i = 3 ∨ i = 4 ∨ i = 5 ∨ i = 6 ∨ i = 7 ∨ i = 8 ∨ i = 9 := by omega
  rcases this with rfl | rfl | rfl | rfl | rfl | rfl | rfl | rfl | rfl | rfl <;> decide +kernel
theorem rdec_p (i : Int) (h0 : 0 ≤ i) (h1 : i < 10) : PFn Tryd.prog 63 [.v (.int .i64 i)] (.v (.string (numT i))) := by
  obtain ⟨e1, e2, e3, e4⟩ := e10_at h0 h1
  unfold e10 at e1 e2
  have s10 : (⟨#[48, 49, 50, 51, 52, 53, 54, 55, 56, 57]⟩ : ByteArray).size = 10 := rfl
  have s0 : ByteArray.empty.size = 0 := rfl
  refine FnC.intro Tryd.func63 rfl Tryd.ntmps63 rfl ?_; intro off w0
  ((repeat refine S.seq ?_); refine S.region (L.go (T := tt) tt_ok rfl rfl ?sd1 ?_); (try (case sd1 => (repeat' ((first | first | exact trivial | exact zA | with_reducible refine zI ?_ ?_ | exact zB | exact zC | exact zD | exact zE | rfl | exact zN rfl | omega | assumption | (simp; done) | (simp [splice]; done) | (simp; omega) | (unfold fits; omega) | (unfold fits; simp_all; omega) | (simp_all; omega) | (simp_all; done) | intro _ | exact zI ?_ ?_ | intro _))))); try (refine L.nil ?_))
  ((repeat refine S.seq ?_); refine S.region (L.go (T := tt) tt_ok rfl rfl ?sd2 ?_); (try (case sd2 => (repeat' ((first | first | exact trivial | exact zA | with_reducible refine zI ?_ ?_ | exact zB | exact zC | exact zD | exact zE | rfl | exact zN rfl | omega | assumption | (simp; done) | (simp [splice]; done) | (simp; omega) | (unfold fits; omega) | (unfold fits; simp_all; omega) | (simp_all; omega) | (simp_all; done) | intro _ | exact zI ?_ ?_ | intro _))))); try (refine L.nil ?_))
  ((repeat refine S.seq ?_); refine S.region (L.go (T := tt) tt_ok rfl rfl ?sd3 ?_); (try (case sd3 => (repeat' ((first | first | exact trivial | exact zA | with_reducible refine zI ?_ ?_ | exact zB | exact zC | exact zD | exact zE | rfl | exact zN rfl | omega | assumption | (simp; done) | (simp [splice]; done) | (simp; omega) | (unfold fits; omega) | (unfold fits; simp_all; omega) | (simp_all; omega) | (simp_all; done) | intro _ | exact zI ?_ ?_ | intro _))))); try (refine L.nil ?_))
  ((repeat refine S.seq ?_); refine S.region (L.go (T := tt) tt_ok rfl rfl ?sd4 ?_); (try (case sd4 => (repeat' ((first | first | exact trivial | exact zA | with_reducible refine zI ?_ ?_ | exact zB | exact zC | exact zD | exact zE | rfl | exact zN rfl | omega | assumption | (simp; done) | (simp [splice]; done) | (simp; omega) | (unfold fits; omega) | (unfold fits; simp_all; omega) | (simp_all; omega) | (simp_all; done) | intro _ | exact zI ?_ ?_ | intro _))))); try (refine L.nil ?_))
  refine S.cut (ι := Unit) (fun _ => [(3, .v (.string ByteArray.empty)), (4, .v (.bool false)), (5, .v (.int .u64 i))]) (fun _ => []) ?_ ?_
  · ((repeat refine S.seq ?_); refine S.cond rfl (fun h2 => ?_) (fun h2 => ?_) <;> (try first | refine S.skip ?_ | refine S.exit ?_))
    · exfalso
      have := of_dec h2
      omega
    refine slotAs 5 (.v (.int .u64 i)) rfl (Imp.of_eq (by rw [e4])) ?_
    refine slotAs 4 (.v (.bool false)) rfl (Imp.of_eq (by rw [h2])) ?_
    exact fun a w hR => ⟨(), hR.weak (by (repeat' (first | exact True.intro | exact Imp.refl _ | refine ⟨?_, ?_⟩))) (by (repeat (first | exact List.nil_sublist _ | refine List.Sublist.cons_cons _ ?_ | refine List.Sublist.cons _ ?_)))⟩
  rintro ⟨⟩
  try dsimp only
  repeat refine S.seq ?_
  refine S.block (S.loop (ι := Unit) (fun _ => [(3, .v (.string ByteArray.empty)), (4, .v (.bool false)), (5, .v (.int .u64 i))]) (fun _ => []) (fun _ => 0) ?_ ?_)
  · exact fun a w hR => ⟨(), hR.weak (by (repeat' (first | exact True.intro | exact Imp.refl _ | refine ⟨?_, ?_⟩))) (by (repeat (first | exact List.nil_sublist _ | refine List.Sublist.cons_cons _ ?_ | refine List.Sublist.cons _ ?_)))⟩
  rintro ⟨⟩
  try dsimp only
  ((repeat refine S.seq ?_); refine S.region (L.go (T := tt) tt_ok rfl rfl ?sd5 ?_); (try (case sd5 => (repeat' ((first | first | exact trivial | exact zA | with_reducible refine zI ?_ ?_ | exact zB | exact zC | exact zD | exact zE | rfl | exact zN rfl | omega | assumption | (simp; done) | (simp [splice]; done) | (simp; omega) | (unfold fits; omega) | (unfold fits; simp_all; omega) | (simp_all; omega) | (simp_all; done) | intro _ | exact zI ?_ ?_ | intro _))))); try (refine L.nil ?_))
  ((repeat refine S.seq ?_); refine S.cond rfl (fun h3 => ?_) (fun h3 => ?_) <;> (try first | refine S.skip ?_ | refine S.exit ?_))
  · exfalso
    have := of_dec h3
    omega
  ((repeat refine S.seq ?_); refine S.region (L.go (T := tt) tt_ok rfl rfl ?sd6 ?_); (try (case sd6 => (repeat' ((first | first | exact trivial | exact zA | with_reducible refine zI ?_ ?_ | exact zB | exact zC | exact zD | exact zE | rfl | exact zN rfl | omega | assumption | (simp; done) | (simp [splice]; done) | (simp; omega) | (unfold fits; omega) | (unfold fits; simp_all; omega) | (simp_all; omega) | (simp_all; done) | intro _ | exact zI ?_ ?_ | intro _))))); try (refine L.nil ?_))
  ((repeat refine S.seq ?_); refine S.region (L.go (T := tt) tt_ok rfl rfl ?sd7 ?_); (try (case sd7 => (repeat' ((first | first | exact trivial | exact zA | with_reducible refine zI ?_ ?_ | exact zB | exact zC | exact zD | exact zE | rfl | exact zN rfl | omega | assumption | (simp; done) | (simp [splice]; done) | (simp; omega) | (unfold fits; omega) | (unfold fits; simp_all; omega) | (simp_all; omega) | (simp_all; done) | intro _ | exact zI ?_ ?_ | intro _))))); try (refine L.nil ?_))
  ((repeat refine S.seq ?_); refine S.cond rfl (fun h4 => ?_) (fun h4 => ?_) <;> (try first | refine S.skip ?_ | refine S.exit ?_))
  · cases h4
  ((repeat refine S.seq ?_); refine S.region (L.go (T := tt) tt_ok rfl rfl ?sd8 ?_); (try (case sd8 => (repeat' ((first | first | exact trivial | exact zA | with_reducible refine zI ?_ ?_ | exact zB | exact zC | exact zD | exact zE | rfl | exact zN rfl | omega | assumption | (simp; done) | (simp [splice]; done) | (simp; omega) | (unfold fits; omega) | (unfold fits; simp_all; omega) | (simp_all; omega) | (simp_all; done) | intro _ | exact zI ?_ ?_ | intro _))))); try (refine L.nil ?_))
  (((repeat refine S.seq ?_); refine S.ret ?_); refine E.retP (T := tt) tt_ok rfl rfl (by (repeat' ((first | first | exact trivial | exact zA | with_reducible refine zI ?_ ?_ | exact zB | exact zC | exact zD | exact zE | rfl | exact zN rfl | omega | assumption | (simp; done) | (simp [splice]; done) | (simp; omega) | (unfold fits; omega) | (unfold fits; simp_all; omega) | (simp_all; omega) | (simp_all; done) | intro _ | exact zI ?_ ?_ | intro _)))) (Imp.of_eq ?_))
  rw [← e1]
  rfl
theorem rbody_p (body : ByteArray) (many i : Int) (hb : body.size ≤ 1000) (h0 : 0 ≤ i) (h1 : i < 10) : PFn Tryd.prog 43 [.v (.string body), .v (.int .i64 many), .v (.int .i64 i)] (.v (.string (if many > 1 then body ++ numT i else body))) := by
  have hn := numT_size h0 (show i < 100 by omega)
  refine FnC.intro Tryd.func43 rfl Tryd.ntmps43 rfl ?_; intro off w0
  ((repeat refine S.seq ?_); refine S.region (L.go (T := tt) tt_ok rfl rfl ?sd9 ?_); (try (case sd9 => (repeat' ((first | first | exact trivial | exact zA | with_reducible refine zI ?_ ?_ | exact zB | exact zC | exact zD | exact zE | rfl | exact zN rfl | omega | assumption | (simp; done) | (simp [splice]; done) | (simp; omega) | (unfold fits; omega) | (unfold fits; simp_all; omega) | (simp_all; omega) | (simp_all; done) | intro _ | exact zI ?_ ?_ | intro _))))); try (refine L.nil ?_))
  ((repeat refine S.seq ?_); refine S.region (L.go (T := tt) tt_ok rfl rfl ?sd10 ?_); (try (case sd10 => (repeat' ((first | first | exact trivial | exact zA | with_reducible refine zI ?_ ?_ | exact zB | exact zC | exact zD | exact zE | rfl | exact zN rfl | omega | assumption | (simp; done) | (simp [splice]; done) | (simp; omega) | (unfold fits; omega) | (unfold fits; simp_all; omega) | (simp_all; omega) | (simp_all; done) | intro _ | exact zI ?_ ?_ | intro _))))); try (refine L.nil ?_))
  ((repeat refine S.seq ?_); refine S.cond rfl (fun h2 => ?_) (fun h2 => ?_) <;> (try first | refine S.skip ?_ | refine S.exit ?_))
  · have h2n : many > 1 := of_dec h2
    repeat refine S.seq ?_
    refine S.region ?_
    (refine L.go (T := tt) tt_ok rfl rfl ?sd38 ?_; (try (case sd38 => (repeat' ((first | first | exact trivial | exact zA | with_reducible refine zI ?_ ?_ | exact zB | exact zC | exact zD | exact zE | rfl | exact zN rfl | omega | assumption | (simp; done) | (simp [splice]; done) | (simp; omega) | (unfold fits; omega) | (unfold fits; simp_all; omega) | (simp_all; omega) | (simp_all; done) | intro _ | exact zI ?_ ?_ | intro _))))); try (refine L.nil ?_))
    refine L.callP rfl rfl rfl rfl rfl rfl rfl ⟨trivial, by (repeat' ((first | first | exact trivial | exact zA | with_reducible refine zI ?_ ?_ | exact zB | exact zC | exact zD | exact zE | rfl | exact zN rfl | omega | assumption | (simp; done) | (simp [splice]; done) | (simp; omega) | (unfold fits; omega) | (unfold fits; simp_all; omega) | (simp_all; omega) | (simp_all; done) | intro _ | exact zI ?_ ?_ | intro _)))⟩ rfl (Imps.refl _) (rdec_p i h0 h1) ?_
    (refine L.go (T := tt) tt_ok rfl rfl ?sd39 ?_; (try (case sd39 => (repeat' ((first | first | exact trivial | exact zA | with_reducible refine zI ?_ ?_ | exact zB | exact zC | exact zD | exact zE | rfl | exact zN rfl | omega | assumption | (simp; done) | (simp [splice]; done) | (simp; omega) | (unfold fits; omega) | (unfold fits; simp_all; omega) | (simp_all; omega) | (simp_all; done) | intro _ | exact zI ?_ ?_ | intro _))))); try (refine L.nil ?_))
    (((repeat refine S.seq ?_); refine S.ret ?_); refine E.retP (T := tt) tt_ok rfl rfl (by (repeat' ((first | first | exact trivial | exact zA | with_reducible refine zI ?_ ?_ | exact zB | exact zC | exact zD | exact zE | rfl | exact zN rfl | omega | assumption | (simp; done) | (simp [splice]; done) | (simp; omega) | (unfold fits; omega) | (unfold fits; simp_all; omega) | (simp_all; omega) | (simp_all; done) | intro _ | exact zI ?_ ?_ | intro _)))) (Imp.of_eq ?_))
    rw [if_pos h2n]
    rfl
  have h2n : ¬ many > 1 := of_dec' h2
  ((repeat refine S.seq ?_); refine S.region (L.go (T := tt) tt_ok rfl rfl ?sd11 ?_); (try (case sd11 => (repeat' ((first | first | exact trivial | exact zA | with_reducible refine zI ?_ ?_ | exact zB | exact zC | exact zD | exact zE | rfl | exact zN rfl | omega | assumption | (simp; done) | (simp [splice]; done) | (simp; omega) | (unfold fits; omega) | (unfold fits; simp_all; omega) | (simp_all; omega) | (simp_all; done) | intro _ | exact zI ?_ ?_ | intro _))))); try (refine L.nil ?_))
  (((repeat refine S.seq ?_); refine S.ret ?_); refine E.retP (T := tt) tt_ok rfl rfl (by (repeat' ((first | first | exact trivial | exact zA | with_reducible refine zI ?_ ?_ | exact zB | exact zC | exact zD | exact zE | rfl | exact zN rfl | omega | assumption | (simp; done) | (simp [splice]; done) | (simp; omega) | (unfold fits; omega) | (unfold fits; simp_all; omega) | (simp_all; omega) | (simp_all; done) | intro _ | exact zI ?_ ?_ | intro _)))) (Imp.of_eq ?_))
  rw [if_neg h2n]
  rfl

def firstTo (l : List OutD) (i k : Nat) : Bool := (List.range k).all fun j => !sameB l j i
theorem firstTo_succ (l : List OutD) (i k : Nat) : firstTo l i (k + 1) = (firstTo l i k && !sameB l k i) := by
  unfold firstTo
  rw [List.range_succ, List.all_append]
  simp
def nextTo (l : List OutD) (k : Nat) : List OutD := (plcL l k).map fun i => l.getD i default
theorem nextTo_succ (l : List OutD) (k : Nat) : nextTo l (k + 1) = nextTo l k ++ if firstB l k then [l.getD k default] else [] := by
  unfold nextTo
  rw [plcL_succ, List.map_append]
  congr 1
  split <;> rfl
theorem nextTo_all (l : List OutD) : nextTo l l.length = nextO l l.length := by
  unfold nextTo nextO
  rw [List.take_of_length_le (plcL_len l l.length)]

theorem rnext_p (b : Nat) (xl xc : Value) (A : AuD) (cs : List Mark) (ok : AuOk A) : FnC Tryd.prog 16 [.ptr 50 b 0] (raR b xl xc A cs)
    (fun r F' => ∃ y, r = .ref 56 y ∧ F' = (56, .own y 39 2 (nextO A.l A.l.length).length (gOf OutD.cells (nextO A.l A.l.length))) :: raR b xl xc A cs) := by
  have hlen := ok.len
  unfold raR
  refine FnC.intro Tryd.func16 rfl Tryd.ntmps16 rfl ?_; intro off w0
  ((repeat refine S.seq ?_); refine S.region (L.go (T := tt) tt_ok rfl rfl ?sd12 ?_); (try (case sd12 => (repeat' ((first | first | exact trivial | exact zA | with_reducible refine zI ?_ ?_ | exact zB | exact zC | exact zD | exact zE | rfl | exact zN rfl | omega | assumption | (simp; done) | (simp [splice]; done) | (simp; omega) | (unfold fits; omega) | (unfold fits; simp_all; omega) | (simp_all; omega) | (simp_all; done) | intro _ | exact zI ?_ ?_ | intro _))))); try (refine L.nil ?_))
  ((repeat refine S.seq ?_); refine S.region (L.go (T := tt) tt_ok rfl rfl ?sd13 ?_); (try (case sd13 => (repeat' ((first | first | exact trivial | exact zA | with_reducible refine zI ?_ ?_ | exact zB | exact zC | exact zD | exact zE | rfl | exact zN rfl | omega | assumption | (simp; done) | (simp [splice]; done) | (simp; omega) | (unfold fits; omega) | (unfold fits; simp_all; omega) | (simp_all; omega) | (simp_all; done) | intro _ | exact zI ?_ ?_ | intro _))))); try (refine L.nil ?_))
  ((repeat refine S.seq ?_); refine S.region (L.go (T := tt) tt_ok rfl rfl ?sd14 ?_); (try (case sd14 => (repeat' ((first | first | exact trivial | exact zA | with_reducible refine zI ?_ ?_ | exact zB | exact zC | exact zD | exact zE | rfl | exact zN rfl | omega | assumption | (simp; done) | (simp [splice]; done) | (simp; omega) | (unfold fits; omega) | (unfold fits; simp_all; omega) | (simp_all; omega) | (simp_all; done) | intro _ | exact zI ?_ ?_ | intro _))))); try (refine L.nil ?_))
  refine nilRow 56 39 2 (gOf OutD.cells (nextTo A.l 0)) ?_
  refine slotAs 3 (.ref 56 (.slice none 0 0)) rfl (Imp.vref rfl) ?_
  repeat refine S.seq ?_
  refine S.block (S.loop (ι := { k : Nat × Value // k.1 ≤ A.l.length }) (fun k => [(0, .ptr 50 b 0), (3, .ref 56 k.1.2), (4, .v (.int .i64 k.1.1))])
    (fun k => (56, .own k.1.2 39 2 (nextTo A.l k.1.1).length (gOf OutD.cells (nextTo A.l k.1.1))) :: raR b xl xc A cs) (fun k => A.l.length - k.1.1) ?_ ?_)
  · exact fun a w h => ⟨⟨(0, .slice none 0 0), Nat.zero_le _⟩, h.weakP (by (repeat' (first | exact True.intro | exact Imp.refl _ | refine ⟨?_, ?_⟩))) (by first | (unfold raR; (repeat (first | exact Sub.refl _ | refine Sub.pick (by first | exact p0 | exact pS p0 | exact pS (pS p0) | exact pS (pS (pS p0)) | exact pS (pS (pS (pS p0))) | exact pS (pS (pS (pS (pS p0))))) ?_))) | (repeat (first | exact Sub.refl _ | refine Sub.pick (by first | exact p0 | exact pS p0 | exact pS (pS p0) | exact pS (pS (pS p0)) | exact pS (pS (pS (pS p0))) | exact pS (pS (pS (pS (pS p0))))) ?_)))⟩
  rintro ⟨⟨i, y⟩, hi⟩
  dsimp only at hi ⊢
  have hnl : (nextTo A.l i).length ≤ 16 := by unfold nextTo; rw [List.length_map]; have := plcL_len A.l i; omega
  unfold raR
  ((repeat refine S.seq ?_); refine S.region (L.go (T := tt) tt_ok rfl rfl ?sd15 ?_); (try (case sd15 => (repeat' ((first | first | exact trivial | exact zA | with_reducible refine zI ?_ ?_ | exact zB | exact zC | exact zD | exact zE | rfl | exact zN rfl | omega | assumption | (simp; done) | (simp [splice]; done) | (simp; omega) | (unfold fits; omega) | (unfold fits; simp_all; omega) | (simp_all; omega) | (simp_all; done) | intro _ | exact zI ?_ ?_ | intro _))))); try (refine L.nil ?_))
  ((repeat refine S.seq ?_); refine S.cond rfl (fun h1 => ?_) (fun h1 => ?_) <;> (try first | refine S.skip ?_ | refine S.exit ?_))
  · have h1n : i < A.l.length := by have := of_dec h1; omega
    obtain ⟨o1, o2, o3, o4⟩ := ok.some1 (A.l.getD i default) (by rw [getD_get h1n]; exact List.getElem_mem _)
    repeat refine S.seq ?_
    refine S.block ?_
    ((repeat refine S.seq ?_); refine S.region (L.go (T := tt) tt_ok rfl rfl ?sd16 ?_); (try (case sd16 => (repeat' ((first | first | exact trivial | exact zA | with_reducible refine zI ?_ ?_ | exact zB | exact zC | exact zD | exact zE | rfl | exact zN rfl | omega | assumption | (simp; done) | (simp [splice]; done) | (simp; omega) | (unfold fits; omega) | (unfold fits; simp_all; omega) | (simp_all; omega) | (simp_all; done) | intro _ | exact zI ?_ ?_ | intro _))))); try (refine L.nil ?_))
    ((repeat refine S.seq ?_); refine S.region (L.go (T := tt) tt_ok rfl rfl ?sd17 ?_); (try (case sd17 => (repeat' ((first | first | exact trivial | exact zA | with_reducible refine zI ?_ ?_ | exact zB | exact zC | exact zD | exact zE | rfl | exact zN rfl | omega | assumption | (simp; done) | (simp [splice]; done) | (simp; omega) | (unfold fits; omega) | (unfold fits; simp_all; omega) | (simp_all; omega) | (simp_all; done) | intro _ | exact zI ?_ ?_ | intro _))))); try (refine L.nil ?_))
    repeat refine S.seq ?_
    refine S.block (S.loop (ι := { k : Nat // k ≤ i }) (fun k => [(0, .ptr 50 b 0), (3, .ref 56 y), (4, .v (.int .i64 i)), (5, .v (.bool (firstTo A.l i k.1))), (6, .v (.int .i64 k.1))])
      (fun k => (56, .own y 39 2 (nextTo A.l i).length (gOf OutD.cells (nextTo A.l i))) :: raR b xl xc A cs) (fun k => i - k.1) ?_ ?_)
    · exact fun a w h => ⟨⟨0, Nat.zero_le _⟩, h.weakP (by (repeat' (first | exact True.intro | exact Imp.refl _ | refine ⟨?_, ?_⟩))) (by first | (unfold raR; (repeat (first | exact Sub.refl _ | refine Sub.pick (by first | exact p0 | exact pS p0 | exact pS (pS p0) | exact pS (pS (pS p0)) | exact pS (pS (pS (pS p0))) | exact pS (pS (pS (pS (pS p0))))) ?_))) | (repeat (first | exact Sub.refl _ | refine Sub.pick (by first | exact p0 | exact pS p0 | exact pS (pS p0) | exact pS (pS (pS p0)) | exact pS (pS (pS (pS p0))) | exact pS (pS (pS (pS (pS p0))))) ?_)))⟩
    rintro ⟨k, hk⟩
    dsimp only
    unfold raR
    ((repeat refine S.seq ?_); refine S.region (L.go (T := tt) tt_ok rfl rfl ?sd18 ?_); (try (case sd18 => (repeat' ((first | first | exact trivial | exact zA | with_reducible refine zI ?_ ?_ | exact zB | exact zC | exact zD | exact zE | rfl | exact zN rfl | omega | assumption | (simp; done) | (simp [splice]; done) | (simp; omega) | (unfold fits; omega) | (unfold fits; simp_all; omega) | (simp_all; omega) | (simp_all; done) | intro _ | exact zI ?_ ?_ | intro _))))); try (refine L.nil ?_))
    ((repeat refine S.seq ?_); refine S.cond rfl (fun h2 => ?_) (fun h2 => ?_) <;> (try first | refine S.skip ?_ | refine S.exit ?_))
    · have h2n : k < i := by have := of_dec h2; omega
      obtain ⟨p1, p2, p3, p4⟩ := ok.some1 (A.l.getD k default) (by rw [getD_get (by omega)]; exact List.getElem_mem _)
      repeat refine S.seq ?_
      refine S.block ?_
      repeat refine S.seq ?_
      refine S.draw [(5, [50]), (9, [51]), (13, [50]), (17, [51]), (23, [50]), (27, [51]), (34, [50]), (38, [51])] mixed ?_
      (refine H.ts (T := tt) [0, 1, 2, 3, 4, 5, 6, 7, 8, 9, 10, 11, 12, 13, 14, 15, 16, 17, 18, 19, 20, 21, 22, 23, 24, 25, 26, 27, 28, 29, 30, 31, 32, 33, 34, 35, 36, 37, 38, 39, 40, 41, 42, 43, 44, 45] tt_ok (by kernel_rfl) (by kernel_rfl) (by kernel_rfl) (by intro ch a a' w h; obtain ⟨_, _, _, _, _, h, _⟩ := h; cases h) rfl ?sd42 ?_; (try (case sd42 => (repeat' ((first | first | exact trivial | exact zA | with_reducible refine zI ?_ ?_ | exact zB | exact zC | exact zD | exact zE | rfl | exact zN rfl | omega | assumption | (simp; done) | (simp [splice]; done) | (simp; omega) | (unfold fits; omega) | (unfold fits; simp_all; omega) | (simp_all; omega) | (simp_all; done) | intro _ | exact zI ?_ ?_ | intro _))))))
      refine H.done (by kernel_rfl) ?_
      refine slotAs 5 (.v (.bool (firstTo A.l i (k + 1)))) rfl (Imp.of_eq ?_) ?_
      · have e : (!sameB A.l k i) = (((A.l.getD k default).queue != (A.l.getD i default).queue) || ((A.l.getD k default).key0 != (A.l.getD i default).key0)) := by
          unfold sameB
          rw [Bool.not_and]
          rfl
        rw [firstTo_succ, e]
        rfl
      ((repeat refine S.seq ?_); refine S.region (L.go (T := tt) tt_ok rfl rfl ?sd19 ?_); (try (case sd19 => (repeat' ((first | first | exact trivial | exact zA | with_reducible refine zI ?_ ?_ | exact zB | exact zC | exact zD | exact zE | rfl | exact zN rfl | omega | assumption | (simp; done) | (simp [splice]; done) | (simp; omega) | (unfold fits; omega) | (unfold fits; simp_all; omega) | (simp_all; omega) | (simp_all; done) | intro _ | exact zI ?_ ?_ | intro _))))); try (refine L.nil ?_))
      exact fun a w h => ⟨⟨k + 1, by omega⟩, by show i - (k + 1) < i - k; omega, h.weakP (by (repeat' (first | exact True.intro | exact Imp.refl _ | refine ⟨?_, ?_⟩))) (by first | (unfold raR; (repeat (first | exact Sub.refl _ | refine Sub.pick (by first | exact p0 | exact pS p0 | exact pS (pS p0) | exact pS (pS (pS p0)) | exact pS (pS (pS (pS p0))) | exact pS (pS (pS (pS (pS p0))))) ?_))) | (repeat (first | exact Sub.refl _ | refine Sub.pick (by first | exact p0 | exact pS p0 | exact pS (pS p0) | exact pS (pS (pS p0)) | exact pS (pS (pS (pS p0))) | exact pS (pS (pS (pS (pS p0))))) ?_)))⟩
    have h2n : k = i := by have := of_dec' h2; omega
    subst h2n
    ((repeat refine S.seq ?_); refine S.region (L.go (T := tt) tt_ok rfl rfl ?sd20 ?_); (try (case sd20 => (repeat' ((first | first | exact trivial | exact zA | with_reducible refine zI ?_ ?_ | exact zB | exact zC | exact zD | exact zE | rfl | exact zN rfl | omega | assumption | (simp; done) | (simp [splice]; done) | (simp; omega) | (unfold fits; omega) | (unfold fits; simp_all; omega) | (simp_all; omega) | (simp_all; done) | intro _ | exact zI ?_ ?_ | intro _))))); try (refine L.nil ?_))
    have hks := nextTo_succ A.l k
    refine S.cut (ι := Value) (fun y => [(0, .ptr 50 b 0), (3, .ref 56 y), (4, .v (.int .i64 k))])
      (fun y => (56, .own y 39 2 (nextTo A.l (k + 1)).length (gOf OutD.cells (nextTo A.l (k + 1)))) :: raR b xl xc A cs) ?_ ?_
    · ((repeat refine S.seq ?_); refine S.cond rfl (fun h3 => ?_) (fun h3 => ?_) <;> (try first | refine S.skip ?_ | refine S.exit ?_))
      · have hf : firstB A.l k = true := h3
        rw [if_pos hf] at hks
        ((repeat refine S.seq ?_); refine S.region (L.go (T := tt) tt_ok rfl rfl ?sd21 ?_); (try (case sd21 => (repeat' ((first | first | exact trivial | exact zA | with_reducible refine zI ?_ ?_ | exact zB | exact zC | exact zD | exact zE | rfl | exact zN rfl | omega | assumption | (simp; done) | (simp [splice]; done) | (simp; omega) | (unfold fits; omega) | (unfold fits; simp_all; omega) | (simp_all; omega) | (simp_all; done) | intro _ | exact zI ?_ ?_ | intro _))))); try (refine L.nil ?_))
        refine L.buildSlice (T := tt) 57 tt_ok rfl rfl rfl rfl rfl rfl (by decide) (by decide) rfl rfl (by (repeat' ((first | first | exact trivial | exact zA | with_reducible refine zI ?_ ?_ | exact zB | exact zC | exact zD | exact zE | rfl | exact zN rfl | omega | assumption | (simp; done) | (simp [splice]; done) | (simp; omega) | (unfold fits; omega) | (unfold fits; simp_all; omega) | (simp_all; omega) | (simp_all; done) | intro _ | exact zI ?_ ?_ | intro _)))) fun x75 => ?_
        refine L.append (T := tt) tt_ok rfl rfl rfl rfl rfl rfl rfl rfl rfl rfl (by (repeat' ((first | first | exact trivial | exact zA | with_reducible refine zI ?_ ?_ | exact zB | exact zC | exact zD | exact zE | rfl | exact zN rfl | omega | assumption | (simp; done) | (simp [splice]; done) | (simp; omega) | (unfold fits; omega) | (unfold fits; simp_all; omega) | (simp_all; omega) | (simp_all; done) | intro _ | exact zI ?_ ?_ | intro _)))) ⟨rfl, by decide, by decide⟩ (by simp; omega) fun y76 => ?_
        (refine L.go (T := tt) tt_ok rfl rfl ?sd40 ?_; (try (case sd40 => (repeat' ((first | first | exact trivial | exact zA | with_reducible refine zI ?_ ?_ | exact zB | exact zC | exact zD | exact zE | rfl | exact zN rfl | omega | assumption | (simp; done) | (simp [splice]; done) | (simp; omega) | (unfold fits; omega) | (unfold fits; simp_all; omega) | (simp_all; omega) | (simp_all; done) | intro _ | exact zI ?_ ?_ | intro _))))); try (refine L.nil ?_))
        refine ownAs 56 (gOf OutD.cells (nextTo A.l (k + 1))) rfl (show (nextTo A.l k).length + 1 = (nextTo A.l (k + 1)).length by rw [hks]; simp) (fun i hi => ?_) ?_
        · rw [hks]
          exact app1_h OutD.cells (nextTo A.l k) _ _ rfl rfl hi
        exact fun a w h => ⟨y76, h.weakP (by (repeat' (first | exact True.intro | exact Imp.refl _ | refine ⟨?_, ?_⟩))) (by first | (unfold raR; (repeat (first | exact Sub.refl _ | refine Sub.pick (by first | exact p0 | exact pS p0 | exact pS (pS p0) | exact pS (pS (pS p0)) | exact pS (pS (pS (pS p0))) | exact pS (pS (pS (pS (pS p0))))) ?_))) | (repeat (first | exact Sub.refl _ | refine Sub.pick (by first | exact p0 | exact pS p0 | exact pS (pS p0) | exact pS (pS (pS p0)) | exact pS (pS (pS (pS p0))) | exact pS (pS (pS (pS (pS p0))))) ?_)))⟩
      · have hf : firstB A.l k = false := h3
        rw [hf] at hks
        simp only [Bool.false_eq_true, if_false, List.append_nil] at hks
        rw [hks]
        exact fun a w h => ⟨y, h.weakP (by (repeat' (first | exact True.intro | exact Imp.refl _ | refine ⟨?_, ?_⟩))) (by first | (unfold raR; (repeat (first | exact Sub.refl _ | refine Sub.pick (by first | exact p0 | exact pS p0 | exact pS (pS p0) | exact pS (pS (pS p0)) | exact pS (pS (pS (pS p0))) | exact pS (pS (pS (pS (pS p0))))) ?_))) | (repeat (first | exact Sub.refl _ | refine Sub.pick (by first | exact p0 | exact pS p0 | exact pS (pS p0) | exact pS (pS (pS p0)) | exact pS (pS (pS (pS p0))) | exact pS (pS (pS (pS (pS p0))))) ?_)))⟩
    intro y
    try dsimp only
    unfold raR
    ((repeat refine S.seq ?_); refine S.region (L.go (T := tt) tt_ok rfl rfl ?sd22 ?_); (try (case sd22 => (repeat' ((first | first | exact trivial | exact zA | with_reducible refine zI ?_ ?_ | exact zB | exact zC | exact zD | exact zE | rfl | exact zN rfl | omega | assumption | (simp; done) | (simp [splice]; done) | (simp; omega) | (unfold fits; omega) | (unfold fits; simp_all; omega) | (simp_all; omega) | (simp_all; done) | intro _ | exact zI ?_ ?_ | intro _))))); try (refine L.nil ?_))
    exact fun a w h => ⟨⟨(k + 1, y), by show k + 1 ≤ _; omega⟩, by show A.l.length - (k + 1) < A.l.length - k; omega, h.weakP (by (repeat' (first | exact True.intro | exact Imp.refl _ | refine ⟨?_, ?_⟩))) (by first | (unfold raR; (repeat (first | exact Sub.refl _ | refine Sub.pick (by first | exact p0 | exact pS p0 | exact pS (pS p0) | exact pS (pS (pS p0)) | exact pS (pS (pS (pS p0))) | exact pS (pS (pS (pS (pS p0))))) ?_))) | (repeat (first | exact Sub.refl _ | refine Sub.pick (by first | exact p0 | exact pS p0 | exact pS (pS p0) | exact pS (pS (pS p0)) | exact pS (pS (pS (pS p0))) | exact pS (pS (pS (pS (pS p0))))) ?_)))⟩
  have h1n : i = A.l.length := by have := of_dec' h1; omega
  subst h1n
  rw [nextTo_all]
  ((repeat refine S.seq ?_); refine S.region (L.go (T := tt) tt_ok rfl rfl ?sd23 ?_); (try (case sd23 => (repeat' ((first | first | exact trivial | exact zA | with_reducible refine zI ?_ ?_ | exact zB | exact zC | exact zD | exact zE | rfl | exact zN rfl | omega | assumption | (simp; done) | (simp [splice]; done) | (simp; omega) | (unfold fits; omega) | (unfold fits; simp_all; omega) | (simp_all; omega) | (simp_all; done) | intro _ | exact zI ?_ ?_ | intro _))))); try (refine L.nil ?_))
  ((repeat refine S.seq ?_); refine S.ret ?_)
  exact E.ret (T := tt) tt_ok rfl rfl (by (repeat' ((first | first | exact trivial | exact zA | with_reducible refine zI ?_ ?_ | exact zB | exact zC | exact zD | exact zE | rfl | exact zN rfl | omega | assumption | (simp; done) | (simp [splice]; done) | (simp; omega) | (unfold fits; omega) | (unfold fits; simp_all; omega) | (simp_all; omega) | (simp_all; done) | intro _ | exact zI ?_ ?_ | intro _)))) (F' := (56, .own y 39 2 (nextO A.l A.l.length).length (gOf OutD.cells (nextO A.l A.l.length))) :: raR b xl xc A cs) (Imp.refl _) (by unfold raR; (repeat (first | exact List.nil_sublist _ | refine List.Sublist.cons_cons _ ?_ | refine List.Sublist.cons _ ?_))) ⟨y, rfl, rfl⟩

def rP (l : List OutD) (q : Int) (key : ByteArray) (i : Nat) : Bool := (l.getD i default).queue == q && (l.getD i default).key0 == key
def rAt (A : AuD) (q : Int) (key : ByteArray) : Int := pidx (rP A.l q key) A.l.length
def rtoldE (A : AuD) (q : Int) (key : ByteArray) (seq code : Int) : Int := if rAt A q key < 0 then 3 else if (lastM (A.l.getD (rAt A q key).toNat default)).seq ≠ seq then 3 else codeA code
def rtoldS (A : AuD) (q : Int) (key : ByteArray) (seq code : Int) : AuD := if rAt A q key < 0 ∨ (lastM (A.l.getD (rAt A q key).toNat default)).seq ≠ seq ∨ codeA code = 7 then A else { A with l := A.l.eraseIdx (rAt A q key).toNat }

theorem rtold_p (b : Nat) (xl xc : Value) (A : AuD) (cs : List Mark) (q : Int) (key : ByteArray) (seq code : Int) (ok : AuOk A) : FnC Tryd.prog 21 [.ptr 50 b 0, .v (.int .i64 q), .v (.string key), .v (.int .i64 seq), .v (.int .i64 code)] (raR b xl xc A cs)
    (fun r F' => ∃ xl', r = .v (.int .i64 (rtoldE A q key seq code)) ∧ F' = raR b xl' xc (rtoldS A q key seq code) cs) := by
  have hlen := ok.len
  unfold raR
  refine FnC.intro Tryd.func21 rfl Tryd.ntmps21 rfl ?_; intro off w0
  ((repeat refine S.seq ?_); refine S.region (L.go (T := tt) tt_ok rfl rfl ?sd24 ?_); (try (case sd24 => (repeat' ((first | first | exact trivial | exact zA | with_reducible refine zI ?_ ?_ | exact zB | exact zC | exact zD | exact zE | rfl | exact zN rfl | omega | assumption | (simp; done) | (simp [splice]; done) | (simp; omega) | (unfold fits; omega) | (unfold fits; simp_all; omega) | (simp_all; omega) | (simp_all; done) | intro _ | exact zI ?_ ?_ | intro _))))); try (refine L.nil ?_))
  ((repeat refine S.seq ?_); refine S.region (L.go (T := tt) tt_ok rfl rfl ?sd25 ?_); (try (case sd25 => (repeat' ((first | first | exact trivial | exact zA | with_reducible refine zI ?_ ?_ | exact zB | exact zC | exact zD | exact zE | rfl | exact zN rfl | omega | assumption | (simp; done) | (simp [splice]; done) | (simp; omega) | (unfold fits; omega) | (unfold fits; simp_all; omega) | (simp_all; omega) | (simp_all; done) | intro _ | exact zI ?_ ?_ | intro _))))); try (refine L.nil ?_))
  repeat refine S.seq ?_
  refine S.block (S.loop (ι := { k : Nat // k ≤ A.l.length ∧ ∀ j, j < k → rP A.l q key j = false }) (fun k => [(0, .ptr 50 b 0), (1, .v (.int .i64 q)), (2, .v (.string key)), (3, .v (.int .i64 seq)), (4, .v (.int .i64 code)), (11, .v (.int .i64 k.1))])
    (fun k => raR b xl xc A cs) (fun k => A.l.length - k.1) ?_ ?_)
  · exact fun a w h => ⟨⟨0, Nat.zero_le _, fun j hj => absurd hj (by omega)⟩, h.weakP (by (repeat' (first | exact True.intro | exact Imp.refl _ | refine ⟨?_, ?_⟩))) (by first | (unfold raR; (repeat (first | exact Sub.refl _ | refine Sub.pick (by first | exact p0 | exact pS p0 | exact pS (pS p0) | exact pS (pS (pS p0)) | exact pS (pS (pS (pS p0))) | exact pS (pS (pS (pS (pS p0))))) ?_))) | (repeat (first | exact Sub.refl _ | refine Sub.pick (by first | exact p0 | exact pS p0 | exact pS (pS p0) | exact pS (pS (pS p0)) | exact pS (pS (pS (pS p0))) | exact pS (pS (pS (pS (pS p0))))) ?_)))⟩
  rintro ⟨i, hi, ik⟩
  dsimp only
  unfold raR
  ((repeat refine S.seq ?_); refine S.region (L.go (T := tt) tt_ok rfl rfl ?sd26 ?_); (try (case sd26 => (repeat' ((first | first | exact trivial | exact zA | with_reducible refine zI ?_ ?_ | exact zB | exact zC | exact zD | exact zE | rfl | exact zN rfl | omega | assumption | (simp; done) | (simp [splice]; done) | (simp; omega) | (unfold fits; omega) | (unfold fits; simp_all; omega) | (simp_all; omega) | (simp_all; done) | intro _ | exact zI ?_ ?_ | intro _))))); try (refine L.nil ?_))
  ((repeat refine S.seq ?_); refine S.cond rfl (fun h1 => ?_) (fun h1 => ?_) <;> (try first | refine S.skip ?_ | refine S.exit ?_))
  · have h1n : i < A.l.length := by have := of_dec h1; omega
    obtain ⟨o1, o2, o3, o4⟩ := ok.some1 (A.l.getD i default) (by rw [getD_get h1n]; exact List.getElem_mem _)
    repeat refine S.seq ?_
    refine S.block ?_
    ((repeat refine S.seq ?_); refine S.region (L.go (T := tt) tt_ok rfl rfl ?sd27 ?_); (try (case sd27 => (repeat' ((first | first | exact trivial | exact zA | with_reducible refine zI ?_ ?_ | exact zB | exact zC | exact zD | exact zE | rfl | exact zN rfl | omega | assumption | (simp; done) | (simp [splice]; done) | (simp; omega) | (unfold fits; omega) | (unfold fits; simp_all; omega) | (simp_all; omega) | (simp_all; done) | intro _ | exact zI ?_ ?_ | intro _))))); try (refine L.nil ?_))
    refine L.alloc (T := tt) 58 tt_ok rfl rfl rfl rfl rfl fun b12 => ?_
    (refine L.store (T := tt) tt_ok rfl rfl rfl rfl rfl rfl ?sd41 ?_; (try (case sd41 => (repeat' ((first | first | exact trivial | exact zA | with_reducible refine zI ?_ ?_ | exact zB | exact zC | exact zD | exact zE | rfl | exact zN rfl | omega | assumption | (simp; done) | (simp [splice]; done) | (simp; omega) | (unfold fits; omega) | (unfold fits; simp_all; omega) | (simp_all; omega) | (simp_all; done) | intro _ | exact zI ?_ ?_ | intro _))))))
    refine L.nil ?_
    ((repeat refine S.seq ?_); refine S.region (L.go (T := tt) tt_ok rfl rfl ?sd28 ?_); (try (case sd28 => (repeat' ((first | first | exact trivial | exact zA | with_reducible refine zI ?_ ?_ | exact zB | exact zC | exact zD | exact zE | rfl | exact zN rfl | omega | assumption | (simp; done) | (simp [splice]; done) | (simp; omega) | (unfold fits; omega) | (unfold fits; simp_all; omega) | (simp_all; omega) | (simp_all; done) | intro _ | exact zI ?_ ?_ | intro _))))); try (refine L.nil ?_))
    have eP : rP A.l q key i = !(((A.l.getD i default).queue != q) || ((A.l.getD i default).key0 != key)) := by
      unfold rP
      rw [Bool.not_or]
      simp [bne]
    ((repeat refine S.seq ?_); refine S.cond rfl (fun h2 => ?_) (fun h2 => ?_) <;> (try first | refine S.skip ?_ | refine S.exit ?_))
    · have hno : rP A.l q key i = false := by
        rw [eP]
        have : (((A.l.getD i default).queue != q) || ((A.l.getD i default).key0 != key)) = true := h2
        rw [this]; rfl
      ((repeat refine S.seq ?_); refine S.region (L.go (T := tt) tt_ok rfl rfl ?sd29 ?_); (try (case sd29 => (repeat' ((first | first | exact trivial | exact zA | with_reducible refine zI ?_ ?_ | exact zB | exact zC | exact zD | exact zE | rfl | exact zN rfl | omega | assumption | (simp; done) | (simp [splice]; done) | (simp; omega) | (unfold fits; omega) | (unfold fits; simp_all; omega) | (simp_all; omega) | (simp_all; done) | intro _ | exact zI ?_ ?_ | intro _))))); try (refine L.nil ?_))
      exact fun a w h => ⟨⟨i + 1, by omega, upto_succ ik hno⟩, by show A.l.length - (i + 1) < A.l.length - i; omega, h.weakP (by (repeat' (first | exact True.intro | exact Imp.refl _ | refine ⟨?_, ?_⟩))) (by first | (unfold raR; (repeat (first | exact Sub.refl _ | refine Sub.pick (by first | exact p0 | exact pS p0 | exact pS (pS p0) | exact pS (pS (pS p0)) | exact pS (pS (pS (pS p0))) | exact pS (pS (pS (pS (pS p0))))) ?_))) | (repeat (first | exact Sub.refl _ | refine Sub.pick (by first | exact p0 | exact pS p0 | exact pS (pS p0) | exact pS (pS (pS p0)) | exact pS (pS (pS (pS p0))) | exact pS (pS (pS (pS (pS p0))))) ?_)))⟩
    have hyes : rP A.l q key i = true := by
      rw [eP]
      have : (((A.l.getD i default).queue != q) || ((A.l.getD i default).key0 != key)) = false := h2
      rw [this]; rfl
    have hat : rAt A q key = i := pidx_some h1n hyes ik
    ((repeat refine S.seq ?_); refine S.region (L.go (T := tt) tt_ok rfl rfl ?sd30 ?_); (try (case sd30 => (repeat' ((first | first | exact trivial | exact zA | with_reducible refine zI ?_ ?_ | exact zB | exact zC | exact zD | exact zE | rfl | exact zN rfl | omega | assumption | (simp; done) | (simp [splice]; done) | (simp; omega) | (unfold fits; omega) | (unfold fits; simp_all; omega) | (simp_all; omega) | (simp_all; done) | intro _ | exact zI ?_ ?_ | intro _))))); try (refine L.nil ?_))
    ((repeat refine S.seq ?_); refine S.cond rfl (fun h3 => ?_) (fun h3 => ?_) <;> (try first | refine S.skip ?_ | refine S.exit ?_))
    · have hs : (lastM (A.l.getD i default)).seq ≠ seq := by
        have : ((lastM (A.l.getD i default)).seq != seq) = true := h3
        simpa using this
      have e1 : rtoldE A q key seq code = 3 := by rw [rtoldE, hat, if_neg (by omega), Int.toNat_natCast, if_pos hs]
      have e2 : rtoldS A q key seq code = A := by rw [rtoldS, hat, Int.toNat_natCast, if_pos (.inr (.inl hs))]
      ((repeat refine S.seq ?_); refine S.region (L.go (T := tt) tt_ok rfl rfl ?sd31 ?_); (try (case sd31 => (repeat' ((first | first | exact trivial | exact zA | with_reducible refine zI ?_ ?_ | exact zB | exact zC | exact zD | exact zE | rfl | exact zN rfl | omega | assumption | (simp; done) | (simp [splice]; done) | (simp; omega) | (unfold fits; omega) | (unfold fits; simp_all; omega) | (simp_all; omega) | (simp_all; done) | intro _ | exact zI ?_ ?_ | intro _))))); try (refine L.nil ?_))
      ((repeat refine S.seq ?_); refine S.ret ?_)
      rw [e1, e2]
      exact E.ret (T := tt) tt_ok rfl rfl (by (repeat' ((first | first | exact trivial | exact zA | with_reducible refine zI ?_ ?_ | exact zB | exact zC | exact zD | exact zE | rfl | exact zN rfl | omega | assumption | (simp; done) | (simp [splice]; done) | (simp; omega) | (unfold fits; omega) | (unfold fits; simp_all; omega) | (simp_all; omega) | (simp_all; done) | intro _ | exact zI ?_ ?_ | intro _)))) (F' := raR b xl xc A cs) (Imp.refl _) (by unfold raR; (repeat (first | exact List.nil_sublist _ | refine List.Sublist.cons_cons _ ?_ | refine List.Sublist.cons _ ?_))) ⟨xl, rfl, rfl⟩
    have hs : ¬ (lastM (A.l.getD i default)).seq ≠ seq := by
      have : ((lastM (A.l.getD i default)).seq != seq) = false := h3
      simpa using this
    ((repeat refine S.seq ?_); refine S.region (L.go (T := tt) tt_ok rfl rfl ?sd32 ?_); (try (case sd32 => (repeat' ((first | first | exact trivial | exact zA | with_reducible refine zI ?_ ?_ | exact zB | exact zC | exact zD | exact zE | rfl | exact zN rfl | omega | assumption | (simp; done) | (simp [splice]; done) | (simp; omega) | (unfold fits; omega) | (unfold fits; simp_all; omega) | (simp_all; omega) | (simp_all; done) | intro _ | exact zI ?_ ?_ | intro _))))); try (refine L.nil ?_))
    ((repeat refine S.seq ?_); refine S.cond rfl (fun h4 => ?_) (fun h4 => ?_) <;> (try first | refine S.skip ?_ | refine S.exit ?_))
    · have hc : codeA code = 7 := by
        have : ((((code != 0) && (code != 8)) && (code != 4)) && (code != 1)) = true := h4
        simp only [Bool.and_eq_true, bne_iff_ne, ne_eq] at this
        rw [codeA, if_neg (by rintro (h | h); exact this.1.1.1 h; exact this.1.1.2 h), if_neg (by rintro (h | h); exact this.1.2 h; exact this.2 h)]
      have e1 : rtoldE A q key seq code = 7 := by rw [rtoldE, hat, if_neg (by omega), Int.toNat_natCast, if_neg hs, hc]
      have e2 : rtoldS A q key seq code = A := by rw [rtoldS, hat, Int.toNat_natCast, if_pos (.inr (.inr hc))]
      ((repeat refine S.seq ?_); refine S.region (L.go (T := tt) tt_ok rfl rfl ?sd33 ?_); (try (case sd33 => (repeat' ((first | first | exact trivial | exact zA | with_reducible refine zI ?_ ?_ | exact zB | exact zC | exact zD | exact zE | rfl | exact zN rfl | omega | assumption | (simp; done) | (simp [splice]; done) | (simp; omega) | (unfold fits; omega) | (unfold fits; simp_all; omega) | (simp_all; omega) | (simp_all; done) | intro _ | exact zI ?_ ?_ | intro _))))); try (refine L.nil ?_))
      ((repeat refine S.seq ?_); refine S.ret ?_)
      rw [e1, e2]
      exact E.ret (T := tt) tt_ok rfl rfl (by (repeat' ((first | first | exact trivial | exact zA | with_reducible refine zI ?_ ?_ | exact zB | exact zC | exact zD | exact zE | rfl | exact zN rfl | omega | assumption | (simp; done) | (simp [splice]; done) | (simp; omega) | (unfold fits; omega) | (unfold fits; simp_all; omega) | (simp_all; omega) | (simp_all; done) | intro _ | exact zI ?_ ?_ | intro _)))) (F' := raR b xl xc A cs) (Imp.refl _) (by unfold raR; (repeat (first | exact List.nil_sublist _ | refine List.Sublist.cons_cons _ ?_ | refine List.Sublist.cons _ ?_))) ⟨xl, rfl, rfl⟩
    have hc : code = 0 ∨ code = 8 ∨ code = 4 ∨ code = 1 := by
      have : ((((code != 0) && (code != 8)) && (code != 4)) && (code != 1)) = false := h4
      rw [← Bool.not_eq_true] at this
      simp only [Bool.and_eq_true, bne_iff_ne, ne_eq] at this
      omega
    have hc7 : codeA code ≠ 7 := by
      rcases hc with rfl | rfl | rfl | rfl <;> decide
    have e1 : rtoldE A q key seq code = codeA code := by rw [rtoldE, hat, if_neg (by omega), Int.toNat_natCast, if_neg hs]
    have e2 : rtoldS A q key seq code = { A with l := A.l.eraseIdx i } := by
      rw [rtoldS, hat, Int.toNat_natCast, if_neg]
      rintro (h | h | h)
      · omega
      · exact hs h
      · exact hc7 h
    rw [e1, e2]
    refine freezeCell 50 1 51 rfl rfl rfl rfl ?_
    repeat refine S.seq ?_
    refine S.draw [(5, [50]), (12, [50])] mixed ?_
    (refine H.ts (T := tt) [0, 2, 3, 4, 5, 6, 7, 9, 10, 11, 12, 13, 14, 15] tt_ok (by kernel_rfl) (by kernel_rfl) (by kernel_rfl) (by intro ch a a' w h; obtain ⟨_, _, _, _, _, h, _⟩ := h; cases h) rfl ?sd43 ?_; (try (case sd43 => (repeat' ((first | first | exact trivial | exact zA | with_reducible refine zI ?_ ?_ | exact zB | exact zC | exact zD | exact zE | rfl | exact zN rfl | omega | assumption | (simp; done) | (simp [splice]; done) | (simp; omega) | (unfold fits; omega) | (unfold fits; simp_all; omega) | (simp_all; omega) | (simp_all; done) | intro _ | exact zI ?_ ?_ | intro _))))))
    refine H.o1 1 rfl (by kernel_rfl) (by kernel_rfl) (O.buildSlice (T := tt) 51 tt_ok rfl rfl rfl rfl rfl rfl (by decide) (by decide) rfl rfl (by (repeat' ((first | first | exact trivial | exact zA | with_reducible refine zI ?_ ?_ | exact zB | exact zC | exact zD | exact zE | rfl | exact zN rfl | omega | assumption | (simp; done) | (simp [splice]; done) | (simp; omega) | (unfold fits; omega) | (unfold fits; simp_all; omega) | (simp_all; omega) | (simp_all; done) | intro _ | exact zI ?_ ?_ | intro _))))) (.inr rfl) rfl fun x68 => ?_
    refine H.o1 8 rfl (by kernel_rfl) (by kernel_rfl) (O.append (T := tt) tt_ok rfl rfl rfl rfl rfl rfl rfl rfl rfl rfl (by (repeat' ((first | first | exact trivial | exact zA | with_reducible refine zI ?_ ?_ | exact zB | exact zC | exact zD | exact zE | rfl | exact zN rfl | omega | assumption | (simp; done) | (simp [splice]; done) | (simp; omega) | (unfold fits; omega) | (unfold fits; simp_all; omega) | (simp_all; omega) | (simp_all; done) | intro _ | exact zI ?_ ?_ | intro _)))) ⟨rfl, by decide, by decide⟩ (by simp; omega)) (.inl (by kernel_rfl)) (by kernel_rfl) fun y75 => ?_
    refine H.o1 16 rfl (by kernel_rfl) (by kernel_rfl) (O.append (T := tt) tt_ok rfl rfl rfl rfl rfl rfl rfl rfl rfl rfl (by (repeat' ((first | first | exact trivial | exact zA | with_reducible refine zI ?_ ?_ | exact zB | exact zC | exact zD | exact zE | rfl | exact zN rfl | omega | assumption | (simp; done) | (simp [splice]; done) | (simp; omega) | (unfold fits; omega) | (unfold fits; simp_all; omega) | (simp_all; omega) | (simp_all; done) | intro _ | exact zI ?_ ?_ | intro _)))) ⟨rfl, by decide, by decide⟩ (by simp; omega)) (.inl (by kernel_rfl)) (by kernel_rfl) fun y83 => ?_
    (refine H.ts (T := tt) [17, 18] tt_ok (by kernel_rfl) (by kernel_rfl) (by kernel_rfl) (by intro ch a a' w h; obtain ⟨_, _, _, _, _, h, _⟩ := h; cases h) rfl ?sd44 ?_; (try (case sd44 => (repeat' ((first | first | exact trivial | exact zA | with_reducible refine zI ?_ ?_ | exact zB | exact zC | exact zD | exact zE | rfl | exact zN rfl | omega | assumption | (simp; done) | (simp [splice]; done) | (simp; omega) | (unfold fits; omega) | (unfold fits; simp_all; omega) | (simp_all; omega) | (simp_all; done) | intro _ | exact zI ?_ ?_ | intro _))))))
    (refine H.store (T := tt) 19 rfl (by kernel_rfl) (by kernel_rfl) tt_ok rfl rfl rfl rfl rfl rfl ?sd45 rfl (by kernel_rfl) ?_; (try (case sd45 => (repeat' ((first | first | exact trivial | exact zA | with_reducible refine zI ?_ ?_ | exact zB | exact zC | exact zD | exact zE | rfl | exact zN rfl | omega | assumption | (simp; done) | (simp [splice]; done) | (simp; omega) | (unfold fits; omega) | (unfold fits; simp_all; omega) | (simp_all; omega) | (simp_all; done) | intro _ | exact zI ?_ ?_ | intro _))))))
    refine H.done (by kernel_rfl) ?_
    refine ownAs 51 (gOf OutD.cells (A.l.eraseIdx i)) rfl (show 0 + (i : Int).toNat + (A.l.length - ((i : Int) + 1).toNat) = (A.l.eraseIdx i).length by rw [List.length_eraseIdx, if_pos (by omega)]; omega) (fun j hj => ?_) ?_
    · simp only [joinG, Nat.zero_add, Int.toNat_natCast, Nat.not_lt_zero, if_false, Nat.sub_zero]
      simp only [gOf, List.getD_eq_getElem?_getD, List.getElem?_eraseIdx]
      split
      · rfl
      · have hik2 : i ≤ j := by omega
        have e2 : j - i + ((i : Int) + 1).toNat = j + 1 := by omega
        first | rw [e2] | (rw [show ((i : Int) + 1).toNat + (j - i) = j + 1 by omega])
    ((repeat refine S.seq ?_); refine S.region (L.go (T := tt) tt_ok rfl rfl ?sd34 ?_); (try (case sd34 => (repeat' ((first | first | exact trivial | exact zA | with_reducible refine zI ?_ ?_ | exact zB | exact zC | exact zD | exact zE | rfl | exact zN rfl | omega | assumption | (simp; done) | (simp [splice]; done) | (simp; omega) | (unfold fits; omega) | (unfold fits; simp_all; omega) | (simp_all; omega) | (simp_all; done) | intro _ | exact zI ?_ ?_ | intro _))))); try (refine L.nil ?_))
    ((repeat refine S.seq ?_); refine S.cond rfl (fun h5 => ?_) (fun h5 => ?_) <;> (try first | refine S.skip ?_ | refine S.exit ?_))
    · have h8 : code = 8 := by simpa using h5
      have hcA : codeA code = 0 := by rw [codeA, if_pos (.inr h8)]
      ((repeat refine S.seq ?_); refine S.region (L.go (T := tt) tt_ok rfl rfl ?sd35 ?_); (try (case sd35 => (repeat' ((first | first | exact trivial | exact zA | with_reducible refine zI ?_ ?_ | exact zB | exact zC | exact zD | exact zE | rfl | exact zN rfl | omega | assumption | (simp; done) | (simp [splice]; done) | (simp; omega) | (unfold fits; omega) | (unfold fits; simp_all; omega) | (simp_all; omega) | (simp_all; done) | intro _ | exact zI ?_ ?_ | intro _))))); try (refine L.nil ?_))
      rw [hcA]
      refine rowsTo (raR b y83 xc { A with l := A.l.eraseIdx i } cs) (by unfold raR; (repeat (first | exact Sub.refl _ | refine Sub.pick (by first | exact p0 | exact pS p0 | exact pS (pS p0) | exact pS (pS (pS p0)) | exact pS (pS (pS (pS p0))) | exact pS (pS (pS (pS (pS p0))))) ?_))) ?_
      ((repeat refine S.seq ?_); refine S.ret ?_)
      exact E.ret (T := tt) tt_ok rfl rfl (by (repeat' ((first | first | exact trivial | exact zA | with_reducible refine zI ?_ ?_ | exact zB | exact zC | exact zD | exact zE | rfl | exact zN rfl | omega | assumption | (simp; done) | (simp [splice]; done) | (simp; omega) | (unfold fits; omega) | (unfold fits; simp_all; omega) | (simp_all; omega) | (simp_all; done) | intro _ | exact zI ?_ ?_ | intro _)))) (Imp.refl _) (List.Sublist.refl _) ⟨y83, rfl, rfl⟩
    have h8 : code ≠ 8 := by simpa using h5
    have hcA : codeA code = code := by
      rcases hc with rfl | h | rfl | rfl
      · decide
      · exact absurd h h8
      · decide
      · decide
    ((repeat refine S.seq ?_); refine S.region (L.go (T := tt) tt_ok rfl rfl ?sd36 ?_); (try (case sd36 => (repeat' ((first | first | exact trivial | exact zA | with_reducible refine zI ?_ ?_ | exact zB | exact zC | exact zD | exact zE | rfl | exact zN rfl | omega | assumption | (simp; done) | (simp [splice]; done) | (simp; omega) | (unfold fits; omega) | (unfold fits; simp_all; omega) | (simp_all; omega) | (simp_all; done) | intro _ | exact zI ?_ ?_ | intro _))))); try (refine L.nil ?_))
    rw [hcA]
    refine rowsTo (raR b y83 xc { A with l := A.l.eraseIdx i } cs) (by unfold raR; (repeat (first | exact Sub.refl _ | refine Sub.pick (by first | exact p0 | exact pS p0 | exact pS (pS p0) | exact pS (pS (pS p0)) | exact pS (pS (pS (pS p0))) | exact pS (pS (pS (pS (pS p0))))) ?_))) ?_
    ((repeat refine S.seq ?_); refine S.ret ?_)
    exact E.ret (T := tt) tt_ok rfl rfl (by (repeat' ((first | first | exact trivial | exact zA | with_reducible refine zI ?_ ?_ | exact zB | exact zC | exact zD | exact zE | rfl | exact zN rfl | omega | assumption | (simp; done) | (simp [splice]; done) | (simp; omega) | (unfold fits; omega) | (unfold fits; simp_all; omega) | (simp_all; omega) | (simp_all; done) | intro _ | exact zI ?_ ?_ | intro _)))) (Imp.refl _) (List.Sublist.refl _) ⟨y83, rfl, rfl⟩
  have h1n : i = A.l.length := by have := of_dec' h1; omega
  subst h1n
  have hat : rAt A q key = -1 := pidx_none ik
  have e1 : rtoldE A q key seq code = 3 := by rw [rtoldE, hat]; rfl
  have e2 : rtoldS A q key seq code = A := by rw [rtoldS, if_pos (.inl (by rw [hat]; decide))]
  ((repeat refine S.seq ?_); refine S.region (L.go (T := tt) tt_ok rfl rfl ?sd37 ?_); (try (case sd37 => (repeat' ((first | first | exact trivial | exact zA | with_reducible refine zI ?_ ?_ | exact zB | exact zC | exact zD | exact zE | rfl | exact zN rfl | omega | assumption | (simp; done) | (simp [splice]; done) | (simp; omega) | (unfold fits; omega) | (unfold fits; simp_all; omega) | (simp_all; omega) | (simp_all; done) | intro _ | exact zI ?_ ?_ | intro _))))); try (refine L.nil ?_))
  ((repeat refine S.seq ?_); refine S.ret ?_)
  rw [e1, e2]
  exact E.ret (T := tt) tt_ok rfl rfl (by (repeat' ((first | first | exact trivial | exact zA | with_reducible refine zI ?_ ?_ | exact zB | exact zC | exact zD | exact zE | rfl | exact zN rfl | omega | assumption | (simp; done) | (simp [splice]; done) | (simp; omega) | (unfold fits; omega) | (unfold fits; simp_all; omega) | (simp_all; omega) | (simp_all; done) | intro _ | exact zI ?_ ?_ | intro _)))) (F' := raR b xl xc A cs) (Imp.refl _) (by unfold raR; (repeat (first | exact List.nil_sublist _ | refine List.Sublist.cons_cons _ ?_ | refine List.Sublist.cons _ ?_))) ⟨xl, rfl, rfl⟩

end Go.Proofs.YtfdneepgpekmiaaDoor

/- The reference's author: publishing. -/
namespace Go.Proofs.YtfdneepgpekmiaaDoor
set_option linter.unusedVariables false
set_option linter.unusedSimpArgs false
set_option maxHeartbeats 8000000
open Go.RowKit
set_option maxRecDepth 4000

def cP (cs : List Mark) (q : Int) (key : ByteArray) (i : Nat) : Bool := (cs.getD i default).pub == q && (cs.getD i default).key == key
def cAt (cs : List Mark) (q : Int) (key : ByteArray) : Int := pidx (cP cs q key) cs.length
def cN (cs : List Mark) (q : Int) (key : ByteArray) : Int := if cAt cs q key < 0 then 0 else (cs.getD (cAt cs q key).toNat default).seq
def cAdd (cs : List Mark) (q : Int) (key : ByteArray) : List Mark := if cAt cs q key < 0 then cs ++ [⟨q, key, 0⟩] else cs
def cPos (cs : List Mark) (q : Int) (key : ByteArray) : Nat := if cAt cs q key < 0 then cs.length else (cAt cs q key).toNat
/-- The counts behind a batch. -/
def cPut (cs : List Mark) (q : Int) (key : ByteArray) (many : Int) : List Mark := (cAdd cs q key).set (cPos cs q key) ⟨q, key, cN cs q key + many⟩
theorem cAt_lt (cs : List Mark) (q : Int) (key : ByteArray) : -1 ≤ cAt cs q key ∧ cAt cs q key < cs.length ∧ (0 ≤ cAt cs q key → cP cs q key (cAt cs q key).toNat = true ∧ ∀ j, j < (cAt cs q key).toNat → cP cs q key j = false) ∧ (cAt cs q key < 0 → ∀ j, j < cs.length → cP cs q key j = false) := by
  unfold cAt
  rcases pidx_cases (cP cs q key) cs.length with ⟨h, hn⟩ | ⟨k, hk, h1, h2, h⟩
  · rw [h]
    exact ⟨by omega, by omega, fun h => by omega, fun _ => hn⟩
  · rw [h]
    exact ⟨by omega, by omega, fun _ => ⟨h1, h2⟩, fun h => by omega⟩
theorem cPos_lt (cs : List Mark) (q : Int) (key : ByteArray) : cPos cs q key < (cAdd cs q key).length := by
  obtain ⟨h1, h2, -⟩ := cAt_lt cs q key
  unfold cPos cAdd
  split
  · simp
  · omega
theorem cPos_at (cs : List Mark) (q : Int) (key : ByteArray) : (cAdd cs q key).getD (cPos cs q key) default = ⟨q, key, cN cs q key⟩ := by
  obtain ⟨h1, h2, h3, h4⟩ := cAt_lt cs q key
  unfold cPos cAdd cN
  by_cases h : cAt cs q key < 0
  · rw [if_pos h, if_pos h, if_pos h]
    rw [List.getD_eq_getElem?_getD, List.getElem?_append_right (Nat.le_refl _), Nat.sub_self]
    rfl
  · rw [if_neg h, if_neg h, if_neg h]
    obtain ⟨h5, -⟩ := h3 (by omega)
    unfold cP at h5
    rw [Bool.and_eq_true, beq_iff_eq, beq_iff_eq] at h5
    obtain ⟨a, b⟩ := h5
    generalize cs.getD (cAt cs q key).toNat default = m at a b
    cases m
    simp only at a b
    subst a; subst b
    rfl

/-- What the reference asks of a batch. -/
def rArg (A : AuD) (q : Int) (key body : ByteArray) (many : Int) : Bool := argA q many || !mayMsg ⟨A.pub, 1, key, bodyA body many 0, false⟩
def rpubE (A : AuD) (q : Int) (key body : ByteArray) (many : Int) : Int := if rArg A q key body many then 1 else if (A.l.length : Int) ≥ 16 then 4 else 0
def rmsgs (A : AuD) (cs : List Mark) (q : Int) (key body : ByteArray) (many : Int) (k : Nat) : List Msg := (List.range k).map fun i : Nat => ⟨A.pub, cN cs q key + 1 + i, key, bodyA body many i, false⟩
theorem rmsgs_succ (A : AuD) (cs : List Mark) (q : Int) (key body : ByteArray) (many : Int) (k : Nat) : rmsgs A cs q key body many (k + 1) = rmsgs A cs q key body many k ++ [⟨A.pub, cN cs q key + 1 + k, key, bodyA body many k, false⟩] := by
  simp [rmsgs, List.range_succ]
theorem rmsgs_len (A : AuD) (cs : List Mark) (q : Int) (key body : ByteArray) (many : Int) (k : Nat) : (rmsgs A cs q key body many k).length = k := by simp [rmsgs]

theorem rpublish_p (b : Nat) (xl xc : Value) (A : AuD) (cs : List Mark) (q : Int) (key body : ByteArray) (many : Int) (ok : AuOk A) (hb : body.size ≤ 1000) (hc : cs.length ≤ 1000) (hn : 0 ≤ cN cs q key ∧ cN cs q key ≤ 100000) : FnC Tryd.prog 19 [.ptr 50 b 0, .v (.int .i64 q), .v (.string key), .v (.string body), .v (.int .i64 many)] (raR b xl xc A cs)
    (fun r F' => (rpubE A q key body many ≠ 0 ∧ r = .tup [.v (.int .i64 0), .v (.int .i64 (rpubE A q key body many))] ∧ F' = raR b xl xc A cs) ∨
      (rpubE A q key body many = 0 ∧ ∃ xl' xc', r = .tup [.v (.int .i64 (cN cs q key + 1)), .v (.int .i64 0)] ∧ F' = raR b xl' xc' { A with l := A.l ++ [⟨q, rmsgs A cs q key body many many.toNat⟩] } (cPut cs q key many))) := by
  have hlen := ok.len
  obtain ⟨hc1, hc2, hc3, hc4⟩ := cAt_lt cs q key
  unfold raR
  refine FnC.intro Tryd.func19 rfl Tryd.ntmps19 rfl ?_; intro off w0
  ((repeat refine S.seq ?_); refine S.region (L.go (T := tt) tt_ok rfl rfl ?sd1 ?_); (try (case sd1 => (repeat' ((first | first | exact trivial | exact zA | with_reducible refine zI ?_ ?_ | exact zB | exact zC | exact zD | exact zE | rfl | exact zN rfl | omega | assumption | (simp; done) | (simp [splice]; done) | (simp; omega) | (unfold fits; omega) | (unfold fits; simp_all; omega) | (simp_all; omega) | (simp_all; done) | intro _ | exact zI ?_ ?_ | intro _))))); try (refine L.nil ?_))
  repeat refine S.seq ?_
  refine S.draw [(18, [50])] mixed ?_
  (refine H.ts (T := tt) [0, 1, 2, 3, 4, 5, 6, 7, 8, 9, 10, 11, 12, 13, 14, 15, 16, 17, 18, 19, 20, 21] tt_ok (by kernel_rfl) (by kernel_rfl) (by kernel_rfl) (by intro ch a a' w h; obtain ⟨_, _, _, _, _, h, _⟩ := h; cases h) rfl ?sd19 ?_; (try (case sd19 => (repeat' ((first | first | exact trivial | exact zA | with_reducible refine zI ?_ ?_ | exact zB | exact zC | exact zD | exact zE | rfl | exact zN rfl | omega | assumption | (simp; done) | (simp [splice]; done) | (simp; omega) | (unfold fits; omega) | (unfold fits; simp_all; omega) | (simp_all; omega) | (simp_all; done) | intro _ | exact zI ?_ ?_ | intro _))))))
  refine H.callG 22 rfl (by kernel_rfl) (by kernel_rfl) rfl rfl rfl rfl rfl rfl rfl (fun _ => ⟨trivial, by (repeat' ((first | first | exact trivial | exact zA | with_reducible refine zI ?_ ?_ | exact zB | exact zC | exact zD | exact zE | rfl | exact zN rfl | omega | assumption | (simp; done) | (simp [splice]; done) | (simp; omega) | (unfold fits; omega) | (unfold fits; simp_all; omega) | (simp_all; omega) | (simp_all; done) | intro _ | exact zI ?_ ?_ | intro _)))⟩) rfl (by exact Imps.refl _) (fun _ => (rbody_p body many 0 hb (by decide) (by decide))) ?_
  refine H.rebase ?_
  (refine H.ts (T := tt) [23] tt_ok (by kernel_rfl) (by kernel_rfl) (by kernel_rfl) (by intro ch a a' w h; obtain ⟨_, _, _, _, _, h, _⟩ := h; cases h) rfl ?sd20 ?_; (try (case sd20 => (repeat' ((first | first | exact trivial | exact zA | with_reducible refine zI ?_ ?_ | exact zB | exact zC | exact zD | exact zE | rfl | exact zN rfl | omega | assumption | (simp; done) | (simp [splice]; done) | (simp; omega) | (unfold fits; omega) | (unfold fits; simp_all; omega) | (simp_all; omega) | (simp_all; done) | intro _ | exact zI ?_ ?_ | intro _))))))
  refine H.callG 24 rfl (by kernel_rfl) (by kernel_rfl) rfl rfl rfl rfl rfl rfl rfl (fun _ => ⟨trivial, by (repeat' ((first | first | exact trivial | exact zA | with_reducible refine zI ?_ ?_ | exact zB | exact zC | exact zD | exact zE | rfl | exact zN rfl | omega | assumption | (simp; done) | (simp [splice]; done) | (simp; omega) | (unfold fits; omega) | (unfold fits; simp_all; omega) | (simp_all; omega) | (simp_all; done) | intro _ | exact zI ?_ ?_ | intro _)))⟩) rfl (by exact Imps.refl _) (fun _ => (rmayMsg_p ⟨A.pub, 1, key, bodyA body many 0, false⟩)) ?_
  refine H.rebase ?_
  (refine H.ts (T := tt) [25, 26] tt_ok (by kernel_rfl) (by kernel_rfl) (by kernel_rfl) (by intro ch a a' w h; obtain ⟨_, _, _, _, _, h, _⟩ := h; cases h) rfl ?sd21 ?_; (try (case sd21 => (repeat' ((first | first | exact trivial | exact zA | with_reducible refine zI ?_ ?_ | exact zB | exact zC | exact zD | exact zE | rfl | exact zN rfl | omega | assumption | (simp; done) | (simp [splice]; done) | (simp; omega) | (unfold fits; omega) | (unfold fits; simp_all; omega) | (simp_all; omega) | (simp_all; done) | intro _ | exact zI ?_ ?_ | intro _))))))
  refine H.done (by kernel_rfl) ?_
  ((repeat refine S.seq ?_); refine S.cond rfl (fun h1 => ?_) (fun h1 => ?_) <;> (try first | refine S.skip ?_ | refine S.exit ?_))
  · have hA : rArg A q key body many = true := h1
    have e : rpubE A q key body many = 1 := by rw [rpubE, if_pos hA]
    ((repeat refine S.seq ?_); refine S.region (L.go (T := tt) tt_ok rfl rfl ?sd2 ?_); (try (case sd2 => (repeat' ((first | first | exact trivial | exact zA | with_reducible refine zI ?_ ?_ | exact zB | exact zC | exact zD | exact zE | rfl | exact zN rfl | omega | assumption | (simp; done) | (simp [splice]; done) | (simp; omega) | (unfold fits; omega) | (unfold fits; simp_all; omega) | (simp_all; omega) | (simp_all; done) | intro _ | exact zI ?_ ?_ | intro _))))); try (refine L.nil ?_))
    ((repeat refine S.seq ?_); refine S.ret ?_)
    rw [e]
    exact E.ret (T := tt) tt_ok rfl rfl (by (repeat' ((first | first | exact trivial | exact zA | with_reducible refine zI ?_ ?_ | exact zB | exact zC | exact zD | exact zE | rfl | exact zN rfl | omega | assumption | (simp; done) | (simp [splice]; done) | (simp; omega) | (unfold fits; omega) | (unfold fits; simp_all; omega) | (simp_all; omega) | (simp_all; done) | intro _ | exact zI ?_ ?_ | intro _)))) (F' := raR b xl xc A cs) (Imp.refl _) (by unfold raR; (repeat (first | exact List.nil_sublist _ | refine List.Sublist.cons_cons _ ?_ | refine List.Sublist.cons _ ?_))) (.inl ⟨by decide, rfl, rfl⟩)
  have hA : rArg A q key body many = false := h1
  have hr : 0 ≤ q ∧ q < 4 ∧ 1 ≤ many ∧ many ≤ 8 := by
    unfold rArg argA at hA
    simp only [Bool.or_eq_false_iff, decide_eq_false_iff_not] at hA
    omega
  ((repeat refine S.seq ?_); refine S.region (L.go (T := tt) tt_ok rfl rfl ?sd3 ?_); (try (case sd3 => (repeat' ((first | first | exact trivial | exact zA | with_reducible refine zI ?_ ?_ | exact zB | exact zC | exact zD | exact zE | rfl | exact zN rfl | omega | assumption | (simp; done) | (simp [splice]; done) | (simp; omega) | (unfold fits; omega) | (unfold fits; simp_all; omega) | (simp_all; omega) | (simp_all; done) | intro _ | exact zI ?_ ?_ | intro _))))); try (refine L.nil ?_))
  ((repeat refine S.seq ?_); refine S.cond rfl (fun h2 => ?_) (fun h2 => ?_) <;> (try first | refine S.skip ?_ | refine S.exit ?_))
  · have e : rpubE A q key body many = 4 := by rw [rpubE, hA, if_neg (by decide), if_pos (of_dec h2)]
    ((repeat refine S.seq ?_); refine S.region (L.go (T := tt) tt_ok rfl rfl ?sd4 ?_); (try (case sd4 => (repeat' ((first | first | exact trivial | exact zA | with_reducible refine zI ?_ ?_ | exact zB | exact zC | exact zD | exact zE | rfl | exact zN rfl | omega | assumption | (simp; done) | (simp [splice]; done) | (simp; omega) | (unfold fits; omega) | (unfold fits; simp_all; omega) | (simp_all; omega) | (simp_all; done) | intro _ | exact zI ?_ ?_ | intro _))))); try (refine L.nil ?_))
    ((repeat refine S.seq ?_); refine S.ret ?_)
    rw [e]
    exact E.ret (T := tt) tt_ok rfl rfl (by (repeat' ((first | first | exact trivial | exact zA | with_reducible refine zI ?_ ?_ | exact zB | exact zC | exact zD | exact zE | rfl | exact zN rfl | omega | assumption | (simp; done) | (simp [splice]; done) | (simp; omega) | (unfold fits; omega) | (unfold fits; simp_all; omega) | (simp_all; omega) | (simp_all; done) | intro _ | exact zI ?_ ?_ | intro _)))) (F' := raR b xl xc A cs) (Imp.refl _) (by unfold raR; (repeat (first | exact List.nil_sublist _ | refine List.Sublist.cons_cons _ ?_ | refine List.Sublist.cons _ ?_))) (.inl ⟨by decide, rfl, rfl⟩)
  have e : rpubE A q key body many = 0 := by rw [rpubE, hA, if_neg (by decide), if_neg (of_dec' h2)]
  rw [e]
  ((repeat refine S.seq ?_); refine S.region (L.go (T := tt) tt_ok rfl rfl ?sd5 ?_); (try (case sd5 => (repeat' ((first | first | exact trivial | exact zA | with_reducible refine zI ?_ ?_ | exact zB | exact zC | exact zD | exact zE | rfl | exact zN rfl | omega | assumption | (simp; done) | (simp [splice]; done) | (simp; omega) | (unfold fits; omega) | (unfold fits; simp_all; omega) | (simp_all; omega) | (simp_all; done) | intro _ | exact zI ?_ ?_ | intro _))))); try (refine L.nil ?_))
  repeat refine S.seq ?_
  refine S.cut (ι := Unit) (fun _ => [(0, .ptr 50 b 0), (1, .v (.int .i64 q)), (2, .v (.string key)), (3, .v (.string body)), (4, .v (.int .i64 many)), (12, .v (.int .i64 (cPos cs q key)))]) (fun _ => raR b xl xc A cs) ?_ ?_
  · repeat refine S.seq ?_
    refine S.block (S.loop (ι := { k : Nat // k ≤ cs.length ∧ ∀ j, j < k → cP cs q key j = false }) (fun k => [(0, .ptr 50 b 0), (1, .v (.int .i64 q)), (2, .v (.string key)), (3, .v (.string body)), (4, .v (.int .i64 many)), (12, .v (.int .i64 k.1))])
      (fun _ => raR b xl xc A cs) (fun k => cs.length - k.1) ?_ ?_)
    · exact fun a w h => ⟨⟨0, Nat.zero_le _, fun j hj => absurd hj (by omega)⟩, h.weakP (by (repeat' (first | exact True.intro | exact Imp.refl _ | refine ⟨?_, ?_⟩))) (by first | (unfold raR; (repeat (first | exact Sub.refl _ | refine Sub.pick (by first | exact p0 | exact pS p0 | exact pS (pS p0) | exact pS (pS (pS p0)) | exact pS (pS (pS (pS p0))) | exact pS (pS (pS (pS (pS p0))))) ?_))) | (repeat (first | exact Sub.refl _ | refine Sub.pick (by first | exact p0 | exact pS p0 | exact pS (pS p0) | exact pS (pS (pS p0)) | exact pS (pS (pS (pS p0))) | exact pS (pS (pS (pS (pS p0))))) ?_)))⟩
    rintro ⟨k, hk, ik⟩
    dsimp only
    unfold raR
    ((repeat refine S.seq ?_); refine S.region (L.go (T := tt) tt_ok rfl rfl ?sd6 ?_); (try (case sd6 => (repeat' ((first | first | exact trivial | exact zA | with_reducible refine zI ?_ ?_ | exact zB | exact zC | exact zD | exact zE | rfl | exact zN rfl | omega | assumption | (simp; done) | (simp [splice]; done) | (simp; omega) | (unfold fits; omega) | (unfold fits; simp_all; omega) | (simp_all; omega) | (simp_all; done) | intro _ | exact zI ?_ ?_ | intro _))))); try (refine L.nil ?_))
    obtain ⟨bb, hbb⟩ : ∃ bb : Bool, bb = (decide (k < cs.length) && !cP cs q key k) := ⟨_, rfl⟩
    refine slotAs 79 (.v (.bool bb)) rfl (Imp.of_eq ?_) ?_
    · have e1 : (!cP cs q key k) = (((cs.getD k default).pub != q) || ((cs.getD k default).key != key)) := by
        unfold cP
        rw [Bool.not_and]
        rfl
      rw [hbb, e1, show decide (k < cs.length) = decide ((k : Int) < (cs.length : Int)) by simp]
      rfl
    ((repeat refine S.seq ?_); refine S.cond rfl (fun h3 => ?_) (fun h3 => ?_) <;> (try first | refine S.skip ?_ | refine S.exit ?_))
    · have h3n : k < cs.length ∧ cP cs q key k = false := by rw [h3] at hbb; simpa using hbb.symm
      repeat refine S.seq ?_
      refine S.block ?_
      ((repeat refine S.seq ?_); refine S.region (L.go (T := tt) tt_ok rfl rfl ?sd7 ?_); (try (case sd7 => (repeat' ((first | first | exact trivial | exact zA | with_reducible refine zI ?_ ?_ | exact zB | exact zC | exact zD | exact zE | rfl | exact zN rfl | omega | assumption | (simp; done) | (simp [splice]; done) | (simp; omega) | (unfold fits; omega) | (unfold fits; simp_all; omega) | (simp_all; omega) | (simp_all; done) | intro _ | exact zI ?_ ?_ | intro _))))); try (refine L.nil ?_))
      exact fun a w h => ⟨⟨k + 1, by omega, upto_succ ik h3n.2⟩, by show cs.length - (k + 1) < cs.length - k; omega, h.weakP (by (repeat' (first | exact True.intro | exact Imp.refl _ | refine ⟨?_, ?_⟩))) (by first | (unfold raR; (repeat (first | exact Sub.refl _ | refine Sub.pick (by first | exact p0 | exact pS p0 | exact pS (pS p0) | exact pS (pS (pS p0)) | exact pS (pS (pS (pS p0))) | exact pS (pS (pS (pS (pS p0))))) ?_))) | (repeat (first | exact Sub.refl _ | refine Sub.pick (by first | exact p0 | exact pS p0 | exact pS (pS p0) | exact pS (pS (pS p0)) | exact pS (pS (pS (pS p0))) | exact pS (pS (pS (pS (pS p0))))) ?_)))⟩
    have hpos : cPos cs q key = k := by
      unfold cPos
      by_cases hkl : k < cs.length
      · have hy : cP cs q key k = true := by
          rw [h3, decide_eq_true hkl, Bool.true_and] at hbb
          simpa using hbb.symm
        have : cAt cs q key = k := pidx_some hkl hy ik
        rw [this, if_neg (by omega), Int.toNat_natCast]
      · have hkn : k = cs.length := by omega
        subst hkn
        have : cAt cs q key = -1 := pidx_none ik
        rw [this, if_pos (by decide)]
    rw [hpos]
    exact fun a w h => ⟨(), h.weakP (by (repeat' (first | exact True.intro | exact Imp.refl _ | refine ⟨?_, ?_⟩))) (by first | (unfold raR; (repeat (first | exact Sub.refl _ | refine Sub.pick (by first | exact p0 | exact pS p0 | exact pS (pS p0) | exact pS (pS (pS p0)) | exact pS (pS (pS (pS p0))) | exact pS (pS (pS (pS (pS p0))))) ?_))) | (repeat (first | exact Sub.refl _ | refine Sub.pick (by first | exact p0 | exact pS p0 | exact pS (pS p0) | exact pS (pS (pS p0)) | exact pS (pS (pS (pS p0))) | exact pS (pS (pS (pS (pS p0))))) ?_)))⟩
  rintro ⟨⟩
  try dsimp only
  unfold raR
  have hposl := cPos_lt cs q key
  have hposa := cPos_at cs q key
  have hal : (cAdd cs q key).length ≤ cs.length + 1 := by unfold cAdd; split <;> simp
  ((repeat refine S.seq ?_); refine S.region (L.go (T := tt) tt_ok rfl rfl ?sd8 ?_); (try (case sd8 => (repeat' ((first | first | exact trivial | exact zA | with_reducible refine zI ?_ ?_ | exact zB | exact zC | exact zD | exact zE | rfl | exact zN rfl | omega | assumption | (simp; done) | (simp [splice]; done) | (simp; omega) | (unfold fits; omega) | (unfold fits; simp_all; omega) | (simp_all; omega) | (simp_all; done) | intro _ | exact zI ?_ ?_ | intro _))))); try (refine L.nil ?_))
  refine S.cut (ι := Value) (fun _ => [(0, .ptr 50 b 0), (1, .v (.int .i64 q)), (2, .v (.string key)), (3, .v (.string body)), (4, .v (.int .i64 many)), (12, .v (.int .i64 (cPos cs q key)))]) (fun y => raR b xl y A (cAdd cs q key)) ?_ ?_
  · ((repeat refine S.seq ?_); refine S.cond rfl (fun h4 => ?_) (fun h4 => ?_) <;> (try first | refine S.skip ?_ | refine S.exit ?_))
    · have h4n : cAt cs q key < 0 := by
        have h5 : (cPos cs q key : Int) = (cs.length : Int) := by simpa using h4
        unfold cPos at h5
        split at h5
        · assumption
        · omega
      have ea : cAdd cs q key = cs ++ [⟨q, key, 0⟩] := by rw [cAdd, if_pos h4n]
      ((repeat refine S.seq ?_); refine S.region (L.go (T := tt) tt_ok rfl rfl ?sd9 ?_); (try (case sd9 => (repeat' ((first | first | exact trivial | exact zA | with_reducible refine zI ?_ ?_ | exact zB | exact zC | exact zD | exact zE | rfl | exact zN rfl | omega | assumption | (simp; done) | (simp [splice]; done) | (simp; omega) | (unfold fits; omega) | (unfold fits; simp_all; omega) | (simp_all; omega) | (simp_all; done) | intro _ | exact zI ?_ ?_ | intro _))))); try (refine L.nil ?_))
      refine L.buildSlice (T := tt) 57 tt_ok rfl rfl rfl rfl rfl rfl (by decide) (by decide) rfl rfl (by (repeat' ((first | first | exact trivial | exact zA | with_reducible refine zI ?_ ?_ | exact zB | exact zC | exact zD | exact zE | rfl | exact zN rfl | omega | assumption | (simp; done) | (simp [splice]; done) | (simp; omega) | (unfold fits; omega) | (unfold fits; simp_all; omega) | (simp_all; omega) | (simp_all; done) | intro _ | exact zI ?_ ?_ | intro _)))) fun x97 => ?_
      refine L.append (T := tt) tt_ok rfl rfl rfl rfl rfl rfl rfl rfl rfl rfl (by (repeat' ((first | first | exact trivial | exact zA | with_reducible refine zI ?_ ?_ | exact zB | exact zC | exact zD | exact zE | rfl | exact zN rfl | omega | assumption | (simp; done) | (simp [splice]; done) | (simp; omega) | (unfold fits; omega) | (unfold fits; simp_all; omega) | (simp_all; omega) | (simp_all; done) | intro _ | exact zI ?_ ?_ | intro _)))) ⟨rfl, by decide, by decide⟩ (by simp; omega) fun y98 => ?_
      (refine L.go (T := tt) tt_ok rfl rfl ?sd15 ?_; (try (case sd15 => (repeat' ((first | first | exact trivial | exact zA | with_reducible refine zI ?_ ?_ | exact zB | exact zC | exact zD | exact zE | rfl | exact zN rfl | omega | assumption | (simp; done) | (simp [splice]; done) | (simp; omega) | (unfold fits; omega) | (unfold fits; simp_all; omega) | (simp_all; omega) | (simp_all; done) | intro _ | exact zI ?_ ?_ | intro _))))); try (refine L.nil ?_))
      (refine L.store (T := tt) tt_ok rfl rfl rfl rfl rfl rfl ?sd17 ?_; (try (case sd17 => (repeat' ((first | first | exact trivial | exact zA | with_reducible refine zI ?_ ?_ | exact zB | exact zC | exact zD | exact zE | rfl | exact zN rfl | omega | assumption | (simp; done) | (simp [splice]; done) | (simp; omega) | (unfold fits; omega) | (unfold fits; simp_all; omega) | (simp_all; omega) | (simp_all; done) | intro _ | exact zI ?_ ?_ | intro _))))))
      refine L.nil ?_
      refine ownAs 52 (gOf Mark.cells (cAdd cs q key)) rfl (show cs.length + 1 = (cAdd cs q key).length by rw [ea]; simp) (fun i hi => ?_) ?_
      · rw [ea]
        exact app1_h Mark.cells cs _ _ rfl rfl hi
      exact fun a w h => ⟨y98, h.weakP (by (repeat' (first | exact True.intro | exact Imp.refl _ | refine ⟨?_, ?_⟩))) (by first | (unfold raR; (repeat (first | exact Sub.refl _ | refine Sub.pick (by first | exact p0 | exact pS p0 | exact pS (pS p0) | exact pS (pS (pS p0)) | exact pS (pS (pS (pS p0))) | exact pS (pS (pS (pS (pS p0))))) ?_))) | (repeat (first | exact Sub.refl _ | refine Sub.pick (by first | exact p0 | exact pS p0 | exact pS (pS p0) | exact pS (pS (pS p0)) | exact pS (pS (pS (pS p0))) | exact pS (pS (pS (pS (pS p0))))) ?_)))⟩
    · have h4n : ¬ cAt cs q key < 0 := by
        intro h5
        have : cPos cs q key = cs.length := by rw [cPos, if_pos h5]
        rw [this] at h4
        simp at h4
      have ea : cAdd cs q key = cs := by rw [cAdd, if_neg h4n]
      rw [ea]
      exact fun a w h => ⟨xc, h.weakP (by (repeat' (first | exact True.intro | exact Imp.refl _ | refine ⟨?_, ?_⟩))) (by first | (unfold raR; (repeat (first | exact Sub.refl _ | refine Sub.pick (by first | exact p0 | exact pS p0 | exact pS (pS p0) | exact pS (pS (pS p0)) | exact pS (pS (pS (pS p0))) | exact pS (pS (pS (pS (pS p0))))) ?_))) | (repeat (first | exact Sub.refl _ | refine Sub.pick (by first | exact p0 | exact pS p0 | exact pS (pS p0) | exact pS (pS (pS p0)) | exact pS (pS (pS (pS p0))) | exact pS (pS (pS (pS (pS p0))))) ?_)))⟩
  intro xc1
  try dsimp only
  unfold raR
  obtain ⟨s0, hs0⟩ : ∃ s0, s0 = cN cs q key := ⟨_, rfl⟩
  rw [← hs0] at hn hposa ⊢
  have hv : ((cAdd cs q key).getD (cPos cs q key) default).seq = s0 := by rw [hposa]
  ((repeat refine S.seq ?_); refine S.region (L.go (T := tt) tt_ok rfl rfl ?sd10 ?_); (try (case sd10 => (repeat' ((first | first | exact trivial | exact zA | with_reducible refine zI ?_ ?_ | exact zB | exact zC | exact zD | exact zE | rfl | exact zN rfl | omega | assumption | (simp; done) | (simp [splice]; done) | (simp; omega) | (unfold fits; omega) | (unfold fits; simp_all; omega) | (simp_all; omega) | (simp_all; done) | intro _ | exact zI ?_ ?_ | intro _))))); try (refine L.nil ?_))
  refine slotAs 13 (.v (.int .i64 (s0 + 1))) rfl (Imp.of_eq (by rw [← hv]; rfl)) ?_
  repeat refine S.seq ?_
  refine S.region ?_
  (refine L.go (T := tt) tt_ok rfl rfl ?sd16 ?_; (try (case sd16 => (repeat' ((first | first | exact trivial | exact zA | with_reducible refine zI ?_ ?_ | exact zB | exact zC | exact zD | exact zE | rfl | exact zN rfl | omega | assumption | (simp; done) | (simp [splice]; done) | (simp; omega) | (unfold fits; omega) | (unfold fits; simp_all; omega) | (simp_all; omega) | (simp_all; done) | intro _ | exact zI ?_ ?_ | intro _))))); try (refine L.nil ?_))
  refine L.alloc (T := tt) 55 tt_ok rfl rfl rfl rfl rfl fun b14 => ?_
  (refine L.store (T := tt) tt_ok rfl rfl rfl rfl rfl rfl ?sd18 ?_; (try (case sd18 => (repeat' ((first | first | exact trivial | exact zA | with_reducible refine zI ?_ ?_ | exact zB | exact zC | exact zD | exact zE | rfl | exact zN rfl | omega | assumption | (simp; done) | (simp [splice]; done) | (simp; omega) | (unfold fits; omega) | (unfold fits; simp_all; omega) | (simp_all; omega) | (simp_all; done) | intro _ | exact zI ?_ ?_ | intro _))))))
  refine L.nil ?_
  ((repeat refine S.seq ?_); refine S.region (L.go (T := tt) tt_ok rfl rfl ?sd11 ?_); (try (case sd11 => (repeat' ((first | first | exact trivial | exact zA | with_reducible refine zI ?_ ?_ | exact zB | exact zC | exact zD | exact zE | rfl | exact zN rfl | omega | assumption | (simp; done) | (simp [splice]; done) | (simp; omega) | (unfold fits; omega) | (unfold fits; simp_all; omega) | (simp_all; omega) | (simp_all; done) | intro _ | exact zI ?_ ?_ | intro _))))); try (refine L.nil ?_))
  refine nilRow 54 42 5 (gOf Msg.cells (rmsgs A cs q key body many 0)) ?_
  refine blkAs 55 [.v (.int .i64 q), .ref 54 (.slice none 0 0)] rfl ⟨Imp.refl _, Imp.vref rfl, trivial⟩ ?_
  repeat refine S.seq ?_
  refine S.block (S.loop (ι := { k : Nat × Value // k.1 ≤ many.toNat }) (fun k => [(0, .ptr 50 b 0), (2, .v (.string key)), (3, .v (.string body)), (4, .v (.int .i64 many)), (12, .v (.int .i64 (cPos cs q key))), (13, .v (.int .i64 (s0 + 1))), (14, .ptr 55 b14 0), (15, .v (.int .i64 k.1.1))])
    (fun k => (55, .blk b14 39 [.v (.int .i64 q), .ref 54 k.1.2]) :: (54, .own k.1.2 42 5 (rmsgs A cs q key body many k.1.1).length (gOf Msg.cells (rmsgs A cs q key body many k.1.1))) :: raR b xl xc1 A (cAdd cs q key)) (fun k => many.toNat - k.1.1) ?_ ?_)
  · exact fun a w h => ⟨⟨(0, .slice none 0 0), Nat.zero_le _⟩, h.weakP (by (repeat' (first | exact True.intro | exact Imp.refl _ | refine ⟨?_, ?_⟩))) (by first | (unfold raR; (repeat (first | exact Sub.refl _ | refine Sub.pick (by first | exact p0 | exact pS p0 | exact pS (pS p0) | exact pS (pS (pS p0)) | exact pS (pS (pS (pS p0))) | exact pS (pS (pS (pS (pS p0))))) ?_))) | (repeat (first | exact Sub.refl _ | refine Sub.pick (by first | exact p0 | exact pS p0 | exact pS (pS p0) | exact pS (pS (pS p0)) | exact pS (pS (pS (pS p0))) | exact pS (pS (pS (pS (pS p0))))) ?_)))⟩
  rintro ⟨⟨k, y⟩, hk⟩
  dsimp only at hk ⊢
  have hml := rmsgs_len A cs q key body many k
  unfold raR
  ((repeat refine S.seq ?_); refine S.region (L.go (T := tt) tt_ok rfl rfl ?sd12 ?_); (try (case sd12 => (repeat' ((first | first | exact trivial | exact zA | with_reducible refine zI ?_ ?_ | exact zB | exact zC | exact zD | exact zE | rfl | exact zN rfl | omega | assumption | (simp; done) | (simp [splice]; done) | (simp; omega) | (unfold fits; omega) | (unfold fits; simp_all; omega) | (simp_all; omega) | (simp_all; done) | intro _ | exact zI ?_ ?_ | intro _))))); try (refine L.nil ?_))
  ((repeat refine S.seq ?_); refine S.cond rfl (fun h5 => ?_) (fun h5 => ?_) <;> (try first | refine S.skip ?_ | refine S.exit ?_))
  · have h5n : k < many.toNat := by have := of_dec h5; omega
    have hks := rmsgs_succ A cs q key body many k
    rw [← hs0] at hks
    repeat refine S.seq ?_
    refine S.block ?_
    repeat refine S.seq ?_
    refine S.draw [(1, [55]), (5, [50])] mixed ?_
    (refine H.ts (T := tt) [0, 1, 2, 3, 4, 5, 6, 7, 8, 9, 10, 11, 12] tt_ok (by kernel_rfl) (by kernel_rfl) (by kernel_rfl) (by intro ch a a' w h; obtain ⟨_, _, _, _, _, h, _⟩ := h; cases h) rfl ?sd22 ?_; (try (case sd22 => (repeat' ((first | first | exact trivial | exact zA | with_reducible refine zI ?_ ?_ | exact zB | exact zC | exact zD | exact zE | rfl | exact zN rfl | omega | assumption | (simp; done) | (simp [splice]; done) | (simp; omega) | (unfold fits; omega) | (unfold fits; simp_all; omega) | (simp_all; omega) | (simp_all; done) | intro _ | exact zI ?_ ?_ | intro _))))))
    refine H.callP 13 rfl (by kernel_rfl) (by kernel_rfl) rfl rfl rfl rfl rfl rfl rfl ⟨trivial, by (repeat' ((first | first | exact trivial | exact zA | with_reducible refine zI ?_ ?_ | exact zB | exact zC | exact zD | exact zE | rfl | exact zN rfl | omega | assumption | (simp; done) | (simp [splice]; done) | (simp; omega) | (unfold fits; omega) | (unfold fits; simp_all; omega) | (simp_all; omega) | (simp_all; done) | intro _ | exact zI ?_ ?_ | intro _)))⟩ rfl (by exact Imps.refl _) ((rbody_p body many (k : Int) hb (by omega) (by omega))) ?_
    refine H.rebase ?_
    (refine H.ts (T := tt) [14] tt_ok (by kernel_rfl) (by kernel_rfl) (by kernel_rfl) (by intro ch a a' w h; obtain ⟨_, _, _, _, _, h, _⟩ := h; cases h) rfl ?sd23 ?_; (try (case sd23 => (repeat' ((first | first | exact trivial | exact zA | with_reducible refine zI ?_ ?_ | exact zB | exact zC | exact zD | exact zE | rfl | exact zN rfl | omega | assumption | (simp; done) | (simp [splice]; done) | (simp; omega) | (unfold fits; omega) | (unfold fits; simp_all; omega) | (simp_all; omega) | (simp_all; done) | intro _ | exact zI ?_ ?_ | intro _))))))
    refine H.o1 15 rfl (by kernel_rfl) (by kernel_rfl) (O.buildSlice (T := tt) 57 tt_ok rfl rfl rfl rfl rfl rfl (by decide) (by decide) rfl rfl (by (repeat' ((first | first | exact trivial | exact zA | with_reducible refine zI ?_ ?_ | exact zB | exact zC | exact zD | exact zE | rfl | exact zN rfl | omega | assumption | (simp; done) | (simp [splice]; done) | (simp; omega) | (unfold fits; omega) | (unfold fits; simp_all; omega) | (simp_all; omega) | (simp_all; done) | intro _ | exact zI ?_ ?_ | intro _))))) (.inr rfl) rfl fun x132 => ?_
    refine H.o1 16 rfl (by kernel_rfl) (by kernel_rfl) (O.append (T := tt) tt_ok rfl rfl rfl rfl rfl rfl rfl rfl rfl rfl (by (repeat' ((first | first | exact trivial | exact zA | with_reducible refine zI ?_ ?_ | exact zB | exact zC | exact zD | exact zE | rfl | exact zN rfl | omega | assumption | (simp; done) | (simp [splice]; done) | (simp; omega) | (unfold fits; omega) | (unfold fits; simp_all; omega) | (simp_all; omega) | (simp_all; done) | intro _ | exact zI ?_ ?_ | intro _)))) ⟨rfl, by decide, by decide⟩ (by simp; omega)) (.inl (by kernel_rfl)) (by kernel_rfl) fun y133 => ?_
    (refine H.ts (T := tt) [17] tt_ok (by kernel_rfl) (by kernel_rfl) (by kernel_rfl) (by intro ch a a' w h; obtain ⟨_, _, _, _, _, h, _⟩ := h; cases h) rfl ?sd24 ?_; (try (case sd24 => (repeat' ((first | first | exact trivial | exact zA | with_reducible refine zI ?_ ?_ | exact zB | exact zC | exact zD | exact zE | rfl | exact zN rfl | omega | assumption | (simp; done) | (simp [splice]; done) | (simp; omega) | (unfold fits; omega) | (unfold fits; simp_all; omega) | (simp_all; omega) | (simp_all; done) | intro _ | exact zI ?_ ?_ | intro _))))))
    (refine H.store (T := tt) 18 rfl (by kernel_rfl) (by kernel_rfl) tt_ok rfl rfl rfl rfl rfl rfl ?sd30 rfl (by kernel_rfl) ?_; (try (case sd30 => (repeat' ((first | first | exact trivial | exact zA | with_reducible refine zI ?_ ?_ | exact zB | exact zC | exact zD | exact zE | rfl | exact zN rfl | omega | assumption | (simp; done) | (simp [splice]; done) | (simp; omega) | (unfold fits; omega) | (unfold fits; simp_all; omega) | (simp_all; omega) | (simp_all; done) | intro _ | exact zI ?_ ?_ | intro _))))))
    refine H.done (by kernel_rfl) ?_
    refine ownAs 54 (gOf Msg.cells (rmsgs A cs q key body many (k + 1))) rfl (show (rmsgs A cs q key body many k).length + 1 = (rmsgs A cs q key body many (k + 1)).length by rw [hks]; simp) (fun i hi => ?_) ?_
    · rw [hks]
      exact app1_h Msg.cells (rmsgs A cs q key body many k) _ _ rfl rfl hi
    ((repeat refine S.seq ?_); refine S.region (L.go (T := tt) tt_ok rfl rfl ?sd13 ?_); (try (case sd13 => (repeat' ((first | first | exact trivial | exact zA | with_reducible refine zI ?_ ?_ | exact zB | exact zC | exact zD | exact zE | rfl | exact zN rfl | omega | assumption | (simp; done) | (simp [splice]; done) | (simp; omega) | (unfold fits; omega) | (unfold fits; simp_all; omega) | (simp_all; omega) | (simp_all; done) | intro _ | exact zI ?_ ?_ | intro _))))); try (refine L.nil ?_))
    exact fun a w h => ⟨⟨(k + 1, y133), by show k + 1 ≤ _; omega⟩, by show many.toNat - (k + 1) < many.toNat - k; omega, h.weakP (by (repeat' (first | exact True.intro | exact Imp.refl _ | refine ⟨?_, ?_⟩))) (by first | (unfold raR; (repeat (first | exact Sub.refl _ | refine Sub.pick (by first | exact p0 | exact pS p0 | exact pS (pS p0) | exact pS (pS (pS p0)) | exact pS (pS (pS (pS p0))) | exact pS (pS (pS (pS (pS p0))))) ?_))) | (repeat (first | exact Sub.refl _ | refine Sub.pick (by first | exact p0 | exact pS p0 | exact pS (pS p0) | exact pS (pS (pS p0)) | exact pS (pS (pS (pS p0))) | exact pS (pS (pS (pS (pS p0))))) ?_)))⟩
  have h5n : k = many.toNat := by have := of_dec' h5; omega
  subst h5n
  repeat refine S.seq ?_
  refine S.draw [(3, [50]), (8, [50]), (12, [52])] mixed ?_
  (refine H.ts (T := tt) [0, 1, 2, 3, 4, 5, 6, 7, 8, 9, 10, 11, 12, 13, 14, 15, 16] tt_ok (by kernel_rfl) (by kernel_rfl) (by kernel_rfl) (by intro ch a a' w h; obtain ⟨_, _, _, _, _, h, _⟩ := h; cases h) rfl ?sd25 ?_; (try (case sd25 => (repeat' ((first | first | exact trivial | exact zA | with_reducible refine zI ?_ ?_ | exact zB | exact zC | exact zD | exact zE | rfl | exact zN rfl | omega | assumption | (simp; done) | (simp [splice]; done) | (simp; omega) | (unfold fits; omega) | (unfold fits; simp_all; omega) | (simp_all; omega) | (simp_all; done) | intro _ | exact zI ?_ ?_ | intro _))))))
  (refine H.store (T := tt) 17 rfl (by kernel_rfl) (by kernel_rfl) tt_ok rfl rfl rfl rfl rfl rfl ?sd31 rfl (by kernel_rfl) ?_; (try (case sd31 => (repeat' ((first | first | exact trivial | exact zA | with_reducible refine zI ?_ ?_ | exact zB | exact zC | exact zD | exact zE | rfl | exact zN rfl | omega | assumption | (simp; done) | (simp [splice]; done) | (simp; omega) | (unfold fits; omega) | (unfold fits; simp_all; omega) | (simp_all; omega) | (simp_all; done) | intro _ | exact zI ?_ ?_ | intro _))))))
  refine H.done (by kernel_rfl) ?_
  refine ownAs 52 (gOf Mark.cells (cPut cs q key many)) rfl (show (cAdd cs q key).length = (cPut cs q key many).length by rw [cPut, List.length_set]) (fun i hi => ?_) ?_
  · have hg : gOf Mark.cells (cPut cs q key many) i = if i = cPos cs q key then Mark.cells ⟨q, key, s0 + many⟩ else gOf Mark.cells (cAdd cs q key) i := by
      unfold gOf cPut
      rw [List.getD_eq_getElem?_getD, List.getElem?_set, ← hs0]
      by_cases h6 : cPos cs q key = i
      · rw [if_pos h6, if_pos h6.symm, if_pos hposl]; rfl
      · rw [if_neg h6, if_neg (fun e => h6 e.symm), List.getD_eq_getElem?_getD]
    rw [hg]
    by_cases h6 : i = cPos cs q key
    · subst h6
      simp only [Int.toNat_natCast, if_true]
      have e2 : gOf Mark.cells (cAdd cs q key) (cPos cs q key) = Mark.cells ⟨q, key, s0⟩ := by rw [gOf, hposa]
      rw [e2, hv]
      rfl
    · simp only [Int.toNat_natCast, if_neg h6]
  refine freezeCell 55 1 54 rfl rfl rfl rfl ?_
  refine freezeCell 50 1 51 rfl rfl rfl rfl ?_
  repeat refine S.seq ?_
  refine S.cut (ι := Value) (fun y => [(13, .v (.int .i64 (s0 + 1)))]) (fun y => raR b y xc1 { A with l := A.l ++ [⟨q, rmsgs A cs q key body many many.toNat⟩] } (cPut cs q key many)) ?_ ?_
  · refine S.draw [(5, [50]), (7, [55])] mixed ?_
    (refine H.ts (T := tt) [0, 2, 3, 4, 5, 7] tt_ok (by kernel_rfl) (by kernel_rfl) (by kernel_rfl) (by intro ch a a' w h; obtain ⟨_, _, _, _, _, h, _⟩ := h; cases h) rfl ?sd26 ?_; (try (case sd26 => (repeat' ((first | first | exact trivial | exact zA | with_reducible refine zI ?_ ?_ | exact zB | exact zC | exact zD | exact zE | rfl | exact zN rfl | omega | assumption | (simp; done) | (simp [splice]; done) | (simp; omega) | (unfold fits; omega) | (unfold fits; simp_all; omega) | (simp_all; omega) | (simp_all; done) | intro _ | exact zI ?_ ?_ | intro _))))))
    refine H.o2 1 8 rfl rfl (by kernel_rfl) (by kernel_rfl) (O.buildSlice (T := tt) 51 tt_ok rfl rfl rfl rfl rfl rfl (by decide) (by decide) rfl rfl (by (repeat' ((first | first | exact trivial | exact zA | with_reducible refine zI ?_ ?_ | exact zB | exact zC | exact zD | exact zE | rfl | exact zN rfl | omega | assumption | (simp; done) | (simp [splice]; done) | (simp; omega) | (unfold fits; omega) | (unfold fits; simp_all; omega) | (simp_all; omega) | (simp_all; done) | intro _ | exact zI ?_ ?_ | intro _))))) (O.buildSlice (T := tt) 57 tt_ok rfl rfl rfl rfl rfl rfl (by decide) (by decide) rfl rfl (by (repeat' ((first | first | exact trivial | exact zA | with_reducible refine zI ?_ ?_ | exact zB | exact zC | exact zD | exact zE | rfl | exact zN rfl | omega | assumption | (simp; done) | (simp [splice]; done) | (simp; omega) | (unfold fits; omega) | (unfold fits; simp_all; omega) | (simp_all; omega) | (simp_all; done) | intro _ | exact zI ?_ ?_ | intro _))))) (.inr rfl) (.inr rfl) rfl rfl (fun x153 => ?_) (fun x160 => ?_)
    · skip
      refine H.o2 6 8 rfl rfl (by kernel_rfl) (by kernel_rfl) (O.append (T := tt) tt_ok rfl rfl rfl rfl rfl rfl rfl rfl rfl rfl (by (repeat' ((first | first | exact trivial | exact zA | with_reducible refine zI ?_ ?_ | exact zB | exact zC | exact zD | exact zE | rfl | exact zN rfl | omega | assumption | (simp; done) | (simp [splice]; done) | (simp; omega) | (unfold fits; omega) | (unfold fits; simp_all; omega) | (simp_all; omega) | (simp_all; done) | intro _ | exact zI ?_ ?_ | intro _)))) ⟨rfl, by decide, by decide⟩ (by simp; omega)) (O.buildSlice (T := tt) 57 tt_ok rfl rfl rfl rfl rfl rfl (by decide) (by decide) rfl rfl (by (repeat' ((first | first | exact trivial | exact zA | with_reducible refine zI ?_ ?_ | exact zB | exact zC | exact zD | exact zE | rfl | exact zN rfl | omega | assumption | (simp; done) | (simp [splice]; done) | (simp; omega) | (unfold fits; omega) | (unfold fits; simp_all; omega) | (simp_all; omega) | (simp_all; done) | intro _ | exact zI ?_ ?_ | intro _))))) (.inl (by kernel_rfl)) (.inr rfl) (by kernel_rfl) rfl (fun y158 => ?_) (fun x160 => ?_)
      · skip
        refine H.o1 8 rfl (by kernel_rfl) (by kernel_rfl) (O.buildSlice (T := tt) 57 tt_ok rfl rfl rfl rfl rfl rfl (by decide) (by decide) rfl rfl (by (repeat' ((first | first | exact trivial | exact zA | with_reducible refine zI ?_ ?_ | exact zB | exact zC | exact zD | exact zE | rfl | exact zN rfl | omega | assumption | (simp; done) | (simp [splice]; done) | (simp; omega) | (unfold fits; omega) | (unfold fits; simp_all; omega) | (simp_all; omega) | (simp_all; done) | intro _ | exact zI ?_ ?_ | intro _))))) (.inr rfl) rfl fun x160 => ?_
        refine H.o1 9 rfl (by kernel_rfl) (by kernel_rfl) (O.append (T := tt) tt_ok rfl rfl rfl rfl rfl rfl rfl rfl rfl rfl (by (repeat' ((first | first | exact trivial | exact zA | with_reducible refine zI ?_ ?_ | exact zB | exact zC | exact zD | exact zE | rfl | exact zN rfl | omega | assumption | (simp; done) | (simp [splice]; done) | (simp; omega) | (unfold fits; omega) | (unfold fits; simp_all; omega) | (simp_all; omega) | (simp_all; done) | intro _ | exact zI ?_ ?_ | intro _)))) ⟨rfl, by decide, by decide⟩ (by simp; omega)) (.inl (by kernel_rfl)) (by kernel_rfl) fun y161 => ?_
        (refine H.ts (T := tt) [10, 11] tt_ok (by kernel_rfl) (by kernel_rfl) (by kernel_rfl) (by intro ch a a' w h; obtain ⟨_, _, _, _, _, h, _⟩ := h; cases h) rfl ?sd27 ?_; (try (case sd27 => (repeat' ((first | first | exact trivial | exact zA | with_reducible refine zI ?_ ?_ | exact zB | exact zC | exact zD | exact zE | rfl | exact zN rfl | omega | assumption | (simp; done) | (simp [splice]; done) | (simp; omega) | (unfold fits; omega) | (unfold fits; simp_all; omega) | (simp_all; omega) | (simp_all; done) | intro _ | exact zI ?_ ?_ | intro _))))))
        (refine H.store (T := tt) 12 rfl (by kernel_rfl) (by kernel_rfl) tt_ok rfl rfl rfl rfl rfl rfl ?sd32 rfl (by kernel_rfl) ?_; (try (case sd32 => (repeat' ((first | first | exact trivial | exact zA | with_reducible refine zI ?_ ?_ | exact zB | exact zC | exact zD | exact zE | rfl | exact zN rfl | omega | assumption | (simp; done) | (simp [splice]; done) | (simp; omega) | (unfold fits; omega) | (unfold fits; simp_all; omega) | (simp_all; omega) | (simp_all; done) | intro _ | exact zI ?_ ?_ | intro _))))))
        refine H.done (by kernel_rfl) ?_
        refine ownAs 51 (gOf OutD.cells (A.l ++ [(⟨q, rmsgs A cs q key body many many.toNat⟩ : OutD)])) rfl (show 0 + A.l.length + 1 = (A.l ++ [(⟨q, rmsgs A cs q key body many many.toNat⟩ : OutD)]).length by simp) (fun i hi => ?_) ?_
        · refine Eq.trans ?_ (app1_h OutD.cells A.l (⟨q, rmsgs A cs q key body many many.toNat⟩ : OutD) (n := 0 + A.l.length) (rowsOf 2 (OutD.cells ⟨q, rmsgs A cs q key body many many.toNat⟩)) (by omega) rfl hi)
          simp only [joinG, Nat.zero_add, Nat.not_lt_zero, if_false, Nat.sub_zero]
          rfl
        exact fun a w h => ⟨y161, h.weakP (by (repeat' (first | exact True.intro | exact Imp.refl _ | refine ⟨?_, ?_⟩))) (by first | (unfold raR; (repeat (first | exact Sub.refl _ | refine Sub.pick (by first | exact p0 | exact pS p0 | exact pS (pS p0) | exact pS (pS (pS p0)) | exact pS (pS (pS (pS p0))) | exact pS (pS (pS (pS (pS p0))))) ?_))) | (repeat (first | exact Sub.refl _ | refine Sub.pick (by first | exact p0 | exact pS p0 | exact pS (pS p0) | exact pS (pS (pS p0)) | exact pS (pS (pS (pS p0))) | exact pS (pS (pS (pS (pS p0))))) ?_)))⟩
      · skip
        refine H.o1 6 rfl (by kernel_rfl) (by kernel_rfl) (O.append (T := tt) tt_ok rfl rfl rfl rfl rfl rfl rfl rfl rfl rfl (by (repeat' ((first | first | exact trivial | exact zA | with_reducible refine zI ?_ ?_ | exact zB | exact zC | exact zD | exact zE | rfl | exact zN rfl | omega | assumption | (simp; done) | (simp [splice]; done) | (simp; omega) | (unfold fits; omega) | (unfold fits; simp_all; omega) | (simp_all; omega) | (simp_all; done) | intro _ | exact zI ?_ ?_ | intro _)))) ⟨rfl, by decide, by decide⟩ (by simp; omega)) (.inl (by kernel_rfl)) (by kernel_rfl) fun y158 => ?_
        refine H.o1 9 rfl (by kernel_rfl) (by kernel_rfl) (O.append (T := tt) tt_ok rfl rfl rfl rfl rfl rfl rfl rfl rfl rfl (by (repeat' ((first | first | exact trivial | exact zA | with_reducible refine zI ?_ ?_ | exact zB | exact zC | exact zD | exact zE | rfl | exact zN rfl | omega | assumption | (simp; done) | (simp [splice]; done) | (simp; omega) | (unfold fits; omega) | (unfold fits; simp_all; omega) | (simp_all; omega) | (simp_all; done) | intro _ | exact zI ?_ ?_ | intro _)))) ⟨rfl, by decide, by decide⟩ (by simp; omega)) (.inl (by kernel_rfl)) (by kernel_rfl) fun y161 => ?_
        (refine H.ts (T := tt) [10, 11] tt_ok (by kernel_rfl) (by kernel_rfl) (by kernel_rfl) (by intro ch a a' w h; obtain ⟨_, _, _, _, _, h, _⟩ := h; cases h) rfl ?sd28 ?_; (try (case sd28 => (repeat' ((first | first | exact trivial | exact zA | with_reducible refine zI ?_ ?_ | exact zB | exact zC | exact zD | exact zE | rfl | exact zN rfl | omega | assumption | (simp; done) | (simp [splice]; done) | (simp; omega) | (unfold fits; omega) | (unfold fits; simp_all; omega) | (simp_all; omega) | (simp_all; done) | intro _ | exact zI ?_ ?_ | intro _))))))
        (refine H.store (T := tt) 12 rfl (by kernel_rfl) (by kernel_rfl) tt_ok rfl rfl rfl rfl rfl rfl ?sd33 rfl (by kernel_rfl) ?_; (try (case sd33 => (repeat' ((first | first | exact trivial | exact zA | with_reducible refine zI ?_ ?_ | exact zB | exact zC | exact zD | exact zE | rfl | exact zN rfl | omega | assumption | (simp; done) | (simp [splice]; done) | (simp; omega) | (unfold fits; omega) | (unfold fits; simp_all; omega) | (simp_all; omega) | (simp_all; done) | intro _ | exact zI ?_ ?_ | intro _))))))
        refine H.done (by kernel_rfl) ?_
        refine ownAs 51 (gOf OutD.cells (A.l ++ [(⟨q, rmsgs A cs q key body many many.toNat⟩ : OutD)])) rfl (show 0 + A.l.length + 1 = (A.l ++ [(⟨q, rmsgs A cs q key body many many.toNat⟩ : OutD)]).length by simp) (fun i hi => ?_) ?_
        · refine Eq.trans ?_ (app1_h OutD.cells A.l (⟨q, rmsgs A cs q key body many many.toNat⟩ : OutD) (n := 0 + A.l.length) (rowsOf 2 (OutD.cells ⟨q, rmsgs A cs q key body many many.toNat⟩)) (by omega) rfl hi)
          simp only [joinG, Nat.zero_add, Nat.not_lt_zero, if_false, Nat.sub_zero]
          rfl
        exact fun a w h => ⟨y161, h.weakP (by (repeat' (first | exact True.intro | exact Imp.refl _ | refine ⟨?_, ?_⟩))) (by first | (unfold raR; (repeat (first | exact Sub.refl _ | refine Sub.pick (by first | exact p0 | exact pS p0 | exact pS (pS p0) | exact pS (pS (pS p0)) | exact pS (pS (pS (pS p0))) | exact pS (pS (pS (pS (pS p0))))) ?_))) | (repeat (first | exact Sub.refl _ | refine Sub.pick (by first | exact p0 | exact pS p0 | exact pS (pS p0) | exact pS (pS (pS p0)) | exact pS (pS (pS (pS p0))) | exact pS (pS (pS (pS (pS p0))))) ?_)))⟩
    · skip
      refine H.o1 1 rfl (by kernel_rfl) (by kernel_rfl) (O.buildSlice (T := tt) 51 tt_ok rfl rfl rfl rfl rfl rfl (by decide) (by decide) rfl rfl (by (repeat' ((first | first | exact trivial | exact zA | with_reducible refine zI ?_ ?_ | exact zB | exact zC | exact zD | exact zE | rfl | exact zN rfl | omega | assumption | (simp; done) | (simp [splice]; done) | (simp; omega) | (unfold fits; omega) | (unfold fits; simp_all; omega) | (simp_all; omega) | (simp_all; done) | intro _ | exact zI ?_ ?_ | intro _))))) (.inr rfl) rfl fun x153 => ?_
      refine H.o1 6 rfl (by kernel_rfl) (by kernel_rfl) (O.append (T := tt) tt_ok rfl rfl rfl rfl rfl rfl rfl rfl rfl rfl (by (repeat' ((first | first | exact trivial | exact zA | with_reducible refine zI ?_ ?_ | exact zB | exact zC | exact zD | exact zE | rfl | exact zN rfl | omega | assumption | (simp; done) | (simp [splice]; done) | (simp; omega) | (unfold fits; omega) | (unfold fits; simp_all; omega) | (simp_all; omega) | (simp_all; done) | intro _ | exact zI ?_ ?_ | intro _)))) ⟨rfl, by decide, by decide⟩ (by simp; omega)) (.inl (by kernel_rfl)) (by kernel_rfl) fun y158 => ?_
      refine H.o1 9 rfl (by kernel_rfl) (by kernel_rfl) (O.append (T := tt) tt_ok rfl rfl rfl rfl rfl rfl rfl rfl rfl rfl (by (repeat' ((first | first | exact trivial | exact zA | with_reducible refine zI ?_ ?_ | exact zB | exact zC | exact zD | exact zE | rfl | exact zN rfl | omega | assumption | (simp; done) | (simp [splice]; done) | (simp; omega) | (unfold fits; omega) | (unfold fits; simp_all; omega) | (simp_all; omega) | (simp_all; done) | intro _ | exact zI ?_ ?_ | intro _)))) ⟨rfl, by decide, by decide⟩ (by simp; omega)) (.inl (by kernel_rfl)) (by kernel_rfl) fun y161 => ?_
      (refine H.ts (T := tt) [10, 11] tt_ok (by kernel_rfl) (by kernel_rfl) (by kernel_rfl) (by intro ch a a' w h; obtain ⟨_, _, _, _, _, h, _⟩ := h; cases h) rfl ?sd29 ?_; (try (case sd29 => (repeat' ((first | first | exact trivial | exact zA | with_reducible refine zI ?_ ?_ | exact zB | exact zC | exact zD | exact zE | rfl | exact zN rfl | omega | assumption | (simp; done) | (simp [splice]; done) | (simp; omega) | (unfold fits; omega) | (unfold fits; simp_all; omega) | (simp_all; omega) | (simp_all; done) | intro _ | exact zI ?_ ?_ | intro _))))))
      (refine H.store (T := tt) 12 rfl (by kernel_rfl) (by kernel_rfl) tt_ok rfl rfl rfl rfl rfl rfl ?sd34 rfl (by kernel_rfl) ?_; (try (case sd34 => (repeat' ((first | first | exact trivial | exact zA | with_reducible refine zI ?_ ?_ | exact zB | exact zC | exact zD | exact zE | rfl | exact zN rfl | omega | assumption | (simp; done) | (simp [splice]; done) | (simp; omega) | (unfold fits; omega) | (unfold fits; simp_all; omega) | (simp_all; omega) | (simp_all; done) | intro _ | exact zI ?_ ?_ | intro _))))))
      refine H.done (by kernel_rfl) ?_
      refine ownAs 51 (gOf OutD.cells (A.l ++ [(⟨q, rmsgs A cs q key body many many.toNat⟩ : OutD)])) rfl (show 0 + A.l.length + 1 = (A.l ++ [(⟨q, rmsgs A cs q key body many many.toNat⟩ : OutD)]).length by simp) (fun i hi => ?_) ?_
      · refine Eq.trans ?_ (app1_h OutD.cells A.l (⟨q, rmsgs A cs q key body many many.toNat⟩ : OutD) (n := 0 + A.l.length) (rowsOf 2 (OutD.cells ⟨q, rmsgs A cs q key body many many.toNat⟩)) (by omega) rfl hi)
        simp only [joinG, Nat.zero_add, Nat.not_lt_zero, if_false, Nat.sub_zero]
        rfl
      exact fun a w h => ⟨y161, h.weakP (by (repeat' (first | exact True.intro | exact Imp.refl _ | refine ⟨?_, ?_⟩))) (by first | (unfold raR; (repeat (first | exact Sub.refl _ | refine Sub.pick (by first | exact p0 | exact pS p0 | exact pS (pS p0) | exact pS (pS (pS p0)) | exact pS (pS (pS (pS p0))) | exact pS (pS (pS (pS (pS p0))))) ?_))) | (repeat (first | exact Sub.refl _ | refine Sub.pick (by first | exact p0 | exact pS p0 | exact pS (pS p0) | exact pS (pS (pS p0)) | exact pS (pS (pS (pS p0))) | exact pS (pS (pS (pS (pS p0))))) ?_)))⟩
  intro y
  try dsimp only
  unfold raR
  ((repeat refine S.seq ?_); refine S.region (L.go (T := tt) tt_ok rfl rfl ?sd14 ?_); (try (case sd14 => (repeat' ((first | first | exact trivial | exact zA | with_reducible refine zI ?_ ?_ | exact zB | exact zC | exact zD | exact zE | rfl | exact zN rfl | omega | assumption | (simp; done) | (simp [splice]; done) | (simp; omega) | (unfold fits; omega) | (unfold fits; simp_all; omega) | (simp_all; omega) | (simp_all; done) | intro _ | exact zI ?_ ?_ | intro _))))); try (refine L.nil ?_))
  ((repeat refine S.seq ?_); refine S.ret ?_)
  exact E.ret (T := tt) tt_ok rfl rfl (by (repeat' ((first | first | exact trivial | exact zA | with_reducible refine zI ?_ ?_ | exact zB | exact zC | exact zD | exact zE | rfl | exact zN rfl | omega | assumption | (simp; done) | (simp [splice]; done) | (simp; omega) | (unfold fits; omega) | (unfold fits; simp_all; omega) | (simp_all; omega) | (simp_all; done) | intro _ | exact zI ?_ ?_ | intro _)))) (F' := raR b y xc1 { A with l := A.l ++ [⟨q, rmsgs A cs q key body many many.toNat⟩] } (cPut cs q key many)) (Imp.refl _) (by unfold raR; (repeat (first | exact List.nil_sublist _ | refine List.Sublist.cons_cons _ ?_ | refine List.Sublist.cons _ ?_))) (.inr ⟨rfl, y, xc1, rfl, rfl⟩)

end Go.Proofs.YtfdneepgpekmiaaDoor

/- The program's author and the reference's do the same. -/
namespace Go.Proofs.YtfdneepgpekmiaaDoor
set_option linter.unusedVariables false
set_option linter.unusedSimpArgs false
set_option maxHeartbeats 8000000
open Go.RowKit
set_option maxRecDepth 4000

theorem place_first {l : List OutD} {q : Int} {key : ByteArray} {i : Nat} (hi : i < l.length) (hP : rP l q key i = true) (hno : ∀ j, j < i → rP l q key j = false) : i ∈ plcL l l.length := by
  refine List.mem_filter.2 ⟨List.mem_range.2 hi, ?_⟩
  unfold firstB
  rw [List.all_eq_true]
  intro j hj
  have hj := List.mem_range.1 hj
  cases hs : sameB l j i with
  | false => rfl
  | true =>
    exfalso
    have h1 := hno j hj
    unfold sameB at hs
    unfold rP at hP h1
    rw [Bool.and_eq_true, beq_iff_eq, beq_iff_eq] at hs hP
    rw [hs.1, hs.2, hP.1, hP.2] at h1
    simp at h1
theorem place_one {l : List OutD} {q : Int} {key : ByteArray} {i p : Nat} (hP : rP l q key i = true) (hno : ∀ j, j < i → rP l q key j = false) (hp : p ∈ plcL l l.length) (hQ : rP l q key p = true) : p = i := by
  rcases Nat.lt_trichotomy p i with h | h | h
  · rw [hno p h] at hQ; cases hQ
  · exact h
  · exfalso
    have hf := (List.mem_filter.1 hp).2
    unfold firstB at hf
    have := List.all_eq_true.1 hf i (List.mem_range.2 h)
    unfold sameB at this
    unfold rP at hP hQ
    rw [Bool.and_eq_true, beq_iff_eq, beq_iff_eq] at hP hQ
    rw [hP.1, hP.2, hQ.1, hQ.2] at this
    simp at this
theorem plc_get {l : List OutD} {k : Nat} (h : k < (plcI l l.length).length) : ∃ p : Nat, (plcI l l.length).getD k default = p ∧ p ∈ plcL l l.length := by
  have h1 : k < (plcL l l.length).length := by simpa [plcI] using h
  exact ⟨_, plcI_at h1, List.getElem_mem h1⟩
theorem told_same (A : AuD) (q : Int) (key : ByteArray) (seq code : Int) : toldE A q key seq code = rtoldE A q key seq code ∧ toldS A q key seq code = rtoldS A q key seq code := by
  have hB : ∀ p, toldB A.l q key seq p = (rP A.l q key p && (lastM (A.l.getD p default)).seq == seq) := fun p => rfl
  have none1 : (∀ p ∈ plcL A.l A.l.length, toldB A.l q key seq p = false) → atA A q key seq = -1 := fun h => by
    refine pidx_none fun k hk => ?_
    obtain ⟨p, hp, hm⟩ := plc_get hk
    show toldB A.l q key seq ((plcI A.l A.l.length).getD k default).toNat = false
    rw [hp, Int.toNat_natCast]
    exact h p hm
  rcases pidx_cases (rP A.l q key) A.l.length with ⟨h, hn⟩ | ⟨i, hi, hP, hno, h⟩
  · have hr : rAt A q key = -1 := h
    have ha := none1 fun p hp => by rw [hB, hn p (plcL_lt hp)]; rfl
    unfold toldE toldS rtoldE rtoldS
    rw [ha, hr]
    exact ⟨rfl, by rw [if_pos (.inl (by decide)), if_pos (.inl (by decide))]⟩
  · have hr : rAt A q key = i := h
    have hpl := place_first hi hP hno
    by_cases hs : (lastM (A.l.getD i default)).seq = seq
    · obtain ⟨k0, hk0, he⟩ := List.getElem_of_mem hpl
      have hT : toldB A.l q key seq i = true := by rw [hB, hP, hs]; simp
      have hk0' : k0 < (plcI A.l A.l.length).length := by simpa [plcI] using hk0
      have hex : toldB A.l q key seq ((plcI A.l A.l.length).getD k0 default).toNat = true := by rw [plcI_at hk0, he, Int.toNat_natCast]; exact hT
      obtain ⟨k, hk, hk2, ha⟩ : ∃ k : Nat, k < (plcI A.l A.l.length).length ∧ toldB A.l q key seq ((plcI A.l A.l.length).getD k default).toNat = true ∧ atA A q key seq = k := by
        rcases pidx_cases (fun i => toldB A.l q key seq ((plcI A.l A.l.length).getD i default).toNat) (plcI A.l A.l.length).length with ⟨-, hn⟩ | ⟨k, hk, h1, -, h2⟩
        · have := hn k0 hk0'
          simp only [hex] at this
          cases this
        · exact ⟨k, hk, h1, h2⟩
      obtain ⟨p, hp, hm⟩ := plc_get hk
      rw [hp, Int.toNat_natCast] at hk2
      have hpi : p = i := by
        rw [hB, Bool.and_eq_true] at hk2
        exact place_one hP hno hm hk2.1
      have hpA : placeA A q key seq = i := by rw [placeA, ha, Int.toNat_natCast, hp, Int.toNat_natCast, hpi]
      unfold toldE toldS rtoldE rtoldS
      rw [ha, hr, Int.toNat_natCast, hpA]
      constructor
      · rw [if_neg (by omega), if_neg (by omega), if_neg (fun h => h hs)]
      · by_cases hc : codeA code = 7
        · rw [if_pos (.inr hc), if_pos (.inr (.inr hc))]
        · rw [if_neg (by rintro (h | h); omega; exact hc h), if_neg (by rintro (h | h | h); omega; exact h hs; exact hc h)]
    · have ha := none1 fun p hp => by
        rw [hB]
        cases hq : rP A.l q key p with
        | false => rfl
        | true =>
          rw [place_one hP hno hp hq]
          simpa using hs
      unfold toldE toldS rtoldE rtoldS
      rw [ha, hr, Int.toNat_natCast]
      exact ⟨by rw [if_pos (by decide), if_neg (by omega), if_pos hs], by rw [if_pos (.inl (by decide)), if_pos (.inr (.inl hs))]⟩

/-- The counts and the numbers are the same. -/
def Cnt (cs ms : List Mark) : Prop := ∀ q k, cN cs q k = lastSeq ms q k
theorem numT_one : ∀ i : Nat, i < 10 → (numT (i : Int)).size = 1 := by decide +kernel
theorem bodyA_size {body : ByteArray} {many : Int} {i : Nat} (h : i < 10) : (bodyA body many i).size = (bodyA body many 0).size := by
  unfold bodyA
  split
  · rw [ByteArray.size_append, ByteArray.size_append, numT_one i h, numT_one 0 (by decide)]
  · rfl
theorem pub_same {A : AuD} {cs : List Mark} (ok : AuOk A) (h : Cnt cs A.seqs) (q : Int) (key body : ByteArray) (many : Int) : pubE A q key body many = rpubE A q key body many ∧ ∀ k, rmsgs A cs q key body many k = msgsA A q key body many k := by
  have hs := ok.seq q key
  constructor
  · unfold pubE rpubE rArg
    by_cases ha : argA q many = true
    · rw [if_pos ha, ha, Bool.true_or, if_pos rfl]
    · have ha' : argA q many = false := by simpa using ha
      have hr : 1 ≤ many ∧ many ≤ 8 := by
        unfold argA at ha'
        simp only [Bool.or_eq_false_iff, decide_eq_false_iff_not] at ha'
        omega
      rw [if_neg ha, ha', Bool.false_or]
      have hm : ∀ i, i < many.toNat → mayMsg (msgA A q key body many i) = mayMsg ⟨A.pub, 1, key, bodyA body many 0, false⟩ := fun i hi => by
        have e := bodyA_size (body := body) (many := many) (i := i) (by omega)
        unfold mayMsg msgA
        simp only [e]
        rw [decide_eq_true (show lastSeq A.seqs q key + 1 + (i : Int) ≥ 1 by omega), decide_eq_true (show lastSeq A.seqs q key + 1 + (i : Int) ≤ 1073741824 by omega)]
        rfl
      cases hb : mayMsg ⟨A.pub, 1, key, bodyA body many 0, false⟩ with
      | true =>
        have : (List.range many.toNat).all (fun i => mayMsg (msgA A q key body many i)) = true := List.all_eq_true.2 fun i hi => by rw [hm i (List.mem_range.1 hi), hb]
        rw [this]
        rfl
      | false =>
        have : (List.range many.toNat).all (fun i => mayMsg (msgA A q key body many i)) = false := by
          rw [List.all_eq_false]
          exact ⟨0, List.mem_range.2 (by omega), by rw [hm 0 (by omega), hb]; decide⟩
        rw [this]
        rfl
  · intro k
    unfold rmsgs msgsA
    refine List.map_congr_left fun i _ => ?_
    rw [msgA, h q key]

theorem cP_put (cs : List Mark) (q : Int) (key : ByteArray) (many : Int) (q' : Int) (k' : ByteArray) (i : Nat) : cP (cPut cs q key many) q' k' i = cP (cAdd cs q key) q' k' i := by
  have hposa := cPos_at cs q key
  have hposl := cPos_lt cs q key
  unfold cP cPut
  rw [List.getD_eq_getElem?_getD, List.getElem?_set]
  by_cases h : cPos cs q key = i
  · subst h
    rw [if_pos rfl, if_pos hposl, hposa]
    rfl
  · rw [if_neg h, List.getD_eq_getElem?_getD]
theorem cAt_put (cs : List Mark) (q : Int) (key : ByteArray) (many : Int) (q' : Int) (k' : ByteArray) : cAt (cPut cs q key many) q' k' = cAt (cAdd cs q key) q' k' := by
  unfold cAt
  rw [show (cPut cs q key many).length = (cAdd cs q key).length by rw [cPut, List.length_set]]
  congr 1
  funext i
  exact cP_put cs q key many q' k' i
theorem cAt_add_same (cs : List Mark) (q : Int) (key : ByteArray) : cAt (cAdd cs q key) q key = cPos cs q key := by
  obtain ⟨h1, h2, h3, h4⟩ := cAt_lt cs q key
  unfold cAdd cPos
  by_cases h : cAt cs q key < 0
  · rw [if_pos h, if_pos h]
    refine pidx_some (by simp) ?_ fun j hj => ?_
    · unfold cP
      rw [List.getD_eq_getElem?_getD, List.getElem?_append_right (Nat.le_refl _), Nat.sub_self]
      simp
    · have := h4 h j hj
      unfold cP at this ⊢
      rw [List.getD_eq_getElem?_getD, List.getElem?_append_left hj, ← List.getD_eq_getElem?_getD]
      exact this
  · rw [if_neg h, if_neg h]
    omega
theorem cN_add_other (cs : List Mark) (q : Int) (key : ByteArray) (q' : Int) (k' : ByteArray) (hne : ¬ (q = q' ∧ key = k')) : cAt (cAdd cs q key) q' k' = cAt cs q' k' ∧ (0 ≤ cAt cs q' k' → (cAdd cs q key).getD (cAt cs q' k').toNat default = cs.getD (cAt cs q' k').toNat default) := by
  obtain ⟨h1, h2, h3, h4⟩ := cAt_lt cs q' k'
  unfold cAdd
  by_cases h : cAt cs q key < 0
  · rw [if_pos h]
    have hl : ∀ j, j < cs.length → (cs ++ [(⟨q, key, 0⟩ : Mark)]).getD j default = cs.getD j default := fun j hj => by
      rw [List.getD_eq_getElem?_getD, List.getElem?_append_left hj, ← List.getD_eq_getElem?_getD]
    refine ⟨?_, fun h0 => hl _ (by omega)⟩
    by_cases h0 : 0 ≤ cAt cs q' k'
    · obtain ⟨a, b⟩ := h3 h0
      have : cAt (cs ++ [(⟨q, key, 0⟩ : Mark)]) q' k' = ((cAt cs q' k').toNat : Int) := by
        refine pidx_some (by rw [List.length_append]; simp; omega) ?_ fun j hj => ?_
        · unfold cP at a ⊢
          rw [hl _ (by omega)]
          exact a
        · have := b j hj
          unfold cP at this ⊢
          rw [hl j (by omega)]
          exact this
      rw [this]
      omega
    · have h5 := h4 (by omega)
      have : cAt (cs ++ [(⟨q, key, 0⟩ : Mark)]) q' k' = -1 := by
        refine pidx_none fun j hj => ?_
        rw [List.length_append] at hj
        by_cases hj2 : j < cs.length
        · have := h5 j hj2
          unfold cP at this ⊢
          rw [hl j hj2]
          exact this
        · have hj3 : j = cs.length := by simp at hj; omega
          subst hj3
          unfold cP
          rw [List.getD_eq_getElem?_getD, List.getElem?_append_right (Nat.le_refl _), Nat.sub_self]
          rw [Bool.eq_false_iff]
          intro e
          simp only [List.getElem?_cons_zero, Option.getD_some, Bool.and_eq_true, beq_iff_eq] at e
          exact hne e
      rw [this]
      omega
  · rw [if_neg h]
    exact ⟨rfl, fun _ => rfl⟩
theorem Cnt.put {cs ms : List Mark} (h : Cnt cs ms) (q : Int) (key : ByteArray) (many : Int) : Cnt (cPut cs q key many) (ms ++ [⟨q, key, lastSeq ms q key + many⟩]) := by
  intro q' k'
  rw [lastSeq_app]
  by_cases hne : q = q' ∧ key = k'
  · obtain ⟨rfl, rfl⟩ := hne
    have hposl := cPos_lt cs q key
    rw [if_pos (by simp), cN, cAt_put, cAt_add_same, if_neg (by omega), Int.toNat_natCast, cPut]
    rw [List.getD_eq_getElem?_getD, List.getElem?_set, if_pos rfl, if_pos hposl, h q key]
    rfl
  · have hb : ((q == q') && (key == k')) = false := by
      rw [Bool.eq_false_iff]
      intro e
      rw [Bool.and_eq_true, beq_iff_eq, beq_iff_eq] at e
      exact hne e
    obtain ⟨e1, e2⟩ := cN_add_other cs q key q' k' hne
    obtain ⟨g1, g2, g3, g4⟩ := cAt_lt cs q' k'
    show _ = if ((q == q') && (key == k')) = true then _ else _
    rw [hb, if_neg (by decide), ← h q' k', cN, cN, cAt_put, e1]
    by_cases h0 : cAt cs q' k' < 0
    · rw [if_pos h0, if_pos h0]
    · rw [if_neg h0, if_neg h0]
      have hpne : cPos cs q key ≠ (cAt cs q' k').toNat := by
        intro e
        have a := (g3 (by omega)).1
        have e3 := e2 (by omega)
        have hpa := cPos_at cs q key
        rw [e, e3] at hpa
        unfold cP at a
        rw [hpa, Bool.and_eq_true, beq_iff_eq, beq_iff_eq] at a
        exact hne a
      rw [cPut, List.getD_eq_getElem?_getD, List.getElem?_set, if_neg hpne, ← List.getD_eq_getElem?_getD, e2 (by omega)]
theorem cPut_len (cs : List Mark) (q : Int) (key : ByteArray) (many : Int) : (cPut cs q key many).length ≤ cs.length + 1 := by
  rw [cPut, List.length_set, cAdd]
  split <;> simp

end Go.Proofs.YtfdneepgpekmiaaDoor

/- A drawn region, told anew, with more that is read. -/
namespace Go.Proofs.YtfdneepgpekmiaaDoor
set_option linter.unusedVariables false
set_option linter.unusedSimpArgs false
set_option maxHeartbeats 8000000
open Go.RowKit

section
variable {P : Program} {c : Ctx} {σ σ1 : Slots} {F F1 : Rows} {rdf : List (Nat × List Nat)} {Q : Exit → Act → World → Prop} {ops : Array Oper} {fuel : Nat} {listed : Array Bool}
theorem H.rereads (rdf' : List (Nat × List Nat)) (hsub : ∀ k, ∀ x ∈ rdOf rdf k, x ∈ rdOf rdf' k) (next : H P ops c σ F rdf' fuel listed σ F Q) : H P ops c σ1 F1 rdf fuel listed σ F Q := by
  intro w1 a w hI
  have hI' : HI ops c σ F rdf' listed σ F w a w := ⟨hI.now, hI.now, Ext.refl _ _, hI.closed, fun _ _ s hs _ => hs, fun i _ => ⟨Nat.le_refl _, fun _ _ _ => rfl⟩⟩
  refine wpAnyG_base fuel listed a w (fun k v v' hk h1 h2 h3 => ?_) (fun k _ => ⟨Nat.le_refl _, fun _ _ _ => rfl⟩) (next w a w hI')
  refine ⟨Nat.le_trans hI.ext.size h2.1, fun b hb hr => ?_⟩
  have hbw : b < w.heap.size := Nat.lt_of_lt_of_le hb hI.ext.size
  have hw : ¬ Own c.off F b ∨ ∃ s ∈ F, s.1 ∈ rdOf rdf' k ∧ s.2.block = some b := by
    rcases hr with hr | ⟨s, g1, g2, g3⟩
    · exact .inl (hI.ext.own b hb hr)
    · exact .inr ⟨s, hI.keep k hk s g1 g2, hsub k _ g2, g3⟩
  rw [h2.2 b hbw hw, ← h1.2 b hbw hw]
  exact h3.2 b hb hr
end

end Go.Proofs.YtfdneepgpekmiaaDoor

/- What an author has to send, and tells, call by call: the walk. -/
namespace Go.Proofs.YtfdneepgpekmiaaDoor
set_option linter.unusedVariables false
set_option linter.unusedSimpArgs false
set_option maxHeartbeats 8000000
open Go.RowKit
set_option maxRecDepth 4000

theorem same_p (l : List OutD) (hs : ∀ o ∈ l, o.l.length ≤ 8) : PFn Tryd.prog 22 [.lst 2 l.length (gOf OutD.cells l), .lst 2 l.length (gOf OutD.cells l)] (.v (.bool true)) := by
  refine FnC.intro Tryd.func22 rfl Tryd.ntmps22 rfl ?_; intro off w0
  refine lenAt (sz := 2) (n := l.length) (g := gOf OutD.cells l) 0 rfl fun hn => ?_
  ((repeat refine S.seq ?_); refine S.region (L.go (T := tt) tt_ok rfl rfl ?sd1 ?_); (try (case sd1 => (repeat' ((first | first | exact trivial | exact zA | with_reducible refine zI ?_ ?_ | exact zB | exact zC | exact zD | exact zE | rfl | exact zN rfl | omega | assumption | (simp; done) | (simp [splice]; done) | (simp; omega) | (unfold fits; omega) | (unfold fits; simp_all; omega) | (simp_all; omega) | (simp_all; done) | intro _ | exact zI ?_ ?_ | intro _))))); try (refine L.nil ?_))
  ((repeat refine S.seq ?_); refine S.region (L.go (T := tt) tt_ok rfl rfl ?sd2 ?_); (try (case sd2 => (repeat' ((first | first | exact trivial | exact zA | with_reducible refine zI ?_ ?_ | exact zB | exact zC | exact zD | exact zE | rfl | exact zN rfl | omega | assumption | (simp; done) | (simp [splice]; done) | (simp; omega) | (unfold fits; omega) | (unfold fits; simp_all; omega) | (simp_all; omega) | (simp_all; done) | intro _ | exact zI ?_ ?_ | intro _))))); try (refine L.nil ?_))
  ((repeat refine S.seq ?_); refine S.cond rfl (fun h0 => ?_) (fun h0 => ?_) <;> (try first | refine S.skip ?_ | refine S.exit ?_))
  · exfalso
    simp at h0
  ((repeat refine S.seq ?_); refine S.region (L.go (T := tt) tt_ok rfl rfl ?sd3 ?_); (try (case sd3 => (repeat' ((first | first | exact trivial | exact zA | with_reducible refine zI ?_ ?_ | exact zB | exact zC | exact zD | exact zE | rfl | exact zN rfl | omega | assumption | (simp; done) | (simp [splice]; done) | (simp; omega) | (unfold fits; omega) | (unfold fits; simp_all; omega) | (simp_all; omega) | (simp_all; done) | intro _ | exact zI ?_ ?_ | intro _))))); try (refine L.nil ?_))
  repeat refine S.seq ?_
  refine S.block (S.loop (ι := { k : Nat // k ≤ l.length }) (fun k => [(0, .lst 2 l.length (gOf OutD.cells l)), (1, .lst 2 l.length (gOf OutD.cells l)), (5, .v (.int .i64 k.1))]) (fun k => []) (fun k => l.length - k.1) ?_ ?_)
  · exact fun a w h => ⟨⟨0, Nat.zero_le _⟩, h.weak (by (repeat' (first | exact True.intro | exact Imp.refl _ | refine ⟨?_, ?_⟩))) (by (repeat (first | exact List.nil_sublist _ | refine List.Sublist.cons_cons _ ?_ | refine List.Sublist.cons _ ?_)))⟩
  rintro ⟨i, hi⟩
  dsimp only
  ((repeat refine S.seq ?_); refine S.region (L.go (T := tt) tt_ok rfl rfl ?sd4 ?_); (try (case sd4 => (repeat' ((first | first | exact trivial | exact zA | with_reducible refine zI ?_ ?_ | exact zB | exact zC | exact zD | exact zE | rfl | exact zN rfl | omega | assumption | (simp; done) | (simp [splice]; done) | (simp; omega) | (unfold fits; omega) | (unfold fits; simp_all; omega) | (simp_all; omega) | (simp_all; done) | intro _ | exact zI ?_ ?_ | intro _))))); try (refine L.nil ?_))
  ((repeat refine S.seq ?_); refine S.cond rfl (fun h1 => ?_) (fun h1 => ?_) <;> (try first | refine S.skip ?_ | refine S.exit ?_))
  · have h1n : i < l.length := by have := of_dec h1; omega
    have hsi := hs (l.getD i default) (by rw [getD_get h1n]; exact List.getElem_mem _)
    repeat refine S.seq ?_
    refine S.block ?_
    repeat refine S.seq ?_
    refine S.draw [] mixed ?_
    (refine H.ts (T := tt) [0, 1, 2, 3, 4, 5, 6, 7, 8, 9, 10, 11, 12, 13, 14, 15, 16, 17, 18, 19, 20, 21, 22, 23, 24, 25] tt_ok (by kernel_rfl) (by kernel_rfl) (by kernel_rfl) (by intro ch a a' w h; obtain ⟨_, _, _, _, _, h, _⟩ := h; cases h) rfl ?sd41 ?_; (try (case sd41 => (repeat' ((first | first | exact trivial | exact zA | with_reducible refine zI ?_ ?_ | exact zB | exact zC | exact zD | exact zE | rfl | exact zN rfl | omega | assumption | (simp; done) | (simp [splice]; done) | (simp; omega) | (unfold fits; omega) | (unfold fits; simp_all; omega) | (simp_all; omega) | (simp_all; done) | intro _ | exact zI ?_ ?_ | intro _))))))
    refine H.done (by kernel_rfl) ?_
    ((repeat refine S.seq ?_); refine S.cond rfl (fun h2 => ?_) (fun h2 => ?_) <;> (try first | refine S.skip ?_ | refine S.exit ?_))
    · exfalso
      simp at h2
    ((repeat refine S.seq ?_); refine S.region (L.go (T := tt) tt_ok rfl rfl ?sd5 ?_); (try (case sd5 => (repeat' ((first | first | exact trivial | exact zA | with_reducible refine zI ?_ ?_ | exact zB | exact zC | exact zD | exact zE | rfl | exact zN rfl | omega | assumption | (simp; done) | (simp [splice]; done) | (simp; omega) | (unfold fits; omega) | (unfold fits; simp_all; omega) | (simp_all; omega) | (simp_all; done) | intro _ | exact zI ?_ ?_ | intro _))))); try (refine L.nil ?_))
    repeat refine S.seq ?_
    refine S.block (S.loop (ι := { k : Nat // k ≤ (l.getD i default).l.length }) (fun k => [(0, .lst 2 l.length (gOf OutD.cells l)), (1, .lst 2 l.length (gOf OutD.cells l)), (5, .v (.int .i64 i)), (6, .v (.int .i64 k.1))]) (fun k => []) (fun k => (l.getD i default).l.length - k.1) ?_ ?_)
    · exact fun a w h => ⟨⟨0, Nat.zero_le _⟩, h.weak (by (repeat' (first | exact True.intro | exact Imp.refl _ | refine ⟨?_, ?_⟩))) (by (repeat (first | exact List.nil_sublist _ | refine List.Sublist.cons_cons _ ?_ | refine List.Sublist.cons _ ?_)))⟩
    rintro ⟨k, hk⟩
    dsimp only
    ((repeat refine S.seq ?_); refine S.region (L.go (T := tt) tt_ok rfl rfl ?sd6 ?_); (try (case sd6 => (repeat' ((first | first | exact trivial | exact zA | with_reducible refine zI ?_ ?_ | exact zB | exact zC | exact zD | exact zE | rfl | exact zN rfl | omega | assumption | (simp; done) | (simp [splice]; done) | (simp; omega) | (unfold fits; omega) | (unfold fits; simp_all; omega) | (simp_all; omega) | (simp_all; done) | intro _ | exact zI ?_ ?_ | intro _))))); try (refine L.nil ?_))
    ((repeat refine S.seq ?_); refine S.cond rfl (fun h3 => ?_) (fun h3 => ?_) <;> (try first | refine S.skip ?_ | refine S.exit ?_))
    · have h3n : k < (l.getD i default).l.length := by have h3' : (k : Int) < ((l.getD i default).l.length : Int) := of_dec h3; omega
      repeat refine S.seq ?_
      refine S.block ?_
      repeat refine S.seq ?_
      refine S.draw [] mixed ?_
      (refine H.ts (T := tt) [0, 1, 2, 3, 4, 5, 6, 7, 8, 9, 10, 11, 12, 13, 14, 15, 16] tt_ok (by kernel_rfl) (by kernel_rfl) (by kernel_rfl) (by intro ch a a' w h; obtain ⟨_, _, _, _, _, h, _⟩ := h; cases h) rfl ?sd42 ?_; (try (case sd42 => (repeat' ((first | first | exact trivial | exact zA | with_reducible refine zI ?_ ?_ | exact zB | exact zC | exact zD | exact zE | rfl | exact zN rfl | omega | assumption | (simp; done) | (simp [splice]; done) | (simp; omega) | (unfold fits; omega) | (unfold fits; simp_all; omega) | (simp_all; omega) | (simp_all; done) | intro _ | exact zI ?_ ?_ | intro _))))))
      refine H.done (by kernel_rfl) ?_
      ((repeat refine S.seq ?_); refine S.cond rfl (fun h4 => ?_) (fun h4 => ?_) <;> (try first | refine S.skip ?_ | refine S.exit ?_))
      · exfalso
        simp at h4
      ((repeat refine S.seq ?_); refine S.region (L.go (T := tt) tt_ok rfl rfl ?sd7 ?_); (try (case sd7 => (repeat' ((first | first | exact trivial | exact zA | with_reducible refine zI ?_ ?_ | exact zB | exact zC | exact zD | exact zE | rfl | exact zN rfl | omega | assumption | (simp; done) | (simp [splice]; done) | (simp; omega) | (unfold fits; omega) | (unfold fits; simp_all; omega) | (simp_all; omega) | (simp_all; done) | intro _ | exact zI ?_ ?_ | intro _))))); try (refine L.nil ?_))
      exact fun a w hR => ⟨⟨k + 1, by omega⟩, by show (l.getD i default).l.length - (k + 1) < (l.getD i default).l.length - k; omega, hR.weak (by (repeat' (first | exact True.intro | exact Imp.refl _ | refine ⟨?_, ?_⟩))) (by (repeat (first | exact List.nil_sublist _ | refine List.Sublist.cons_cons _ ?_ | refine List.Sublist.cons _ ?_)))⟩
    ((repeat refine S.seq ?_); refine S.region (L.go (T := tt) tt_ok rfl rfl ?sd8 ?_); (try (case sd8 => (repeat' ((first | first | exact trivial | exact zA | with_reducible refine zI ?_ ?_ | exact zB | exact zC | exact zD | exact zE | rfl | exact zN rfl | omega | assumption | (simp; done) | (simp [splice]; done) | (simp; omega) | (unfold fits; omega) | (unfold fits; simp_all; omega) | (simp_all; omega) | (simp_all; done) | intro _ | exact zI ?_ ?_ | intro _))))); try (refine L.nil ?_))
    exact fun a w hR => ⟨⟨i + 1, by omega⟩, by show l.length - (i + 1) < l.length - i; omega, hR.weak (by (repeat' (first | exact True.intro | exact Imp.refl _ | refine ⟨?_, ?_⟩))) (by (repeat (first | exact List.nil_sublist _ | refine List.Sublist.cons_cons _ ?_ | refine List.Sublist.cons _ ?_)))⟩
  · ((repeat refine S.seq ?_); refine S.region (L.go (T := tt) tt_ok rfl rfl ?sd9 ?_); (try (case sd9 => (repeat' ((first | first | exact trivial | exact zA | with_reducible refine zI ?_ ?_ | exact zB | exact zC | exact zD | exact zE | rfl | exact zN rfl | omega | assumption | (simp; done) | (simp [splice]; done) | (simp; omega) | (unfold fits; omega) | (unfold fits; simp_all; omega) | (simp_all; omega) | (simp_all; done) | intro _ | exact zI ?_ ?_ | intro _))))); try (refine L.nil ?_))
    (((repeat refine S.seq ?_); refine S.ret ?_); refine E.retP (T := tt) tt_ok rfl rfl (by (repeat' ((first | first | exact trivial | exact zA | with_reducible refine zI ?_ ?_ | exact zB | exact zC | exact zD | exact zE | rfl | exact zN rfl | omega | assumption | (simp; done) | (simp [splice]; done) | (simp; omega) | (unfold fits; omega) | (unfold fits; simp_all; omega) | (simp_all; omega) | (simp_all; done) | intro _ | exact zI ?_ ?_ | intro _)))) (Imp.of_eq ?_))
    rfl

structure OpA where
  kind : Int
  queue : Int
  key : Int
  many : Int
  n : Int
  code : Int
  body : ByteArray
instance : Inhabited OpA := ⟨⟨0, 0, 0, 0, 0, 0, ByteArray.empty⟩⟩
def OpA.cells (o : OpA) : List AV := [.v (.int .i64 o.kind), .v (.int .i64 o.queue), .v (.int .i64 o.key), .v (.int .i64 o.many), .v (.int .i64 o.n), .v (.int .i64 o.code), .v (.string o.body)]
def OpA.ok (o : OpA) : Prop := fitI o.kind
def opsA (l : List OpA) : AV := .lst 7 l.length (gOf OpA.cells l)
theorem u_int : Tryd.prog.underlying 3 = some (.int .i64) := by kernel_rfl
theorem u_str : Tryd.prog.underlying 9 = some .string := by kernel_rfl
theorem r_int : RdP Tryd.prog 3 (fun z : Int => [.v (.int .i64 z)]) fitI := (rd_int u_int).map id (fun _ => rfl) fun _ h => wf_fit h
theorem r_str : RdP Tryd.prog 9 (fun z : ByteArray => [.v (.string z)]) fitS := (rd_str u_str).map id (fun _ => rfl) fun d h => by have h : d.size ≤ 2 ^ 63 - 1 := h; unfold fitS; simp only [id]; omega
theorem rd_opA : RdP Tryd.prog 32 OpA.cells OpA.ok :=
  (rd_struct (T := tt) tt_ok rfl rfl rfl (rdf_cons r_int (rdf_cons r_int (rdf_cons r_int (rdf_cons r_int (rdf_cons r_int (rdf_cons r_int (rdf_cons r_str rdf_nil)))))))).map (fun d => ⟨d.1, d.2.1, d.2.2.1, d.2.2.2.1, d.2.2.2.2.1, d.2.2.2.2.2.1, d.2.2.2.2.2.2.1⟩) (fun _ => rfl) fun d h => h.1
theorem rd_opsA : RdP Tryd.prog 22 (fun l : List OpA => [opsA l]) (fun l => l.length ≤ maxLen ∧ ∀ m ∈ l, m.ok) := rd_slice (sz := 7) (by kernel_rfl) (by kernel_rfl) (fun _ => rfl) rd_opA
theorem tmod_bd (a b : Int) (hb : 0 < b) : -b < a.tmod b ∧ a.tmod b < b := by
  have h1 := Int.emod_nonneg a (show b ≠ 0 by omega)
  have h2 := Int.emod_lt_of_pos a hb
  rw [Int.tmod_eq_emod]
  split <;> omega

structure PlInv (k : Nat) (A : AuD) (cs : List Mark) : Prop where
  ok : AuOk A
  seq : ∀ q c, lastSeq A.seqs q c ≤ 8 * (k : Int)
  cnt : Cnt cs A.seqs
  len : cs.length ≤ k
theorem PlInv.told {k : Nat} {A : AuD} {cs : List Mark} (h : PlInv k A cs) (q : Int) (key : ByteArray) (seq code : Int) : PlInv (k + 1) (toldS A q key seq code) cs := by
  have e : (toldS A q key seq code).seqs = A.seqs := by unfold toldS; split <;> rfl
  exact ⟨h.ok.told q key seq code, fun q c => by rw [e]; have := h.seq q c; omega, by rw [e]; exact h.cnt, by have := h.len; omega⟩
theorem PlInv.stay {k : Nat} {A : AuD} {cs : List Mark} (h : PlInv k A cs) : PlInv (k + 1) A cs := ⟨h.ok, fun q c => by have := h.seq q c; omega, h.cnt, by have := h.len; omega⟩
theorem PlInv.pub {k : Nat} {A : AuD} {cs : List Mark} (h : PlInv k A cs) (hk : k ≤ 1000) (q : Int) {key : ByteArray} (hkey : fitS key) (body : ByteArray) (many : Int) (hE : pubE A q key body many = 0) : PlInv (k + 1) (pubS A q key body many) (cPut cs q key many) := by
  have e : (pubS A q key body many).seqs = A.seqs ++ [⟨q, key, lastSeq A.seqs q key + many⟩] := by rw [pubS, if_pos hE]
  refine ⟨h.ok.pub h.seq (by omega) q hkey body many, fun q' c => ?_, by rw [e]; exact h.cnt.put q key many, by have := cPut_len cs q key many; have := h.len; omega⟩
  have := (pubS_seq A q key body many (fun q c => (h.ok.seq q c).1) q' c).2 _ h.seq
  omega
theorem pubS_no {A : AuD} {q : Int} {key body : ByteArray} {many : Int} (h : pubE A q key body many ≠ 0) : pubS A q key body many = A := by rw [pubS, if_neg h]
def codes2 : List Int := [0, 0, 8, 4, 1, 6, 5]
theorem nextO_mem {A : AuD} : ∀ o ∈ nextO A.l A.l.length, o ∈ A.l := by
  intro o ho
  unfold nextO at ho
  rw [List.take_of_length_le (plcL_len A.l A.l.length)] at ho
  obtain ⟨j, hj, rfl⟩ := List.mem_map.1 ho
  rw [getD_get (plcL_lt hj)]
  exact List.getElem_mem _

theorem authorPlays_p (pub : Int) (l : List OpA) (hl : ∀ o ∈ l, o.ok) : PFn Tryd.prog 3 [.v (.int .i64 pub), opsA l] (.v (.bool true)) := by
  by_cases hp : pub < 0 ∨ pub ≥ 4
  · refine FnC.intro Tryd.func3 rfl Tryd.ntmps3 rfl ?_; intro off w0
    ((repeat refine S.seq ?_); refine S.region (L.go (T := tt) tt_ok rfl rfl ?sd10 ?_); (try (case sd10 => (repeat' ((first | first | exact trivial | exact zA | with_reducible refine zI ?_ ?_ | exact zB | exact zC | exact zD | exact zE | rfl | exact zN rfl | omega | assumption | (simp; done) | (simp [splice]; done) | (simp; omega) | (unfold fits; omega) | (unfold fits; simp_all; omega) | (simp_all; omega) | (simp_all; done) | intro _ | exact zI ?_ ?_ | intro _))))); try (refine L.nil ?_))
    repeat refine S.seq ?_
    refine S.region ?_
    (refine L.go (T := tt) tt_ok rfl rfl ?sd26 ?_; (try (case sd26 => (repeat' ((first | first | exact trivial | exact zA | with_reducible refine zI ?_ ?_ | exact zB | exact zC | exact zD | exact zE | rfl | exact zN rfl | omega | assumption | (simp; done) | (simp [splice]; done) | (simp; omega) | (unfold fits; omega) | (unfold fits; simp_all; omega) | (simp_all; omega) | (simp_all; done) | intro _ | exact zI ?_ ?_ | intro _))))); try (refine L.nil ?_))
    refine L.callP rfl rfl rfl rfl rfl rfl rfl ⟨trivial, by (repeat' ((first | first | exact trivial | exact zA | with_reducible refine zI ?_ ?_ | exact zB | exact zC | exact zD | exact zE | rfl | exact zN rfl | omega | assumption | (simp; done) | (simp [splice]; done) | (simp; omega) | (unfold fits; omega) | (unfold fits; simp_all; omega) | (simp_all; omega) | (simp_all; done) | intro _ | exact zI ?_ ?_ | intro _)))⟩ rfl (Imps.refl _) (anew0_p pub hp) ?_
    (refine L.go (T := tt) tt_ok rfl rfl ?sd27 ?_; (try (case sd27 => (repeat' ((first | first | exact trivial | exact zA | with_reducible refine zI ?_ ?_ | exact zB | exact zC | exact zD | exact zE | rfl | exact zN rfl | omega | assumption | (simp; done) | (simp [splice]; done) | (simp; omega) | (unfold fits; omega) | (unfold fits; simp_all; omega) | (simp_all; omega) | (simp_all; done) | intro _ | exact zI ?_ ?_ | intro _))))); try (refine L.nil ?_))
    ((repeat refine S.seq ?_); refine S.region (L.go (T := tt) tt_ok rfl rfl ?sd11 ?_); (try (case sd11 => (repeat' ((first | first | exact trivial | exact zA | with_reducible refine zI ?_ ?_ | exact zB | exact zC | exact zD | exact zE | rfl | exact zN rfl | omega | assumption | (simp; done) | (simp [splice]; done) | (simp; omega) | (unfold fits; omega) | (unfold fits; simp_all; omega) | (simp_all; omega) | (simp_all; done) | intro _ | exact zI ?_ ?_ | intro _))))); try (refine L.nil ?_))
    ((repeat refine S.seq ?_); refine S.cond rfl (fun h1 => ?_) (fun h1 => ?_) <;> (try first | refine S.skip ?_ | refine S.exit ?_))
    · repeat refine S.seq ?_
      refine S.region ?_
      refine L.callP rfl rfl rfl rfl rfl rfl rfl ⟨trivial, by (repeat' ((first | first | exact trivial | exact zA | with_reducible refine zI ?_ ?_ | exact zB | exact zC | exact zD | exact zE | rfl | exact zN rfl | omega | assumption | (simp; done) | (simp [splice]; done) | (simp; omega) | (unfold fits; omega) | (unfold fits; simp_all; omega) | (simp_all; omega) | (simp_all; done) | intro _ | exact zI ?_ ?_ | intro _)))⟩ rfl (Imps.refl _) told20_p ?_
      (refine L.go (T := tt) tt_ok rfl rfl ?sd28 ?_; (try (case sd28 => (repeat' ((first | first | exact trivial | exact zA | with_reducible refine zI ?_ ?_ | exact zB | exact zC | exact zD | exact zE | rfl | exact zN rfl | omega | assumption | (simp; done) | (simp [splice]; done) | (simp; omega) | (unfold fits; omega) | (unfold fits; simp_all; omega) | (simp_all; omega) | (simp_all; done) | intro _ | exact zI ?_ ?_ | intro _))))); try (refine L.nil ?_))
      (((repeat refine S.seq ?_); refine S.ret ?_); refine E.retP (T := tt) tt_ok rfl rfl (by (repeat' ((first | first | exact trivial | exact zA | with_reducible refine zI ?_ ?_ | exact zB | exact zC | exact zD | exact zE | rfl | exact zN rfl | omega | assumption | (simp; done) | (simp [splice]; done) | (simp; omega) | (unfold fits; omega) | (unfold fits; simp_all; omega) | (simp_all; omega) | (simp_all; done) | intro _ | exact zI ?_ ?_ | intro _)))) (Imp.of_eq ?_))
      rfl
    exfalso
    simp only [Bool.or_eq_false_iff, decide_eq_false_iff_not] at h1
    omega
  refine FnC.intro Tryd.func3 rfl Tryd.ntmps3 rfl ?_; intro off w0
  ((repeat refine S.seq ?_); refine S.region (L.go (T := tt) tt_ok rfl rfl ?sd12 ?_); (try (case sd12 => (repeat' ((first | first | exact trivial | exact zA | with_reducible refine zI ?_ ?_ | exact zB | exact zC | exact zD | exact zE | rfl | exact zN rfl | omega | assumption | (simp; done) | (simp [splice]; done) | (simp; omega) | (unfold fits; omega) | (unfold fits; simp_all; omega) | (simp_all; omega) | (simp_all; done) | intro _ | exact zI ?_ ?_ | intro _))))); try (refine L.nil ?_))
  repeat refine S.seq ?_
  refine S.region ?_
  (refine L.go (T := tt) tt_ok rfl rfl ?sd29 ?_; (try (case sd29 => (repeat' ((first | first | exact trivial | exact zA | with_reducible refine zI ?_ ?_ | exact zB | exact zC | exact zD | exact zE | rfl | exact zN rfl | omega | assumption | (simp; done) | (simp [splice]; done) | (simp; omega) | (unfold fits; omega) | (unfold fits; simp_all; omega) | (simp_all; omega) | (simp_all; done) | intro _ | exact zI ?_ ?_ | intro _))))); try (refine L.nil ?_))
  refine L.call (G := []) rfl rfl rfl rfl rfl rfl rfl ⟨trivial, by (repeat' ((first | first | exact trivial | exact zA | with_reducible refine zI ?_ ?_ | exact zB | exact zC | exact zD | exact zE | rfl | exact zN rfl | omega | assumption | (simp; done) | (simp [splice]; done) | (simp; omega) | (unfold fits; omega) | (unfold fits; simp_all; omega) | (simp_all; omega) | (simp_all; done) | intro _ | exact zI ?_ ?_ | intro _)))⟩ rfl (Imps.refl _) (by (repeat (first | exact pick0 | refine pickS (by first | exact p0 | exact pS p0 | exact pS (pS p0) | exact pS (pS (pS p0)) | exact pS (pS (pS (pS p0))) | exact pS (pS (pS (pS (pS p0)))) | exact pS (pS (pS (pS (pS (pS p0)))))) ?_))) (anew_p pub (by omega) (by omega)) ?_
  rintro r F' ⟨b, mb, rfl, rfl⟩
  (refine L.go (T := tt) tt_ok rfl rfl ?sd30 ?_; (try (case sd30 => (repeat' ((first | first | exact trivial | exact zA | with_reducible refine zI ?_ ?_ | exact zB | exact zC | exact zD | exact zE | rfl | exact zN rfl | omega | assumption | (simp; done) | (simp [splice]; done) | (simp; omega) | (unfold fits; omega) | (unfold fits; simp_all; omega) | (simp_all; omega) | (simp_all; done) | intro _ | exact zI ?_ ?_ | intro _))))); try (refine L.nil ?_))
  ((repeat refine S.seq ?_); refine S.region (L.go (T := tt) tt_ok rfl rfl ?sd13 ?_); (try (case sd13 => (repeat' ((first | first | exact trivial | exact zA | with_reducible refine zI ?_ ?_ | exact zB | exact zC | exact zD | exact zE | rfl | exact zN rfl | omega | assumption | (simp; done) | (simp [splice]; done) | (simp; omega) | (unfold fits; omega) | (unfold fits; simp_all; omega) | (simp_all; omega) | (simp_all; done) | intro _ | exact zI ?_ ?_ | intro _))))); try (refine L.nil ?_))
  ((repeat refine S.seq ?_); refine S.cond rfl (fun h1 => ?_) (fun h1 => ?_) <;> (try first | refine S.skip ?_ | refine S.exit ?_))
  · exfalso
    simp only [Bool.or_eq_true, decide_eq_true_eq] at h1
    exact hp h1
  ((repeat refine S.seq ?_); refine S.region (L.go (T := tt) tt_ok rfl rfl ?sd14 ?_); (try (case sd14 => (repeat' ((first | first | exact trivial | exact zA | with_reducible refine zI ?_ ?_ | exact zB | exact zC | exact zD | exact zE | rfl | exact zN rfl | omega | assumption | (simp; done) | (simp [splice]; done) | (simp; omega) | (unfold fits; omega) | (unfold fits; simp_all; omega) | (simp_all; omega) | (simp_all; done) | intro _ | exact zI ?_ ?_ | intro _))))); try (refine L.nil ?_))
  ((repeat refine S.seq ?_); refine S.cond rfl (fun h2 => ?_) (fun h2 => ?_) <;> (try first | refine S.skip ?_ | refine S.exit ?_))
  · cases h2
  ((repeat refine S.seq ?_); refine S.region (L.go (T := tt) tt_ok rfl rfl ?sd15 ?_); (try (case sd15 => (repeat' ((first | first | exact trivial | exact zA | with_reducible refine zI ?_ ?_ | exact zB | exact zC | exact zD | exact zE | rfl | exact zN rfl | omega | assumption | (simp; done) | (simp [splice]; done) | (simp; omega) | (unfold fits; omega) | (unfold fits; simp_all; omega) | (simp_all; omega) | (simp_all; done) | intro _ | exact zI ?_ ?_ | intro _))))); try (refine L.nil ?_))
  ((repeat refine S.seq ?_); refine S.cond rfl (fun h3 => ?_) (fun h3 => ?_) <;> (try first | refine S.skip ?_ | refine S.exit ?_))
  · repeat refine S.seq ?_
    refine S.region ?_
    refine L.callP rfl rfl rfl rfl rfl rfl rfl ⟨trivial, by (repeat' ((first | first | exact trivial | exact zA | with_reducible refine zI ?_ ?_ | exact zB | exact zC | exact zD | exact zE | rfl | exact zN rfl | omega | assumption | (simp; done) | (simp [splice]; done) | (simp; omega) | (unfold fits; omega) | (unfold fits; simp_all; omega) | (simp_all; omega) | (simp_all; done) | intro _ | exact zI ?_ ?_ | intro _)))⟩ rfl (Imps.refl _) told20_p ?_
    (refine L.go (T := tt) tt_ok rfl rfl ?sd31 ?_; (try (case sd31 => (repeat' ((first | first | exact trivial | exact zA | with_reducible refine zI ?_ ?_ | exact zB | exact zC | exact zD | exact zE | rfl | exact zN rfl | omega | assumption | (simp; done) | (simp [splice]; done) | (simp; omega) | (unfold fits; omega) | (unfold fits; simp_all; omega) | (simp_all; omega) | (simp_all; done) | intro _ | exact zI ?_ ?_ | intro _))))); try (refine L.nil ?_))
    (((repeat refine S.seq ?_); refine S.ret ?_); refine E.retP (T := tt) tt_ok rfl rfl (by (repeat' ((first | first | exact trivial | exact zA | with_reducible refine zI ?_ ?_ | exact zB | exact zC | exact zD | exact zE | rfl | exact zN rfl | omega | assumption | (simp; done) | (simp [splice]; done) | (simp; omega) | (unfold fits; omega) | (unfold fits; simp_all; omega) | (simp_all; omega) | (simp_all; done) | intro _ | exact zI ?_ ?_ | intro _)))) (Imp.of_eq ?_))
    rfl
  have h3n : l.length ≤ 80 := by have := of_dec' h3; omega
  repeat refine S.seq ?_
  refine S.region ?_
  (refine L.go (T := tt) tt_ok rfl rfl ?sd32 ?_; (try (case sd32 => (repeat' ((first | first | exact trivial | exact zA | with_reducible refine zI ?_ ?_ | exact zB | exact zC | exact zD | exact zE | rfl | exact zN rfl | omega | assumption | (simp; done) | (simp [splice]; done) | (simp; omega) | (unfold fits; omega) | (unfold fits; simp_all; omega) | (simp_all; omega) | (simp_all; done) | intro _ | exact zI ?_ ?_ | intro _))))); try (refine L.nil ?_))
  refine L.box 50 rfl rfl rfl rfl rfl trivial rfl fun b6 => ?_
  (refine L.go (T := tt) tt_ok rfl rfl ?sd33 ?_; (try (case sd33 => (repeat' ((first | first | exact trivial | exact zA | with_reducible refine zI ?_ ?_ | exact zB | exact zC | exact zD | exact zE | rfl | exact zN rfl | omega | assumption | (simp; done) | (simp [splice]; done) | (simp; omega) | (unfold fits; omega) | (unfold fits; simp_all; omega) | (simp_all; omega) | (simp_all; done) | intro _ | exact zI ?_ ?_ | intro _))))); try (refine L.nil ?_))
  refine nilRow 51 39 2 (gOf OutD.cells []) ?_
  refine nilRow 52 88 3 (gOf Mark.cells []) ?_
  refine blkAs 50 [.v (.int .i64 pub), .ref 51 (.slice none 0 0), .ref 52 (.slice none 0 0)] rfl ⟨Imp.refl _, Imp.vref rfl, Imp.vref rfl, trivial⟩ ?_
  ((repeat refine S.seq ?_); refine S.region (L.go (T := tt) tt_ok rfl rfl ?sd16 ?_); (try (case sd16 => (repeat' ((first | first | exact trivial | exact zA | with_reducible refine zI ?_ ?_ | exact zB | exact zC | exact zD | exact zE | rfl | exact zN rfl | omega | assumption | (simp; done) | (simp [splice]; done) | (simp; omega) | (unfold fits; omega) | (unfold fits; simp_all; omega) | (simp_all; omega) | (simp_all; done) | intro _ | exact zI ?_ ?_ | intro _))))); try (refine L.nil ?_))
  repeat refine S.seq ?_
  refine S.block (S.loop (ι := { q : (Nat × AuD × List Mark) × Value × Value × Value // q.1.1 ≤ l.length ∧ PlInv q.1.1 q.1.2.1 q.1.2.2 }) (fun q => [(1, opsA l), (5, .ptr 40 b 0), (6, .ptr 50 b6 0), (7, .v (.int .i64 q.1.1.1))])
    (fun q => auR b mb q.1.2.1 q.1.1.2.1 ++ raR b6 q.1.2.2.1 q.1.2.2.2 q.1.1.2.1 q.1.1.2.2) (fun q => l.length - q.1.1.1) ?_ ?_)
  · exact fun a w h => ⟨⟨((0, ⟨pub, [], []⟩, []), .slice none 0 0, .slice none 0 0, .slice none 0 0), Nat.zero_le _, ⟨AuOk.nil pub, fun q c => by simp [lastSeq], fun q c => by simp [cN, cAt, pidx, lastSeq], Nat.le_refl _⟩⟩, h.weakP (by (repeat' (first | exact True.intro | exact Imp.refl _ | refine ⟨?_, ?_⟩))) (by first | (unfold auR raR; (repeat (first | exact Sub.refl _ | refine Sub.pick (by first | exact p0 | exact pS p0 | exact pS (pS p0) | exact pS (pS (pS p0)) | exact pS (pS (pS (pS p0))) | exact pS (pS (pS (pS (pS p0))))) ?_))) | (repeat (first | exact Sub.refl _ | refine Sub.pick (by first | exact p0 | exact pS p0 | exact pS (pS p0) | exact pS (pS (pS p0)) | exact pS (pS (pS (pS p0))) | exact pS (pS (pS (pS (pS p0))))) ?_)))⟩
  rintro ⟨⟨⟨k, A, cs⟩, x, xl, xc⟩, hk, hv⟩
  dsimp only at hk hv ⊢
  have hcl := hv.len
  have hAl := hv.ok.len
  unfold auR raR
  ((repeat refine S.seq ?_); refine S.region (L.go (T := tt) tt_ok rfl rfl ?sd17 ?_); (try (case sd17 => (repeat' ((first | first | exact trivial | exact zA | with_reducible refine zI ?_ ?_ | exact zB | exact zC | exact zD | exact zE | rfl | exact zN rfl | omega | assumption | (simp; done) | (simp [splice]; done) | (simp; omega) | (unfold fits; omega) | (unfold fits; simp_all; omega) | (simp_all; omega) | (simp_all; done) | intro _ | exact zI ?_ ?_ | intro _))))); try (refine L.nil ?_))
  ((repeat refine S.seq ?_); refine S.cond rfl (fun h4 => ?_) (fun h4 => ?_) <;> (try first | refine S.skip ?_ | refine S.exit ?_))
  · have h4n : k < l.length := by have := of_dec h4; omega
    have hok := hl (l.getD k default) (by rw [getD_get h4n]; exact List.getElem_mem _)
    obtain ⟨o, ho⟩ : ∃ o, o = l.getD k default := ⟨_, rfl⟩
    rw [← ho] at hok
    have hkd := tmod_bd o.kind 4 (by decide)
    repeat refine S.seq ?_
    refine S.block ?_
    ((repeat refine S.seq ?_); refine S.region (L.go (T := tt) tt_ok rfl rfl ?sd18 ?_); (try (case sd18 => (repeat' ((first | first | exact trivial | exact zA | with_reducible refine zI ?_ ?_ | exact zB | exact zC | exact zD | exact zE | rfl | exact zN rfl | omega | assumption | (simp; done) | (simp [splice]; done) | (simp; omega) | (unfold fits; omega) | (unfold fits; simp_all; omega) | (simp_all; omega) | (simp_all; done) | intro _ | exact zI ?_ ?_ | intro _))))); try (refine L.nil ?_))
    refine L.alloc (T := tt) 70 tt_ok rfl rfl rfl rfl rfl fun b8 => ?_
    (refine L.store (T := tt) tt_ok rfl rfl rfl rfl rfl rfl ?sd39 ?_; (try (case sd39 => (repeat' ((first | first | exact trivial | exact zA | with_reducible refine zI ?_ ?_ | exact zB | exact zC | exact zD | exact zE | rfl | exact zN rfl | omega | assumption | (simp; done) | (simp [splice]; done) | (simp; omega) | (unfold fits; omega) | (unfold fits; simp_all; omega) | (simp_all; omega) | (simp_all; done) | intro _ | exact zI ?_ ?_ | intro _))))))
    refine L.nil ?_
    refine blkAs 70 o.cells rfl (by rw [ho]; exact Imps.refl _) ?_
    refine freezeBlk 8 70 rfl rfl rfl ?_
    ((repeat refine S.seq ?_); refine S.region (L.go (T := tt) tt_ok rfl rfl ?sd19 ?_); (try (case sd19 => (repeat' ((first | first | exact trivial | exact zA | with_reducible refine zI ?_ ?_ | exact zB | exact zC | exact zD | exact zE | rfl | exact zN rfl | omega | assumption | (simp; done) | (simp [splice]; done) | (simp; omega) | (unfold fits; omega) | (unfold fits; simp_all; omega) | (simp_all; omega) | (simp_all; done) | intro _ | exact zI ?_ ?_ | intro _))))); try (refine L.nil ?_))
    ((repeat refine S.seq ?_); refine S.cond rfl (fun h5 => ?_) (fun h5 => ?_) <;> (try first | refine S.skip ?_ | refine S.exit ?_))
    · repeat refine S.seq ?_
      refine S.region ?_
      refine L.callP rfl rfl rfl rfl rfl rfl rfl ⟨trivial, by (repeat' ((first | first | exact trivial | exact zA | with_reducible refine zI ?_ ?_ | exact zB | exact zC | exact zD | exact zE | rfl | exact zN rfl | omega | assumption | (simp; done) | (simp [splice]; done) | (simp; omega) | (unfold fits; omega) | (unfold fits; simp_all; omega) | (simp_all; omega) | (simp_all; done) | intro _ | exact zI ?_ ?_ | intro _)))⟩ rfl (Imps.refl _) told20_p ?_
      (refine L.go (T := tt) tt_ok rfl rfl ?sd34 ?_; (try (case sd34 => (repeat' ((first | first | exact trivial | exact zA | with_reducible refine zI ?_ ?_ | exact zB | exact zC | exact zD | exact zE | rfl | exact zN rfl | omega | assumption | (simp; done) | (simp [splice]; done) | (simp; omega) | (unfold fits; omega) | (unfold fits; simp_all; omega) | (simp_all; omega) | (simp_all; done) | intro _ | exact zI ?_ ?_ | intro _))))); try (refine L.nil ?_))
      (((repeat refine S.seq ?_); refine S.ret ?_); refine E.retP (T := tt) tt_ok rfl rfl (by (repeat' ((first | first | exact trivial | exact zA | with_reducible refine zI ?_ ?_ | exact zB | exact zC | exact zD | exact zE | rfl | exact zN rfl | omega | assumption | (simp; done) | (simp [splice]; done) | (simp; omega) | (unfold fits; omega) | (unfold fits; simp_all; omega) | (simp_all; omega) | (simp_all; done) | intro _ | exact zI ?_ ?_ | intro _)))) (Imp.of_eq ?_))
      rfl
    have hbs : o.body.size ≤ 1000 := by have := of_dec' h5; omega
    obtain ⟨Q, hQ⟩ : ∃ Q, Q = nextO A.l A.l.length := ⟨_, rfl⟩
    have hQm : ∀ o ∈ Q, o ∈ A.l := by rw [hQ]; exact nextO_mem
    have hQl : Q.length ≤ 16 := by rw [hQ]; unfold nextO; rw [List.length_map, List.length_take]; have := plcL_len A.l A.l.length; omega
    repeat refine S.seq ?_
    refine S.region ?_
    (refine L.go (T := tt) tt_ok rfl rfl ?sd35 ?_; (try (case sd35 => (repeat' ((first | first | exact trivial | exact zA | with_reducible refine zI ?_ ?_ | exact zB | exact zC | exact zD | exact zE | rfl | exact zN rfl | omega | assumption | (simp; done) | (simp [splice]; done) | (simp; omega) | (unfold fits; omega) | (unfold fits; simp_all; omega) | (simp_all; omega) | (simp_all; done) | intro _ | exact zI ?_ ?_ | intro _))))); try (refine L.nil ?_))
    refine L.call (G := raR b6 xl xc A cs) (H := auR b mb x A) rfl rfl rfl rfl rfl rfl rfl ⟨trivial, by (repeat' ((first | first | exact trivial | exact zA | with_reducible refine zI ?_ ?_ | exact zB | exact zC | exact zD | exact zE | rfl | exact zN rfl | omega | assumption | (simp; done) | (simp [splice]; done) | (simp; omega) | (unfold fits; omega) | (unfold fits; simp_all; omega) | (simp_all; omega) | (simp_all; done) | intro _ | exact zI ?_ ?_ | intro _)))⟩ rfl (by exact Imps.refl _) (by unfold auR raR; (repeat (first | exact pick0 | refine pickS (by first | exact p0 | exact pS p0 | exact pS (pS p0) | exact pS (pS (pS p0)) | exact pS (pS (pS (pS p0))) | exact pS (pS (pS (pS (pS p0)))) | exact pS (pS (pS (pS (pS (pS p0)))))) ?_))) (rnext_p b6 xl xc A cs hv.ok) ?_
    rintro r F' ⟨y56, rfl, rfl⟩
    rw [← hQ]
    refine freezeSlot 56 56 rfl rfl rfl ?_
    (refine L.go (T := tt) tt_ok rfl rfl ?sd36 ?_; (try (case sd36 => (repeat' ((first | first | exact trivial | exact zA | with_reducible refine zI ?_ ?_ | exact zB | exact zC | exact zD | exact zE | rfl | exact zN rfl | omega | assumption | (simp; done) | (simp [splice]; done) | (simp; omega) | (unfold fits; omega) | (unfold fits; simp_all; omega) | (simp_all; omega) | (simp_all; done) | intro _ | exact zI ?_ ?_ | intro _))))); try (refine L.nil ?_))
    ((repeat refine S.seq ?_); refine S.region (L.go (T := tt) tt_ok rfl rfl ?sd20 ?_); (try (case sd20 => (repeat' ((first | first | exact trivial | exact zA | with_reducible refine zI ?_ ?_ | exact zB | exact zC | exact zD | exact zE | rfl | exact zN rfl | omega | assumption | (simp; done) | (simp [splice]; done) | (simp; omega) | (unfold fits; omega) | (unfold fits; simp_all; omega) | (simp_all; omega) | (simp_all; done) | intro _ | exact zI ?_ ?_ | intro _))))); try (refine L.nil ?_))
    obtain ⟨K, hK⟩ : ∃ K, K = (o.kind.tmod 4 + 4).tmod 4 := ⟨_, rfl⟩
    refine slotAs 10 (.v (.int .i64 K)) rfl (Imp.of_eq (by rw [hK])) ?_
    repeat refine S.seq ?_
    refine S.cut (ι := { q : (AuD × List Mark) × Value × Value × Value // PlInv (k + 1) q.1.1 q.1.2 }) (fun q => [(1, opsA l), (5, .ptr 40 b 0), (6, .ptr 50 b6 0), (7, .v (.int .i64 k))])
      (fun q => auR b mb q.1.2.1 q.1.1.1 ++ raR b6 q.1.2.2.1 q.1.2.2.2 q.1.1.1 q.1.1.2) ?_ ?_
    · refine S.block ?_
      ((repeat refine S.seq ?_); refine S.region (L.go (T := tt) tt_ok rfl rfl ?sd21 ?_); (try (case sd21 => (repeat' ((first | first | exact trivial | exact zA | with_reducible refine zI ?_ ?_ | exact zB | exact zC | exact zD | exact zE | rfl | exact zN rfl | omega | assumption | (simp; done) | (simp [splice]; done) | (simp; omega) | (unfold fits; omega) | (unfold fits; simp_all; omega) | (simp_all; omega) | (simp_all; done) | intro _ | exact zI ?_ ?_ | intro _))))); try (refine L.nil ?_))
      ((repeat refine S.seq ?_); refine S.cond rfl (fun h6 => ?_) (fun h6 => ?_) <;> (try first | refine S.skip ?_ | refine S.exit ?_))
      · have hkey : fitS (keyN (kE o.key)) := by have := keyN_size (kE o.key); unfold fitS; omega
        obtain ⟨s1, s2⟩ := pub_same (A := A) (cs := cs) hv.ok hv.cnt o.queue (keyN (kE o.key)) o.body o.many
        have hcn := hv.cnt o.queue (keyN (kE o.key))
        have hsq := hv.ok.seq o.queue (keyN (kE o.key))
        repeat refine S.seq ?_
        refine S.draw [] mixed ?_
        (refine H.ts (T := tt) [0, 1, 2, 3, 4, 6, 7, 8, 9] tt_ok (by kernel_rfl) (by kernel_rfl) (by kernel_rfl) (by intro ch a a' w h; obtain ⟨_, _, _, _, _, h, _⟩ := h; cases h) rfl ?sd43 ?_; (try (case sd43 => (repeat' ((first | first | exact trivial | exact zA | with_reducible refine zI ?_ ?_ | exact zB | exact zC | exact zD | exact zE | rfl | exact zN rfl | omega | assumption | (simp; done) | (simp [splice]; done) | (simp; omega) | (unfold fits; omega) | (unfold fits; simp_all; omega) | (simp_all; omega) | (simp_all; done) | intro _ | exact zI ?_ ?_ | intro _))))))
        refine H.callP 5 rfl (by kernel_rfl) (by kernel_rfl) rfl rfl rfl rfl rfl rfl rfl ⟨trivial, by (repeat' ((first | first | exact trivial | exact zA | with_reducible refine zI ?_ ?_ | exact zB | exact zC | exact zD | exact zE | rfl | exact zN rfl | omega | assumption | (simp; done) | (simp [splice]; done) | (simp; omega) | (unfold fits; omega) | (unfold fits; simp_all; omega) | (simp_all; omega) | (simp_all; done) | intro _ | exact zI ?_ ?_ | intro _)))⟩ rfl (by exact Imps.refl _) ((key_p o.key)) ?_
        refine H.rebase ?_
        refine H.call 10 (auR b mb x A) (raR b6 xl xc A cs) rfl (by kernel_rfl) (by kernel_rfl) rfl rfl rfl rfl rfl rfl rfl ⟨trivial, by (repeat' ((first | first | exact trivial | exact zA | with_reducible refine zI ?_ ?_ | exact zB | exact zC | exact zD | exact zE | rfl | exact zN rfl | omega | assumption | (simp; done) | (simp [splice]; done) | (simp; omega) | (unfold fits; omega) | (unfold fits; simp_all; omega) | (simp_all; omega) | (simp_all; done) | intro _ | exact zI ?_ ?_ | intro _)))⟩ rfl (by exact Imps.refl _) (by unfold auR raR; (repeat (first | exact pick0 | refine pickS (by first | exact p0 | exact pS p0 | exact pS (pS p0) | exact pS (pS (pS p0)) | exact pS (pS (pS (pS p0))) | exact pS (pS (pS (pS (pS p0)))) | exact pS (pS (pS (pS (pS (pS p0)))))) ?_))) (publish_p b mb x A o.queue (keyN (kE o.key)) o.body o.many hv.ok hkey hbs) (by kernel_rfl) (by kernel_rfl) ?_
        rintro r F' ⟨x1, rfl, rfl⟩
        refine H.rebase ?_
        (refine H.ts (T := tt) [11, 12, 13, 14, 15] tt_ok (by kernel_rfl) (by kernel_rfl) (by kernel_rfl) (by intro ch a a' w h; obtain ⟨_, _, _, _, _, h, _⟩ := h; cases h) rfl ?sd44 ?_; (try (case sd44 => (repeat' ((first | first | exact trivial | exact zA | with_reducible refine zI ?_ ?_ | exact zB | exact zC | exact zD | exact zE | rfl | exact zN rfl | omega | assumption | (simp; done) | (simp [splice]; done) | (simp; omega) | (unfold fits; omega) | (unfold fits; simp_all; omega) | (simp_all; omega) | (simp_all; done) | intro _ | exact zI ?_ ?_ | intro _))))))
        refine H.done (by kernel_rfl) ?_
        repeat refine S.seq ?_
        refine S.draw [] mixed ?_
        (refine H.ts (T := tt) [0, 1, 2, 3, 4, 6, 7, 8, 9] tt_ok (by kernel_rfl) (by kernel_rfl) (by kernel_rfl) (by intro ch a a' w h; obtain ⟨_, _, _, _, _, h, _⟩ := h; cases h) rfl ?sd45 ?_; (try (case sd45 => (repeat' ((first | first | exact trivial | exact zA | with_reducible refine zI ?_ ?_ | exact zB | exact zC | exact zD | exact zE | rfl | exact zN rfl | omega | assumption | (simp; done) | (simp [splice]; done) | (simp; omega) | (unfold fits; omega) | (unfold fits; simp_all; omega) | (simp_all; omega) | (simp_all; done) | intro _ | exact zI ?_ ?_ | intro _))))))
        refine H.callP 5 rfl (by kernel_rfl) (by kernel_rfl) rfl rfl rfl rfl rfl rfl rfl ⟨trivial, by (repeat' ((first | first | exact trivial | exact zA | with_reducible refine zI ?_ ?_ | exact zB | exact zC | exact zD | exact zE | rfl | exact zN rfl | omega | assumption | (simp; done) | (simp [splice]; done) | (simp; omega) | (unfold fits; omega) | (unfold fits; simp_all; omega) | (simp_all; omega) | (simp_all; done) | intro _ | exact zI ?_ ?_ | intro _)))⟩ rfl (by exact Imps.refl _) ((key_p o.key)) ?_
        refine H.rebase ?_
        refine H.call 10 (raR b6 xl xc A cs) (auR b mb x1 (pubS A o.queue (keyN (kE o.key)) o.body o.many)) rfl (by kernel_rfl) (by kernel_rfl) rfl rfl rfl rfl rfl rfl rfl ⟨trivial, by (repeat' ((first | first | exact trivial | exact zA | with_reducible refine zI ?_ ?_ | exact zB | exact zC | exact zD | exact zE | rfl | exact zN rfl | omega | assumption | (simp; done) | (simp [splice]; done) | (simp; omega) | (unfold fits; omega) | (unfold fits; simp_all; omega) | (simp_all; omega) | (simp_all; done) | intro _ | exact zI ?_ ?_ | intro _)))⟩ rfl (by exact Imps.refl _) (by exact List.perm_append_comm) (rpublish_p b6 xl xc A cs o.queue (keyN (kE o.key)) o.body o.many hv.ok hbs (by omega) (by rw [hcn]; exact hsq)) (by kernel_rfl) (by kernel_rfl) ?_
        rintro r F' (⟨hE, rfl, rfl⟩ | ⟨hE, xl1, xc1, rfl, rfl⟩)
        · have hE2 : pubE A o.queue (keyN (kE o.key)) o.body o.many ≠ 0 := by rw [s1]; exact hE
          rw [pubS_no hE2, if_neg hE2, s1]
          refine H.rebase ?_
          (refine H.ts (T := tt) [11, 12, 13, 14, 15] tt_ok (by kernel_rfl) (by kernel_rfl) (by kernel_rfl) (by intro ch a a' w h; obtain ⟨_, _, _, _, _, h, _⟩ := h; cases h) rfl ?sd46 ?_; (try (case sd46 => (repeat' ((first | first | exact trivial | exact zA | with_reducible refine zI ?_ ?_ | exact zB | exact zC | exact zD | exact zE | rfl | exact zN rfl | omega | assumption | (simp; done) | (simp [splice]; done) | (simp; omega) | (unfold fits; omega) | (unfold fits; simp_all; omega) | (simp_all; omega) | (simp_all; done) | intro _ | exact zI ?_ ?_ | intro _))))))
          refine H.done (by kernel_rfl) ?_
          ((repeat refine S.seq ?_); refine S.region (L.go (T := tt) tt_ok rfl rfl ?sd22 ?_); (try (case sd22 => (repeat' ((first | first | exact trivial | exact zA | with_reducible refine zI ?_ ?_ | exact zB | exact zC | exact zD | exact zE | rfl | exact zN rfl | omega | assumption | (simp; done) | (simp [splice]; done) | (simp; omega) | (unfold fits; omega) | (unfold fits; simp_all; omega) | (simp_all; omega) | (simp_all; done) | intro _ | exact zI ?_ ?_ | intro _))))); try (refine L.nil ?_))
          ((repeat refine S.seq ?_); refine S.cond rfl (fun h7 => ?_) (fun h7 => ?_) <;> (try first | refine S.skip ?_ | refine S.exit ?_))
          · exfalso
            simp at h7
          exact fun a w h => ⟨⟨((A, cs), x1, xl, xc), hv.stay⟩, h.weakP (by (repeat' (first | exact True.intro | exact Imp.refl _ | refine ⟨?_, ?_⟩))) (by first | (unfold auR raR; (repeat (first | exact Sub.refl _ | refine Sub.pick (by first | exact p0 | exact pS p0 | exact pS (pS p0) | exact pS (pS (pS p0)) | exact pS (pS (pS (pS p0))) | exact pS (pS (pS (pS (pS p0))))) ?_))) | (repeat (first | exact Sub.refl _ | refine Sub.pick (by first | exact p0 | exact pS p0 | exact pS (pS p0) | exact pS (pS (pS p0)) | exact pS (pS (pS (pS p0))) | exact pS (pS (pS (pS (pS p0))))) ?_)))⟩
        · have hE2 : pubE A o.queue (keyN (kE o.key)) o.body o.many = 0 := by rw [s1]; exact hE
          have hin := hv.pub (by omega) o.queue hkey o.body o.many hE2
          rw [if_pos hE2, hE2, s2, hcn]
          refine H.rebase ?_
          (refine H.ts (T := tt) [11, 12, 13, 14, 15] tt_ok (by kernel_rfl) (by kernel_rfl) (by kernel_rfl) (by intro ch a a' w h; obtain ⟨_, _, _, _, _, h, _⟩ := h; cases h) rfl ?sd47 ?_; (try (case sd47 => (repeat' ((first | first | exact trivial | exact zA | with_reducible refine zI ?_ ?_ | exact zB | exact zC | exact zD | exact zE | rfl | exact zN rfl | omega | assumption | (simp; done) | (simp [splice]; done) | (simp; omega) | (unfold fits; omega) | (unfold fits; simp_all; omega) | (simp_all; omega) | (simp_all; done) | intro _ | exact zI ?_ ?_ | intro _))))))
          refine H.done (by kernel_rfl) ?_
          ((repeat refine S.seq ?_); refine S.region (L.go (T := tt) tt_ok rfl rfl ?sd23 ?_); (try (case sd23 => (repeat' ((first | first | exact trivial | exact zA | with_reducible refine zI ?_ ?_ | exact zB | exact zC | exact zD | exact zE | rfl | exact zN rfl | omega | assumption | (simp; done) | (simp [splice]; done) | (simp; omega) | (unfold fits; omega) | (unfold fits; simp_all; omega) | (simp_all; omega) | (simp_all; done) | intro _ | exact zI ?_ ?_ | intro _))))); try (refine L.nil ?_))
          ((repeat refine S.seq ?_); refine S.cond rfl (fun h7 => ?_) (fun h7 => ?_) <;> (try first | refine S.skip ?_ | refine S.exit ?_))
          · exfalso
            simp at h7
          have e : pubS A o.queue (keyN (kE o.key)) o.body o.many = ⟨A.pub, A.seqs ++ [⟨o.queue, keyN (kE o.key), lastSeq A.seqs o.queue (keyN (kE o.key)) + o.many⟩], A.l ++ [⟨o.queue, msgsA A o.queue (keyN (kE o.key)) o.body o.many o.many.toNat⟩]⟩ := by rw [pubS, if_pos hE2]
          exact fun a w h => ⟨⟨((pubS A o.queue (keyN (kE o.key)) o.body o.many, cPut cs o.queue (keyN (kE o.key)) o.many), x1, xl1, xc1), hin⟩, by
            dsimp only
            rw [e] at h ⊢
            exact h.weakP (by (repeat' (first | exact True.intro | exact Imp.refl _ | refine ⟨?_, ?_⟩))) (by first | (unfold auR raR; (repeat (first | exact Sub.refl _ | refine Sub.pick (by first | exact p0 | exact pS p0 | exact pS (pS p0) | exact pS (pS (pS p0)) | exact pS (pS (pS (pS p0))) | exact pS (pS (pS (pS (pS p0))))) ?_))) | (repeat (first | exact Sub.refl _ | refine Sub.pick (by first | exact p0 | exact pS p0 | exact pS (pS p0) | exact pS (pS (pS p0)) | exact pS (pS (pS (pS p0))) | exact pS (pS (pS (pS (pS p0))))) ?_)))⟩
      ((repeat refine S.seq ?_); refine S.region (L.go (T := tt) tt_ok rfl rfl ?sd24 ?_); (try (case sd24 => (repeat' ((first | first | exact trivial | exact zA | with_reducible refine zI ?_ ?_ | exact zB | exact zC | exact zD | exact zE | rfl | exact zN rfl | omega | assumption | (simp; done) | (simp [splice]; done) | (simp; omega) | (unfold fits; omega) | (unfold fits; simp_all; omega) | (simp_all; omega) | (simp_all; done) | intro _ | exact zI ?_ ?_ | intro _))))); try (refine L.nil ?_))
      ((repeat refine S.seq ?_); refine S.cond rfl (fun h7 => ?_) (fun h7 => ?_) <;> (try first | refine S.skip ?_ | refine S.exit ?_))
      · have hQ0 : 0 < Q.length := by
          have : (K == 2 && decide ((Q.length : Int) > 0)) = true := h7
          rw [Bool.and_eq_true, decide_eq_true_eq] at this
          omega
        have hwl : IntKind.u64.wrap (Q.length : Int) = (Q.length : Int) := by
          have : IntKind.u64.wrap (Q.length : Int) = (Q.length : Int) % 18446744073709551616 := rfl
          rw [this]; omega
        obtain ⟨J, hJ, hJe⟩ := umod o.n (Q.length : Int) (by omega) (by omega)
        obtain ⟨C, hC, hCe⟩ := umod o.code 7 (by decide) (by decide)
        have hJl : J < Q.length := by omega
        obtain ⟨B, hB⟩ : ∃ B, B = Q.getD J default := ⟨_, rfl⟩
        obtain ⟨o1, o2, o3, o4⟩ := hv.ok.some1 B (hQm B (by rw [hB, getD_get hJl]; exact List.getElem_mem _))
        have hJe2 : IntKind.i64.wrap ((IntKind.u64.wrap o.n).tmod (IntKind.u64.wrap (Q.length : Int))) = J := by rw [hwl]; exact hJe
        have hBi : B = Q.getD (IntKind.i64.wrap ((IntKind.u64.wrap o.n).tmod (IntKind.u64.wrap (Q.length : Int)))).toNat default := by rw [hJe2, Int.toNat_natCast]; exact hB
        obtain ⟨cc, hcc⟩ : ∃ cc, cc = codes2.getD C default := ⟨_, rfl⟩
        obtain ⟨t1, t2⟩ := told_same A B.queue B.key0 (lastM B).seq cc
        repeat refine S.seq ?_
        refine S.region ?_
        (refine L.go (T := tt) tt_ok rfl rfl ?sd37 ?_; (try (case sd37 => (repeat' ((first | first | exact trivial | exact zA | with_reducible refine zI ?_ ?_ | exact zB | exact zC | exact zD | exact zE | rfl | exact zN rfl | omega | assumption | (simp; done) | (simp [splice]; done) | (simp; omega) | (unfold fits; omega) | (unfold fits; simp_all; omega) | (simp_all; omega) | (simp_all; done) | intro _ | exact zI ?_ ?_ | intro _))))); try (refine L.nil ?_))
        refine L.alloc (T := tt) 71 tt_ok rfl rfl rfl rfl rfl fun b15 => ?_
        (refine L.store (T := tt) tt_ok rfl rfl rfl rfl rfl rfl ?sd40 ?_; (try (case sd40 => (repeat' ((first | first | exact trivial | exact zA | with_reducible refine zI ?_ ?_ | exact zB | exact zC | exact zD | exact zE | rfl | exact zN rfl | omega | assumption | (simp; done) | (simp [splice]; done) | (simp; omega) | (unfold fits; omega) | (unfold fits; simp_all; omega) | (simp_all; omega) | (simp_all; done) | intro _ | exact zI ?_ ?_ | intro _))))))
        refine L.nil ?_
        refine blkAs 71 B.cells rfl (by rw [hBi]; exact Imps.refl _) ?_
        refine freezeBlk 15 71 rfl rfl rfl ?_
        repeat refine S.seq ?_
        refine S.draw [] mixed ?_
        (refine H.ts (T := tt) [0, 1, 2, 3, 4, 5, 6, 7, 8, 10, 11, 12, 13, 14, 17] tt_ok (by kernel_rfl) (by kernel_rfl) (by kernel_rfl) (by intro ch a a' w h; obtain ⟨_, _, _, _, _, h, _⟩ := h; cases h) rfl ?sd48 ?_; (try (case sd48 => (repeat' ((first | first | exact trivial | exact zA | with_reducible refine zI ?_ ?_ | exact zB | exact zC | exact zD | exact zE | rfl | exact zN rfl | omega | assumption | (simp; done) | (simp [splice]; done) | (simp; omega) | (unfold fits; omega) | (unfold fits; simp_all; omega) | (simp_all; omega) | (simp_all; done) | intro _ | exact zI ?_ ?_ | intro _))))))
        refine H.o1 9 rfl (by kernel_rfl) (by kernel_rfl) (O.buildSlice (T := tt) 60 tt_ok rfl rfl rfl rfl rfl rfl (by decide) (by decide) rfl rfl (by (repeat' ((first | first | exact trivial | exact zA | with_reducible refine zI ?_ ?_ | exact zB | exact zC | exact zD | exact zE | rfl | exact zN rfl | omega | assumption | (simp; done) | (simp [splice]; done) | (simp; omega) | (unfold fits; omega) | (unfold fits; simp_all; omega) | (simp_all; omega) | (simp_all; done) | intro _ | exact zI ?_ ?_ | intro _))))) (.inr rfl) rfl fun x152 => ?_
        refine H.freeze 152 60 rfl rfl rfl rfl ?_
        refine H.tell 152 (.lst 1 7 (gOf intC codes2)) rfl (Imp.lst rfl (lit7 codes2 _ _ _ _ _ _ _ rfl)) ?_
        (refine H.ts (T := tt) [15, 16, 18] tt_ok (by kernel_rfl) (by kernel_rfl) (by kernel_rfl) (by intro ch a a' w h; obtain ⟨_, _, _, _, _, h, _⟩ := h; cases h) rfl ?sd49 ?_; (try (case sd49 => (repeat' ((first | first | exact trivial | exact zA | with_reducible refine zI ?_ ?_ | exact zB | exact zC | exact zD | exact zE | rfl | exact zN rfl | omega | assumption | (simp; done) | (simp [splice]; done) | (simp; omega) | (unfold fits; omega) | (unfold fits; simp_all; omega) | (simp_all; omega) | (simp_all; done) | intro _ | exact zI ?_ ?_ | intro _))))))
        refine H.done (by kernel_rfl) ?_
        refine slotAs 17 (.v (.int .i64 cc)) rfl (Imp.of_eq (by rw [hcc, hCe]; rfl)) ?_
        refine slotAs 16 (.v (.int .i64 (lastM B).seq)) rfl (Imp.refl _) ?_
        repeat refine S.seq ?_
        refine S.draw [] mixed ?_
        (refine H.ts (T := tt) [0, 1, 2, 3, 4, 5, 6, 7, 8, 9, 11, 12, 13, 14, 15, 16, 17, 18, 19, 20] tt_ok (by kernel_rfl) (by kernel_rfl) (by kernel_rfl) (by intro ch a a' w h; obtain ⟨_, _, _, _, _, h, _⟩ := h; cases h) rfl ?sd50 ?_; (try (case sd50 => (repeat' ((first | first | exact trivial | exact zA | with_reducible refine zI ?_ ?_ | exact zB | exact zC | exact zD | exact zE | rfl | exact zN rfl | omega | assumption | (simp; done) | (simp [splice]; done) | (simp; omega) | (unfold fits; omega) | (unfold fits; simp_all; omega) | (simp_all; omega) | (simp_all; done) | intro _ | exact zI ?_ ?_ | intro _))))))
        refine H.call 10 (auR b mb x A) (raR b6 xl xc A cs) rfl (by kernel_rfl) (by kernel_rfl) rfl rfl rfl rfl rfl rfl rfl ⟨trivial, by (repeat' ((first | first | exact trivial | exact zA | with_reducible refine zI ?_ ?_ | exact zB | exact zC | exact zD | exact zE | rfl | exact zN rfl | omega | assumption | (simp; done) | (simp [splice]; done) | (simp; omega) | (unfold fits; omega) | (unfold fits; simp_all; omega) | (simp_all; omega) | (simp_all; done) | intro _ | exact zI ?_ ?_ | intro _)))⟩ rfl (by exact Imps.refl _) (by unfold auR raR; (repeat (first | exact pick0 | refine pickS (by first | exact p0 | exact pS p0 | exact pS (pS p0) | exact pS (pS (pS p0)) | exact pS (pS (pS (pS p0))) | exact pS (pS (pS (pS (pS p0)))) | exact pS (pS (pS (pS (pS (pS p0)))))) ?_))) (told_p b mb x A B.queue B.key0 (lastM B).seq cc hv.ok) (by kernel_rfl) (by kernel_rfl) ?_
        rintro r F' ⟨x1, rfl, rfl⟩
        refine H.rebase ?_
        refine H.call 21 (raR b6 xl xc A cs) (auR b mb x1 (toldS A B.queue B.key0 (lastM B).seq cc)) rfl (by kernel_rfl) (by kernel_rfl) rfl rfl rfl rfl rfl rfl rfl ⟨trivial, by (repeat' ((first | first | exact trivial | exact zA | with_reducible refine zI ?_ ?_ | exact zB | exact zC | exact zD | exact zE | rfl | exact zN rfl | omega | assumption | (simp; done) | (simp [splice]; done) | (simp; omega) | (unfold fits; omega) | (unfold fits; simp_all; omega) | (simp_all; omega) | (simp_all; done) | intro _ | exact zI ?_ ?_ | intro _)))⟩ rfl (by exact Imps.refl _) (by exact List.perm_append_comm) (rtold_p b6 xl xc A cs B.queue B.key0 (lastM B).seq cc hv.ok) (by kernel_rfl) (by kernel_rfl) ?_
        rintro r F' ⟨xl1, rfl, rfl⟩
        rw [t1, ← t2]
        refine H.rebase ?_
        (refine H.ts (T := tt) [22] tt_ok (by kernel_rfl) (by kernel_rfl) (by kernel_rfl) (by intro ch a a' w h; obtain ⟨_, _, _, _, _, h, _⟩ := h; cases h) rfl ?sd51 ?_; (try (case sd51 => (repeat' ((first | first | exact trivial | exact zA | with_reducible refine zI ?_ ?_ | exact zB | exact zC | exact zD | exact zE | rfl | exact zN rfl | omega | assumption | (simp; done) | (simp [splice]; done) | (simp; omega) | (unfold fits; omega) | (unfold fits; simp_all; omega) | (simp_all; omega) | (simp_all; done) | intro _ | exact zI ?_ ?_ | intro _))))))
        refine H.done (by kernel_rfl) ?_
        ((repeat refine S.seq ?_); refine S.cond rfl (fun h8 => ?_) (fun h8 => ?_) <;> (try first | refine S.skip ?_ | refine S.exit ?_))
        · exfalso
          simp at h8
        exact fun a w h => ⟨⟨((toldS A B.queue B.key0 (lastM B).seq cc, cs), x1, xl1, xc), hv.told _ _ _ _⟩, h.weakP (by (repeat' (first | exact True.intro | exact Imp.refl _ | refine ⟨?_, ?_⟩))) (by first | (unfold auR raR; (repeat (first | exact Sub.refl _ | refine Sub.pick (by first | exact p0 | exact pS p0 | exact pS (pS p0) | exact pS (pS (pS p0)) | exact pS (pS (pS (pS p0))) | exact pS (pS (pS (pS (pS p0))))) ?_))) | (repeat (first | exact Sub.refl _ | refine Sub.pick (by first | exact p0 | exact pS p0 | exact pS (pS p0) | exact pS (pS (pS p0)) | exact pS (pS (pS (pS p0))) | exact pS (pS (pS (pS (pS p0))))) ?_)))⟩
      obtain ⟨t1, t2⟩ := told_same A o.queue (keyN (kE o.key)) o.n o.code
      repeat refine S.seq ?_
      refine S.draw [] mixed ?_
      (refine H.ts (T := tt) [0, 1, 2, 3, 4, 6, 7, 8, 9, 11, 12, 13, 14, 15, 17, 18, 19, 20] tt_ok (by kernel_rfl) (by kernel_rfl) (by kernel_rfl) (by intro ch a a' w h; obtain ⟨_, _, _, _, _, h, _⟩ := h; cases h) rfl ?sd52 ?_; (try (case sd52 => (repeat' ((first | first | exact trivial | exact zA | with_reducible refine zI ?_ ?_ | exact zB | exact zC | exact zD | exact zE | rfl | exact zN rfl | omega | assumption | (simp; done) | (simp [splice]; done) | (simp; omega) | (unfold fits; omega) | (unfold fits; simp_all; omega) | (simp_all; omega) | (simp_all; done) | intro _ | exact zI ?_ ?_ | intro _))))))
      refine H.callP 5 rfl (by kernel_rfl) (by kernel_rfl) rfl rfl rfl rfl rfl rfl rfl ⟨trivial, by (repeat' ((first | first | exact trivial | exact zA | with_reducible refine zI ?_ ?_ | exact zB | exact zC | exact zD | exact zE | rfl | exact zN rfl | omega | assumption | (simp; done) | (simp [splice]; done) | (simp; omega) | (unfold fits; omega) | (unfold fits; simp_all; omega) | (simp_all; omega) | (simp_all; done) | intro _ | exact zI ?_ ?_ | intro _)))⟩ rfl (by exact Imps.refl _) ((key_p o.key)) ?_
      refine H.rebase ?_
      refine H.call 10 (auR b mb x A) (raR b6 xl xc A cs) rfl (by kernel_rfl) (by kernel_rfl) rfl rfl rfl rfl rfl rfl rfl ⟨trivial, by (repeat' ((first | first | exact trivial | exact zA | with_reducible refine zI ?_ ?_ | exact zB | exact zC | exact zD | exact zE | rfl | exact zN rfl | omega | assumption | (simp; done) | (simp [splice]; done) | (simp; omega) | (unfold fits; omega) | (unfold fits; simp_all; omega) | (simp_all; omega) | (simp_all; done) | intro _ | exact zI ?_ ?_ | intro _)))⟩ rfl (by exact Imps.refl _) (by unfold auR raR; (repeat (first | exact pick0 | refine pickS (by first | exact p0 | exact pS p0 | exact pS (pS p0) | exact pS (pS (pS p0)) | exact pS (pS (pS (pS p0))) | exact pS (pS (pS (pS (pS p0)))) | exact pS (pS (pS (pS (pS (pS p0)))))) ?_))) (told_p b mb x A o.queue (keyN (kE o.key)) o.n o.code hv.ok) (by kernel_rfl) (by kernel_rfl) ?_
      rintro r F' ⟨x1, rfl, rfl⟩
      refine H.rebase ?_
      refine H.callP 16 rfl (by kernel_rfl) (by kernel_rfl) rfl rfl rfl rfl rfl rfl rfl ⟨trivial, by (repeat' ((first | first | exact trivial | exact zA | with_reducible refine zI ?_ ?_ | exact zB | exact zC | exact zD | exact zE | rfl | exact zN rfl | omega | assumption | (simp; done) | (simp [splice]; done) | (simp; omega) | (unfold fits; omega) | (unfold fits; simp_all; omega) | (simp_all; omega) | (simp_all; done) | intro _ | exact zI ?_ ?_ | intro _)))⟩ rfl (by exact Imps.refl _) ((key_p o.key)) ?_
      refine H.rebase ?_
      refine H.call 21 (raR b6 xl xc A cs) (auR b mb x1 (toldS A o.queue (keyN (kE o.key)) o.n o.code)) rfl (by kernel_rfl) (by kernel_rfl) rfl rfl rfl rfl rfl rfl rfl ⟨trivial, by (repeat' ((first | first | exact trivial | exact zA | with_reducible refine zI ?_ ?_ | exact zB | exact zC | exact zD | exact zE | rfl | exact zN rfl | omega | assumption | (simp; done) | (simp [splice]; done) | (simp; omega) | (unfold fits; omega) | (unfold fits; simp_all; omega) | (simp_all; omega) | (simp_all; done) | intro _ | exact zI ?_ ?_ | intro _)))⟩ rfl (by exact Imps.refl _) (by exact List.perm_append_comm) (rtold_p b6 xl xc A cs o.queue (keyN (kE o.key)) o.n o.code hv.ok) (by kernel_rfl) (by kernel_rfl) ?_
      rintro r F' ⟨xl1, rfl, rfl⟩
      rw [t1, ← t2]
      refine H.rebase ?_
      (refine H.ts (T := tt) [22] tt_ok (by kernel_rfl) (by kernel_rfl) (by kernel_rfl) (by intro ch a a' w h; obtain ⟨_, _, _, _, _, h, _⟩ := h; cases h) rfl ?sd53 ?_; (try (case sd53 => (repeat' ((first | first | exact trivial | exact zA | with_reducible refine zI ?_ ?_ | exact zB | exact zC | exact zD | exact zE | rfl | exact zN rfl | omega | assumption | (simp; done) | (simp [splice]; done) | (simp; omega) | (unfold fits; omega) | (unfold fits; simp_all; omega) | (simp_all; omega) | (simp_all; done) | intro _ | exact zI ?_ ?_ | intro _))))))
      refine H.done (by kernel_rfl) ?_
      ((repeat refine S.seq ?_); refine S.cond rfl (fun h8 => ?_) (fun h8 => ?_) <;> (try first | refine S.skip ?_ | refine S.exit ?_))
      · exfalso
        simp at h8
      exact fun a w h => ⟨⟨((toldS A o.queue (keyN (kE o.key)) o.n o.code, cs), x1, xl1, xc), hv.told _ _ _ _⟩, h.weakP (by (repeat' (first | exact True.intro | exact Imp.refl _ | refine ⟨?_, ?_⟩))) (by first | (unfold auR raR; (repeat (first | exact Sub.refl _ | refine Sub.pick (by first | exact p0 | exact pS p0 | exact pS (pS p0) | exact pS (pS (pS p0)) | exact pS (pS (pS (pS p0))) | exact pS (pS (pS (pS (pS p0))))) ?_))) | (repeat (first | exact Sub.refl _ | refine Sub.pick (by first | exact p0 | exact pS p0 | exact pS (pS p0) | exact pS (pS (pS p0)) | exact pS (pS (pS (pS p0))) | exact pS (pS (pS (pS (pS p0))))) ?_)))⟩
    rintro ⟨⟨⟨A1, cs1⟩, x1, xl1, xc1⟩, hin⟩
    dsimp only at hin ⊢
    obtain ⟨Q1, hQ1⟩ : ∃ Q, Q = nextO A1.l A1.l.length := ⟨_, rfl⟩
    have hQ1m : ∀ o ∈ Q1, o.l.length ≤ 8 := fun o ho => (hin.ok.some1 o (by rw [hQ1] at ho; exact nextO_mem o ho)).2.1
    unfold auR raR
    repeat refine S.seq ?_
    refine S.draw [] mixed ?_
    (refine H.ts (T := tt) [0, 2] tt_ok (by kernel_rfl) (by kernel_rfl) (by kernel_rfl) (by intro ch a a' w h; obtain ⟨_, _, _, _, _, h, _⟩ := h; cases h) rfl ?sd54 ?_; (try (case sd54 => (repeat' ((first | first | exact trivial | exact zA | with_reducible refine zI ?_ ?_ | exact zB | exact zC | exact zD | exact zE | rfl | exact zN rfl | omega | assumption | (simp; done) | (simp [splice]; done) | (simp; omega) | (unfold fits; omega) | (unfold fits; simp_all; omega) | (simp_all; omega) | (simp_all; done) | intro _ | exact zI ?_ ?_ | intro _))))))
    refine H.call 1 (auR b mb x1 A1) (raR b6 xl1 xc1 A1 cs1) rfl (by kernel_rfl) (by kernel_rfl) rfl rfl rfl rfl rfl rfl rfl ⟨trivial, by (repeat' ((first | first | exact trivial | exact zA | with_reducible refine zI ?_ ?_ | exact zB | exact zC | exact zD | exact zE | rfl | exact zN rfl | omega | assumption | (simp; done) | (simp [splice]; done) | (simp; omega) | (unfold fits; omega) | (unfold fits; simp_all; omega) | (simp_all; omega) | (simp_all; done) | intro _ | exact zI ?_ ?_ | intro _)))⟩ rfl (by exact Imps.refl _) (by unfold auR raR; (repeat (first | exact pick0 | refine pickS (by first | exact p0 | exact pS p0 | exact pS (pS p0) | exact pS (pS (pS p0)) | exact pS (pS (pS (pS p0))) | exact pS (pS (pS (pS (pS p0)))) | exact pS (pS (pS (pS (pS (pS p0)))))) ?_))) (next_p b mb x1 A1 hin.ok) (by kernel_rfl) (by kernel_rfl) ?_
    rintro r F' ⟨y1, rfl, rfl⟩
    rw [← hQ1]
    refine H.freeze 184 46 rfl rfl rfl rfl ?_
    refine H.call 3 (raR b6 xl1 xc1 A1 cs1) (auR b mb x1 A1) rfl (by kernel_rfl) (by kernel_rfl) rfl rfl rfl rfl rfl rfl rfl ⟨trivial, by (repeat' ((first | first | exact trivial | exact zA | with_reducible refine zI ?_ ?_ | exact zB | exact zC | exact zD | exact zE | rfl | exact zN rfl | omega | assumption | (simp; done) | (simp [splice]; done) | (simp; omega) | (unfold fits; omega) | (unfold fits; simp_all; omega) | (simp_all; omega) | (simp_all; done) | intro _ | exact zI ?_ ?_ | intro _)))⟩ rfl (by exact Imps.refl _) (by exact List.perm_append_comm) (rnext_p b6 xl1 xc1 A1 cs1 hin.ok) (by kernel_rfl) (by kernel_rfl) ?_
    rintro r F' ⟨y2, rfl, rfl⟩
    rw [← hQ1]
    refine H.freeze 186 56 rfl rfl rfl rfl ?_
    refine H.callP 4 rfl (by kernel_rfl) (by kernel_rfl) rfl rfl rfl rfl rfl rfl rfl ⟨trivial, by (repeat' ((first | first | exact trivial | exact zA | with_reducible refine zI ?_ ?_ | exact zB | exact zC | exact zD | exact zE | rfl | exact zN rfl | omega | assumption | (simp; done) | (simp [splice]; done) | (simp; omega) | (unfold fits; omega) | (unfold fits; simp_all; omega) | (simp_all; omega) | (simp_all; done) | intro _ | exact zI ?_ ?_ | intro _)))⟩ rfl (by exact Imps.refl _) ((same_p Q1 hQ1m)) ?_
    refine H.rereads [(12, [50])] (fun k x hx => by cases hx) ?_
    (refine H.ts (T := tt) [5, 6, 7, 9, 10, 11, 12, 13] tt_ok (by kernel_rfl) (by kernel_rfl) (by kernel_rfl) (by intro ch a a' w h; obtain ⟨_, _, _, _, _, h, _⟩ := h; cases h) rfl ?sd55 ?_; (try (case sd55 => (repeat' ((first | first | exact trivial | exact zA | with_reducible refine zI ?_ ?_ | exact zB | exact zC | exact zD | exact zE | rfl | exact zN rfl | omega | assumption | (simp; done) | (simp [splice]; done) | (simp; omega) | (unfold fits; omega) | (unfold fits; simp_all; omega) | (simp_all; omega) | (simp_all; done) | intro _ | exact zI ?_ ?_ | intro _))))))
    refine H.o1 8 rfl (by kernel_rfl) (by kernel_rfl) (O.callT (G := auR b mb x1 A1) (H := raR b6 xl1 xc1 A1 cs1) rfl rfl rfl rfl rfl rfl rfl rfl ⟨trivial, by (repeat' ((first | first | exact trivial | exact zA | with_reducible refine zI ?_ ?_ | exact zB | exact zC | exact zD | exact zE | rfl | exact zN rfl | omega | assumption | (simp; done) | (simp [splice]; done) | (simp; omega) | (unfold fits; omega) | (unfold fits; simp_all; omega) | (simp_all; omega) | (simp_all; done) | intro _ | exact zI ?_ ?_ | intro _)))⟩ rfl (by exact Imps.refl _) (by exact List.perm_append_comm) (alen_p b mb x1 A1)) (.inl (by kernel_rfl)) (by kernel_rfl) fun q => ?_
    obtain ⟨⟨r, F'⟩, e1, e2⟩ := q
    dsimp only at e1 e2
    subst e1 e2
    (refine H.ts (T := tt) [14, 15] tt_ok (by kernel_rfl) (by kernel_rfl) (by kernel_rfl) (by intro ch a a' w h; obtain ⟨_, _, _, _, _, h, _⟩ := h; cases h) rfl ?sd56 ?_; (try (case sd56 => (repeat' ((first | first | exact trivial | exact zA | with_reducible refine zI ?_ ?_ | exact zB | exact zC | exact zD | exact zE | rfl | exact zN rfl | omega | assumption | (simp; done) | (simp [splice]; done) | (simp; omega) | (unfold fits; omega) | (unfold fits; simp_all; omega) | (simp_all; omega) | (simp_all; done) | intro _ | exact zI ?_ ?_ | intro _))))))
    refine H.done (by kernel_rfl) ?_
    ((repeat refine S.seq ?_); refine S.cond rfl (fun h6 => ?_) (fun h6 => ?_) <;> (try first | refine S.skip ?_ | refine S.exit ?_))
    · exfalso
      simp at h6
    ((repeat refine S.seq ?_); refine S.region (L.go (T := tt) tt_ok rfl rfl ?sd25 ?_); (try (case sd25 => (repeat' ((first | first | exact trivial | exact zA | with_reducible refine zI ?_ ?_ | exact zB | exact zC | exact zD | exact zE | rfl | exact zN rfl | omega | assumption | (simp; done) | (simp [splice]; done) | (simp; omega) | (unfold fits; omega) | (unfold fits; simp_all; omega) | (simp_all; omega) | (simp_all; done) | intro _ | exact zI ?_ ?_ | intro _))))); try (refine L.nil ?_))
    exact fun a w h => ⟨⟨((k + 1, A1, cs1), x1, xl1, xc1), by show k + 1 ≤ _; omega, hin⟩, by show l.length - (k + 1) < l.length - k; omega, h.weakP (by (repeat' (first | exact True.intro | exact Imp.refl _ | refine ⟨?_, ?_⟩))) (by first | (unfold auR raR; (repeat (first | exact Sub.refl _ | refine Sub.pick (by first | exact p0 | exact pS p0 | exact pS (pS p0) | exact pS (pS (pS p0)) | exact pS (pS (pS (pS p0))) | exact pS (pS (pS (pS (pS p0))))) ?_))) | (repeat (first | exact Sub.refl _ | refine Sub.pick (by first | exact p0 | exact pS p0 | exact pS (pS p0) | exact pS (pS (pS p0)) | exact pS (pS (pS (pS p0))) | exact pS (pS (pS (pS (pS p0))))) ?_)))⟩
  · repeat refine S.seq ?_
    refine S.region ?_
    refine L.callP rfl rfl rfl rfl rfl rfl rfl ⟨trivial, by (repeat' ((first | first | exact trivial | exact zA | with_reducible refine zI ?_ ?_ | exact zB | exact zC | exact zD | exact zE | rfl | exact zN rfl | omega | assumption | (simp; done) | (simp [splice]; done) | (simp; omega) | (unfold fits; omega) | (unfold fits; simp_all; omega) | (simp_all; omega) | (simp_all; done) | intro _ | exact zI ?_ ?_ | intro _)))⟩ rfl (Imps.refl _) told20_p ?_
    (refine L.go (T := tt) tt_ok rfl rfl ?sd38 ?_; (try (case sd38 => (repeat' ((first | first | exact trivial | exact zA | with_reducible refine zI ?_ ?_ | exact zB | exact zC | exact zD | exact zE | rfl | exact zN rfl | omega | assumption | (simp; done) | (simp [splice]; done) | (simp; omega) | (unfold fits; omega) | (unfold fits; simp_all; omega) | (simp_all; omega) | (simp_all; done) | intro _ | exact zI ?_ ?_ | intro _))))); try (refine L.nil ?_))
    (((repeat refine S.seq ?_); refine S.ret ?_); refine E.retP (T := tt) tt_ok rfl rfl (by (repeat' ((first | first | exact trivial | exact zA | with_reducible refine zI ?_ ?_ | exact zB | exact zC | exact zD | exact zE | rfl | exact zN rfl | omega | assumption | (simp; done) | (simp [splice]; done) | (simp; omega) | (unfold fits; omega) | (unfold fits; simp_all; omega) | (simp_all; omega) | (simp_all; done) | intro _ | exact zI ?_ ?_ | intro _)))) (Imp.of_eq ?_))
    rfl

end Go.Proofs.YtfdneepgpekmiaaDoor
