/- Texts of this proof, laid together: PtA, PtB, FltA, PtC. -/
import Derived.Test.YtglmdoghknpgkaaDoorMgC
import GoSem.Dispatch
/- Points: ways, directions, leans, marks. -/
namespace Go.Proofs.YtglmdoghknpgkaaDoor
set_option linter.unusedVariables false
set_option linter.unusedSimpArgs false
set_option maxHeartbeats 8000000
open Go.RowKit
set_option maxRecDepth 4000

theorem wf_u32 {z : Int} (h : (Lit.int .u32 z).wf = true) : 0 ≤ z ∧ z < 4294967296 := by
  have e1 : IntKind.u32.min = 0 := rfl
  have e2 : IntKind.u32.max = 4294967295 := rfl
  simp only [Lit.wf, Bool.and_eq_true, decide_eq_true_eq, e1, e2] at h
  omega

/-- Of a text. -/
def x32 (a b : Int) : Int := IntKind.u32.wrap (BitVec.ofInt IntKind.u32.bits a ^^^ BitVec.ofInt IntKind.u32.bits b).toNat
def ofTo (s : ByteArray) : Nat → Int
  | 0 => 2166136261
  | k + 1 => IntKind.u32.wrap (x32 (ofTo s k) (IntKind.u32.wrap (byteAt s k)) * 16777619)
def ofEnd (h : Int) : Int := IntKind.u32.wrap (x32 h (h.fdiv (2 ^ min (15 : Int).toNat IntKind.u32.bits)) * 2246822519)
def ofP (s : ByteArray) : Int := x32 (ofEnd (ofTo s s.size)) ((ofEnd (ofTo s s.size)).fdiv (2 ^ min (13 : Int).toNat IntKind.u32.bits))

theorem pof_p (s : ByteArray) (hs : fitS s) : PFn Tryd.prog 10 [.v (.string s)] (.v (.int .u32 (ofP s))) := by
  refine FnC.intro Tryd.func10 rfl Tryd.ntmps10 rfl ?_; intro off w0
  ((repeat refine S.seq ?_); refine S.region (L.go (T := tt) tt_ok rfl rfl ?sd1 ?_); (try (case sd1 => (repeat' ((first | first | exact trivial | exact zA | with_reducible refine zI ?_ ?_ | exact zB | exact zC | exact zD | exact zE | rfl | exact zN rfl | omega | assumption | (simp; done) | (simp [splice]; done) | (simp; omega) | (unfold fits; omega) | (unfold fits; simp_all; omega) | (simp_all; omega) | (simp_all; done) | intro _ | exact zI ?_ ?_ | intro _))))); try (refine L.nil ?_))
  repeat refine S.seq ?_
  refine S.scopeE 0 (ι := { k : Nat // k ≤ s.size }) (fun k => [(0, .v (.string s)), (3, .v (.int .u32 (ofTo s k.1))), (4, .v (.int .i64 k.1))])
    (fun k => []) (fun k => s.size - k.1) rfl ?_ ?_
  · rintro ⟨k, hk⟩ J hJ
    dsimp only at hJ ⊢
    ((repeat refine S.seq ?_); refine S.region (L.go (T := tt) tt_ok rfl rfl ?sd2 ?_); (try (case sd2 => (repeat' ((first | first | exact trivial | exact zA | with_reducible refine zI ?_ ?_ | exact zB | exact zC | exact zD | exact zE | rfl | exact zN rfl | omega | assumption | (simp; done) | (simp [splice]; done) | (simp; omega) | (unfold fits; omega) | (unfold fits; simp_all; omega) | (simp_all; omega) | (simp_all; done) | intro _ | exact zI ?_ ?_ | intro _))))); try (refine L.nil ?_))
    ((repeat refine S.seq ?_); refine S.cond rfl (fun h1 => ?_) (fun h1 => ?_) <;> (try first | refine S.skip ?_ | refine S.exit ?_))
    · have h1n : k < s.size := by
        simp only [decide_eq_true_eq] at h1
        omega
      unfold fitS at hs
      ((repeat refine S.seq ?_); refine S.region (L.go (T := tt) tt_ok rfl rfl ?sd3 ?_); (try (case sd3 => (repeat' ((first | first | exact trivial | exact zA | with_reducible refine zI ?_ ?_ | exact zB | exact zC | exact zD | exact zE | rfl | exact zN rfl | omega | assumption | (simp; done) | (simp [splice]; done) | (simp; omega) | (unfold fits; omega) | (unfold fits; simp_all; omega) | (simp_all; omega) | (simp_all; done) | intro _ | exact zI ?_ ?_ | intro _))))); try (refine L.nil ?_))
      ((repeat refine S.seq ?_); refine S.region (L.go (T := tt) tt_ok rfl rfl ?sd4 ?_); (try (case sd4 => (repeat' ((first | first | exact trivial | exact zA | with_reducible refine zI ?_ ?_ | exact zB | exact zC | exact zD | exact zE | rfl | exact zN rfl | omega | assumption | (simp; done) | (simp [splice]; done) | (simp; omega) | (unfold fits; omega) | (unfold fits; simp_all; omega) | (simp_all; omega) | (simp_all; done) | intro _ | exact zI ?_ ?_ | intro _))))); try (refine L.nil ?_))
      repeat refine S.seq ?_
      refine S.goto ?_
      exact fun a w hR => ⟨rfl, hJ a w ⟨k + 1, by omega⟩ (by simp only; omega) (hR.weak (by (repeat' (first | exact True.intro | exact Imp.refl _ | refine ⟨?_, ?_⟩))) (by (repeat (first | exact List.nil_sublist _ | refine List.Sublist.cons_cons _ ?_ | refine List.Sublist.cons _ ?_))))⟩
    have hk0 : k = s.size := by
      simp only [decide_eq_false_iff_not] at h1
      omega
    subst hk0
    ((repeat refine S.seq ?_); refine S.region (L.go (T := tt) tt_ok rfl rfl ?sd5 ?_); (try (case sd5 => (repeat' ((first | first | exact trivial | exact zA | with_reducible refine zI ?_ ?_ | exact zB | exact zC | exact zD | exact zE | rfl | exact zN rfl | omega | assumption | (simp; done) | (simp [splice]; done) | (simp; omega) | (unfold fits; omega) | (unfold fits; simp_all; omega) | (simp_all; omega) | (simp_all; done) | intro _ | exact zI ?_ ?_ | intro _))))); try (refine L.nil ?_))
    ((repeat refine S.seq ?_); refine S.region (L.go (T := tt) tt_ok rfl rfl ?sd6 ?_); (try (case sd6 => (repeat' ((first | first | exact trivial | exact zA | with_reducible refine zI ?_ ?_ | exact zB | exact zC | exact zD | exact zE | rfl | exact zN rfl | omega | assumption | (simp; done) | (simp [splice]; done) | (simp; omega) | (unfold fits; omega) | (unfold fits; simp_all; omega) | (simp_all; omega) | (simp_all; done) | intro _ | exact zI ?_ ?_ | intro _))))); try (refine L.nil ?_))
    ((repeat refine S.seq ?_); refine S.region (L.go (T := tt) tt_ok rfl rfl ?sd7 ?_); (try (case sd7 => (repeat' ((first | first | exact trivial | exact zA | with_reducible refine zI ?_ ?_ | exact zB | exact zC | exact zD | exact zE | rfl | exact zN rfl | omega | assumption | (simp; done) | (simp [splice]; done) | (simp; omega) | (unfold fits; omega) | (unfold fits; simp_all; omega) | (simp_all; omega) | (simp_all; done) | intro _ | exact zI ?_ ?_ | intro _))))); try (refine L.nil ?_))
    (((repeat refine S.seq ?_); refine S.ret ?_); refine E.retP (T := tt) tt_ok rfl rfl (by (repeat' ((first | first | exact trivial | exact zA | with_reducible refine zI ?_ ?_ | exact zB | exact zC | exact zD | exact zE | rfl | exact zN rfl | omega | assumption | (simp; done) | (simp [splice]; done) | (simp; omega) | (unfold fits; omega) | (unfold fits; simp_all; omega) | (simp_all; omega) | (simp_all; done) | intro _ | exact zI ?_ ?_ | intro _)))) (Imp.of_eq ?_))
    rfl
  · intro hp
    ((repeat refine S.seq ?_); refine S.region (L.go (T := tt) tt_ok rfl rfl ?sd8 ?_); (try (case sd8 => (repeat' ((first | first | exact trivial | exact zA | with_reducible refine zI ?_ ?_ | exact zB | exact zC | exact zD | exact zE | rfl | exact zN rfl | omega | assumption | (simp; done) | (simp [splice]; done) | (simp; omega) | (unfold fits; omega) | (unfold fits; simp_all; omega) | (simp_all; omega) | (simp_all; done) | intro _ | exact zI ?_ ?_ | intro _))))); try (refine L.nil ?_))
    ((repeat refine S.seq ?_); refine S.region (L.go (T := tt) tt_ok rfl rfl ?sd9 ?_); (try (case sd9 => (repeat' ((first | first | exact trivial | exact zA | with_reducible refine zI ?_ ?_ | exact zB | exact zC | exact zD | exact zE | rfl | exact zN rfl | omega | assumption | (simp; done) | (simp [splice]; done) | (simp; omega) | (unfold fits; omega) | (unfold fits; simp_all; omega) | (simp_all; omega) | (simp_all; done) | intro _ | exact zI ?_ ?_ | intro _))))); try (refine L.nil ?_))
    repeat refine S.seq ?_
    refine S.label ?_
    exact fun a w hR => hp ⟨0, Nat.zero_le _⟩ a w (hR.weak (by (repeat' (first | exact True.intro | exact Imp.refl _ | refine ⟨?_, ?_⟩))) (by (repeat (first | exact List.nil_sublist _ | refine List.Sublist.cons_cons _ ?_ | refine List.Sublist.cons _ ?_))))
theorem rof_p (s : ByteArray) (hs : fitS s) : PFn Tryd.prog 11 [.v (.string s)] (.v (.int .u32 (ofP s))) := by
  unfold fitS at hs
  refine FnC.intro Tryd.func11 rfl Tryd.ntmps11 rfl ?_; intro off w0
  ((repeat refine S.seq ?_); refine S.region (L.go (T := tt) tt_ok rfl rfl ?sd10 ?_); (try (case sd10 => (repeat' ((first | first | exact trivial | exact zA | with_reducible refine zI ?_ ?_ | exact zB | exact zC | exact zD | exact zE | rfl | exact zN rfl | omega | assumption | (simp; done) | (simp [splice]; done) | (simp; omega) | (unfold fits; omega) | (unfold fits; simp_all; omega) | (simp_all; omega) | (simp_all; done) | intro _ | exact zI ?_ ?_ | intro _))))); try (refine L.nil ?_))
  ((repeat refine S.seq ?_); refine S.region (L.go (T := tt) tt_ok rfl rfl ?sd11 ?_); (try (case sd11 => (repeat' ((first | first | exact trivial | exact zA | with_reducible refine zI ?_ ?_ | exact zB | exact zC | exact zD | exact zE | rfl | exact zN rfl | omega | assumption | (simp; done) | (simp [splice]; done) | (simp; omega) | (unfold fits; omega) | (unfold fits; simp_all; omega) | (simp_all; omega) | (simp_all; done) | intro _ | exact zI ?_ ?_ | intro _))))); try (refine L.nil ?_))
  ((repeat refine S.seq ?_); refine S.region (L.go (T := tt) tt_ok rfl rfl ?sd12 ?_); (try (case sd12 => (repeat' ((first | first | exact trivial | exact zA | with_reducible refine zI ?_ ?_ | exact zB | exact zC | exact zD | exact zE | rfl | exact zN rfl | omega | assumption | (simp; done) | (simp [splice]; done) | (simp; omega) | (unfold fits; omega) | (unfold fits; simp_all; omega) | (simp_all; omega) | (simp_all; done) | intro _ | exact zI ?_ ?_ | intro _))))); try (refine L.nil ?_))
  repeat refine S.seq ?_
  refine S.block (S.loop (ι := { k : Nat // k ≤ s.size }) (fun k => [(0, .v (.string s)), (3, .v (.int .u32 (ofTo s k.1))), (4, .v (.int .i64 k.1))])
    (fun k => []) (fun k => s.size - k.1) ?_ ?_)
  · exact fun a w h => ⟨⟨0, Nat.zero_le _⟩, h.weak (by (repeat' (first | exact True.intro | exact Imp.refl _ | refine ⟨?_, ?_⟩))) (by (repeat (first | exact List.nil_sublist _ | refine List.Sublist.cons_cons _ ?_ | refine List.Sublist.cons _ ?_)))⟩
  rintro ⟨k, hk⟩
  dsimp only
  ((repeat refine S.seq ?_); refine S.region (L.go (T := tt) tt_ok rfl rfl ?sd13 ?_); (try (case sd13 => (repeat' ((first | first | exact trivial | exact zA | with_reducible refine zI ?_ ?_ | exact zB | exact zC | exact zD | exact zE | rfl | exact zN rfl | omega | assumption | (simp; done) | (simp [splice]; done) | (simp; omega) | (unfold fits; omega) | (unfold fits; simp_all; omega) | (simp_all; omega) | (simp_all; done) | intro _ | exact zI ?_ ?_ | intro _))))); try (refine L.nil ?_))
  ((repeat refine S.seq ?_); refine S.cond rfl (fun h1 => ?_) (fun h1 => ?_) <;> (try first | refine S.skip ?_ | refine S.exit ?_))
  · have h1 := of_dec h1
    repeat refine S.seq ?_
    refine S.block ?_
    ((repeat refine S.seq ?_); refine S.region (L.go (T := tt) tt_ok rfl rfl ?sd14 ?_); (try (case sd14 => (repeat' ((first | first | exact trivial | exact zA | with_reducible refine zI ?_ ?_ | exact zB | exact zC | exact zD | exact zE | rfl | exact zN rfl | omega | assumption | (simp; done) | (simp [splice]; done) | (simp; omega) | (unfold fits; omega) | (unfold fits; simp_all; omega) | (simp_all; omega) | (simp_all; done) | intro _ | exact zI ?_ ?_ | intro _))))); try (refine L.nil ?_))
    ((repeat refine S.seq ?_); refine S.region (L.go (T := tt) tt_ok rfl rfl ?sd15 ?_); (try (case sd15 => (repeat' ((first | first | exact trivial | exact zA | with_reducible refine zI ?_ ?_ | exact zB | exact zC | exact zD | exact zE | rfl | exact zN rfl | omega | assumption | (simp; done) | (simp [splice]; done) | (simp; omega) | (unfold fits; omega) | (unfold fits; simp_all; omega) | (simp_all; omega) | (simp_all; done) | intro _ | exact zI ?_ ?_ | intro _))))); try (refine L.nil ?_))
    exact fun a w hR => ⟨⟨k + 1, by omega⟩, by simp only; omega, hR.weak (by (repeat' (first | exact True.intro | exact Imp.refl _ | refine ⟨?_, ?_⟩))) (by (repeat (first | exact List.nil_sublist _ | refine List.Sublist.cons_cons _ ?_ | refine List.Sublist.cons _ ?_)))⟩
  · have h1 := of_dec' h1
    have hk0 : k = s.size := by omega
    subst hk0
    ((repeat refine S.seq ?_); refine S.region (L.go (T := tt) tt_ok rfl rfl ?sd16 ?_); (try (case sd16 => (repeat' ((first | first | exact trivial | exact zA | with_reducible refine zI ?_ ?_ | exact zB | exact zC | exact zD | exact zE | rfl | exact zN rfl | omega | assumption | (simp; done) | (simp [splice]; done) | (simp; omega) | (unfold fits; omega) | (unfold fits; simp_all; omega) | (simp_all; omega) | (simp_all; done) | intro _ | exact zI ?_ ?_ | intro _))))); try (refine L.nil ?_))
    ((repeat refine S.seq ?_); refine S.region (L.go (T := tt) tt_ok rfl rfl ?sd17 ?_); (try (case sd17 => (repeat' ((first | first | exact trivial | exact zA | with_reducible refine zI ?_ ?_ | exact zB | exact zC | exact zD | exact zE | rfl | exact zN rfl | omega | assumption | (simp; done) | (simp [splice]; done) | (simp; omega) | (unfold fits; omega) | (unfold fits; simp_all; omega) | (simp_all; omega) | (simp_all; done) | intro _ | exact zI ?_ ?_ | intro _))))); try (refine L.nil ?_))
    (((repeat refine S.seq ?_); refine S.ret ?_); refine E.retP (T := tt) tt_ok rfl rfl (by (repeat' ((first | first | exact trivial | exact zA | with_reducible refine zI ?_ ?_ | exact zB | exact zC | exact zD | exact zE | rfl | exact zN rfl | omega | assumption | (simp; done) | (simp [splice]; done) | (simp; omega) | (unfold fits; omega) | (unfold fits; simp_all; omega) | (simp_all; omega) | (simp_all; done) | intro _ | exact zI ?_ ?_ | intro _)))) (Imp.of_eq ?_))
    rfl

def wayF (a b : Int) : Int := IntKind.u32.wrap (b - a)
theorem way_p (a b : Int) : PFn Tryd.prog 8 [.v (.int .u32 a), .v (.int .u32 b)] (.v (.int .u32 (wayF a b))) := by
  refine FnC.intro Tryd.func8 rfl Tryd.ntmps8 rfl ?_; intro off w0
  ((repeat refine S.seq ?_); refine S.region (L.go (T := tt) tt_ok rfl rfl ?sd18 ?_); (try (case sd18 => (repeat' ((first | first | exact trivial | exact zA | with_reducible refine zI ?_ ?_ | exact zB | exact zC | exact zD | exact zE | rfl | exact zN rfl | omega | assumption | (simp; done) | (simp [splice]; done) | (simp; omega) | (unfold fits; omega) | (unfold fits; simp_all; omega) | (simp_all; omega) | (simp_all; done) | intro _ | exact zI ?_ ?_ | intro _))))); try (refine L.nil ?_))
  ((repeat refine S.seq ?_); refine S.region (L.go (T := tt) tt_ok rfl rfl ?sd19 ?_); (try (case sd19 => (repeat' ((first | first | exact trivial | exact zA | with_reducible refine zI ?_ ?_ | exact zB | exact zC | exact zD | exact zE | rfl | exact zN rfl | omega | assumption | (simp; done) | (simp [splice]; done) | (simp; omega) | (unfold fits; omega) | (unfold fits; simp_all; omega) | (simp_all; omega) | (simp_all; done) | intro _ | exact zI ?_ ?_ | intro _))))); try (refine L.nil ?_))
  (((repeat refine S.seq ?_); refine S.ret ?_); refine E.retP (T := tt) tt_ok rfl rfl (by (repeat' ((first | first | exact trivial | exact zA | with_reducible refine zI ?_ ?_ | exact zB | exact zC | exact zD | exact zE | rfl | exact zN rfl | omega | assumption | (simp; done) | (simp [splice]; done) | (simp; omega) | (unfold fits; omega) | (unfold fits; simp_all; omega) | (simp_all; omega) | (simp_all; done) | intro _ | exact zI ?_ ?_ | intro _)))) (Imp.of_eq ?_))
  rfl
def dirF (p : Int) : Int := IntKind.i64.wrap (p.fdiv (2 ^ min (30 : Int).toNat IntKind.u32.bits))
theorem dir_p (p : Int) : PFn Tryd.prog 9 [.v (.int .u32 p)] (.v (.int .i64 (dirF p))) := by
  refine FnC.intro Tryd.func9 rfl Tryd.ntmps9 rfl ?_; intro off w0
  ((repeat refine S.seq ?_); refine S.region (L.go (T := tt) tt_ok rfl rfl ?sd20 ?_); (try (case sd20 => (repeat' ((first | first | exact trivial | exact zA | with_reducible refine zI ?_ ?_ | exact zB | exact zC | exact zD | exact zE | rfl | exact zN rfl | omega | assumption | (simp; done) | (simp [splice]; done) | (simp; omega) | (unfold fits; omega) | (unfold fits; simp_all; omega) | (simp_all; omega) | (simp_all; done) | intro _ | exact zI ?_ ?_ | intro _))))); try (refine L.nil ?_))
  ((repeat refine S.seq ?_); refine S.region (L.go (T := tt) tt_ok rfl rfl ?sd21 ?_); (try (case sd21 => (repeat' ((first | first | exact trivial | exact zA | with_reducible refine zI ?_ ?_ | exact zB | exact zC | exact zD | exact zE | rfl | exact zN rfl | omega | assumption | (simp; done) | (simp [splice]; done) | (simp; omega) | (unfold fits; omega) | (unfold fits; simp_all; omega) | (simp_all; omega) | (simp_all; done) | intro _ | exact zI ?_ ?_ | intro _))))); try (refine L.nil ?_))
  (((repeat refine S.seq ?_); refine S.ret ?_); refine E.retP (T := tt) tt_ok rfl rfl (by (repeat' ((first | first | exact trivial | exact zA | with_reducible refine zI ?_ ?_ | exact zB | exact zC | exact zD | exact zE | rfl | exact zN rfl | omega | assumption | (simp; done) | (simp [splice]; done) | (simp; omega) | (unfold fits; omega) | (unfold fits; simp_all; omega) | (simp_all; omega) | (simp_all; done) | intro _ | exact zI ?_ ?_ | intro _)))) (Imp.of_eq ?_))
  rfl
theorem rdir_p (p : Int) : PFn Tryd.prog 14 [.v (.int .u32 p)] (.v (.int .i64 (dirF p))) := by
  refine FnC.intro Tryd.func14 rfl Tryd.ntmps14 rfl ?_; intro off w0
  ((repeat refine S.seq ?_); refine S.region (L.go (T := tt) tt_ok rfl rfl ?sd22 ?_); (try (case sd22 => (repeat' ((first | first | exact trivial | exact zA | with_reducible refine zI ?_ ?_ | exact zB | exact zC | exact zD | exact zE | rfl | exact zN rfl | omega | assumption | (simp; done) | (simp [splice]; done) | (simp; omega) | (unfold fits; omega) | (unfold fits; simp_all; omega) | (simp_all; omega) | (simp_all; done) | intro _ | exact zI ?_ ?_ | intro _))))); try (refine L.nil ?_))
  ((repeat refine S.seq ?_); refine S.region (L.go (T := tt) tt_ok rfl rfl ?sd23 ?_); (try (case sd23 => (repeat' ((first | first | exact trivial | exact zA | with_reducible refine zI ?_ ?_ | exact zB | exact zC | exact zD | exact zE | rfl | exact zN rfl | omega | assumption | (simp; done) | (simp [splice]; done) | (simp; omega) | (unfold fits; omega) | (unfold fits; simp_all; omega) | (simp_all; omega) | (simp_all; done) | intro _ | exact zI ?_ ?_ | intro _))))); try (refine L.nil ?_))
  (((repeat refine S.seq ?_); refine S.ret ?_); refine E.retP (T := tt) tt_ok rfl rfl (by (repeat' ((first | first | exact trivial | exact zA | with_reducible refine zI ?_ ?_ | exact zB | exact zC | exact zD | exact zE | rfl | exact zN rfl | omega | assumption | (simp; done) | (simp [splice]; done) | (simp; omega) | (unfold fits; omega) | (unfold fits; simp_all; omega) | (simp_all; omega) | (simp_all; done) | intro _ | exact zI ?_ ?_ | intro _)))) (Imp.of_eq ?_))
  rfl
theorem dirF_eq {p : Int} (h0 : 0 ≤ p) (h1 : p < 4294967296) : dirF p = p / 1073741824 := by
  have e : p.fdiv (2 ^ min (30 : Int).toNat IntKind.u32.bits) = p / 1073741824 := by
    rw [Int.fdiv_eq_ediv_of_nonneg _ (by decide)]
    rfl
  rw [dirF, e]
  have : IntKind.i64.wrap (p / 1073741824) = p / 1073741824 := wrap_fits (by unfold fits; omega)
  exact this
theorem dirF_lt {p : Int} (h0 : 0 ≤ p) (h1 : p < 4294967296) : 0 ≤ dirF p ∧ dirF p < 4 := by
  rw [dirF_eq h0 h1]
  omega

def ngF (b : Nat) : Nat := Op.negFloat .f64 b
def spinC (z : Nat × Nat) (k : Int) : Nat × Nat := if k = 0 then z else if k = 1 then (ngF z.2, z.1) else if k = 2 then (ngF z.1, ngF z.2) else (z.2, ngF z.1)
def cpx (z : Nat × Nat) : AV := .v (.complex .f64 z.1 z.2)
theorem and3 {k : Int} (h0 : 0 ≤ k) (h1 : k < 4) : IntKind.i64.wrap (BitVec.ofInt IntKind.i64.bits k &&& BitVec.ofInt IntKind.i64.bits 3).toNat = k := by
  have : k = 0 ∨ k = 1 ∨ k = 2 ∨ k = 3 := by omega
  rcases this with rfl | rfl | rfl | rfl <;> decide +kernel

theorem spin_p (z : Nat × Nat) (k : Int) (h0 : 0 ≤ k) (h1 : k < 4) : PFn Tryd.prog 19 [cpx z, .v (.int .i64 k)] (cpx (spinC z k)) := by
  obtain ⟨x, y⟩ := z
  unfold cpx
  refine FnC.intro Tryd.func19 rfl Tryd.ntmps19 rfl ?_; intro off w0
  ((repeat refine S.seq ?_); refine S.region (L.go (T := tt) tt_ok rfl rfl ?sd24 ?_); (try (case sd24 => (repeat' ((first | first | exact trivial | exact zA | with_reducible refine zI ?_ ?_ | exact zB | exact zC | exact zD | exact zE | rfl | exact zN rfl | omega | assumption | (simp; done) | (simp [splice]; done) | (simp; omega) | (unfold fits; omega) | (unfold fits; simp_all; omega) | (simp_all; omega) | (simp_all; done) | intro _ | exact zI ?_ ?_ | intro _))))); try (refine L.nil ?_))
  repeat refine S.seq ?_
  refine S.scopeE 0 (ι := { q : Nat × Nat × Int // q = (x, y, k) ∨ (k = 3 ∧ q = (y, ngF x, 0)) }) (fun q => [(0, .v (.complex .f64 q.1.1 q.1.2.1)), (1, .v (.int .i64 q.1.2.2))])
    (fun q => []) (fun q => q.1.2.2.toNat) rfl ?_ ?_
  · rintro ⟨⟨a, b, j⟩, hq⟩ J hJ
    dsimp only at hJ ⊢
    ((repeat refine S.seq ?_); refine S.region (L.go (T := tt) tt_ok rfl rfl ?sd25 ?_); (try (case sd25 => (repeat' ((first | first | exact trivial | exact zA | with_reducible refine zI ?_ ?_ | exact zB | exact zC | exact zD | exact zE | rfl | exact zN rfl | omega | assumption | (simp; done) | (simp [splice]; done) | (simp; omega) | (unfold fits; omega) | (unfold fits; simp_all; omega) | (simp_all; omega) | (simp_all; done) | intro _ | exact zI ?_ ?_ | intro _))))); try (refine L.nil ?_))
    ((repeat refine S.seq ?_); refine S.cond rfl (fun h2 => ?_) (fun h2 => ?_) <;> (try first | refine S.skip ?_ | refine S.exit ?_))
    · have hj : j = 0 := by simpa using h2
      ((repeat refine S.seq ?_); refine S.region (L.go (T := tt) tt_ok rfl rfl ?sd26 ?_); (try (case sd26 => (repeat' ((first | first | exact trivial | exact zA | with_reducible refine zI ?_ ?_ | exact zB | exact zC | exact zD | exact zE | rfl | exact zN rfl | omega | assumption | (simp; done) | (simp [splice]; done) | (simp; omega) | (unfold fits; omega) | (unfold fits; simp_all; omega) | (simp_all; omega) | (simp_all; done) | intro _ | exact zI ?_ ?_ | intro _))))); try (refine L.nil ?_))
      (((repeat refine S.seq ?_); refine S.ret ?_); refine E.retP (T := tt) tt_ok rfl rfl (by (repeat' ((first | first | exact trivial | exact zA | with_reducible refine zI ?_ ?_ | exact zB | exact zC | exact zD | exact zE | rfl | exact zN rfl | omega | assumption | (simp; done) | (simp [splice]; done) | (simp; omega) | (unfold fits; omega) | (unfold fits; simp_all; omega) | (simp_all; omega) | (simp_all; done) | intro _ | exact zI ?_ ?_ | intro _)))) (Imp.of_eq ?_))
      rcases hq with e | ⟨e1, e⟩
      · cases e; subst hj; rfl
      · cases e; subst e1; rfl
    have hj0 : j ≠ 0 := by simpa using h2
    ((repeat refine S.seq ?_); refine S.region (L.go (T := tt) tt_ok rfl rfl ?sd27 ?_); (try (case sd27 => (repeat' ((first | first | exact trivial | exact zA | with_reducible refine zI ?_ ?_ | exact zB | exact zC | exact zD | exact zE | rfl | exact zN rfl | omega | assumption | (simp; done) | (simp [splice]; done) | (simp; omega) | (unfold fits; omega) | (unfold fits; simp_all; omega) | (simp_all; omega) | (simp_all; done) | intro _ | exact zI ?_ ?_ | intro _))))); try (refine L.nil ?_))
    ((repeat refine S.seq ?_); refine S.cond rfl (fun h3 => ?_) (fun h3 => ?_) <;> (try first | refine S.skip ?_ | refine S.exit ?_))
    · have hj : j = 2 := by simpa using h3
      ((repeat refine S.seq ?_); refine S.region (L.go (T := tt) tt_ok rfl rfl ?sd28 ?_); (try (case sd28 => (repeat' ((first | first | exact trivial | exact zA | with_reducible refine zI ?_ ?_ | exact zB | exact zC | exact zD | exact zE | rfl | exact zN rfl | omega | assumption | (simp; done) | (simp [splice]; done) | (simp; omega) | (unfold fits; omega) | (unfold fits; simp_all; omega) | (simp_all; omega) | (simp_all; done) | intro _ | exact zI ?_ ?_ | intro _))))); try (refine L.nil ?_))
      (((repeat refine S.seq ?_); refine S.ret ?_); refine E.retP (T := tt) tt_ok rfl rfl (by (repeat' ((first | first | exact trivial | exact zA | with_reducible refine zI ?_ ?_ | exact zB | exact zC | exact zD | exact zE | rfl | exact zN rfl | omega | assumption | (simp; done) | (simp [splice]; done) | (simp; omega) | (unfold fits; omega) | (unfold fits; simp_all; omega) | (simp_all; omega) | (simp_all; done) | intro _ | exact zI ?_ ?_ | intro _)))) (Imp.of_eq ?_))
      rcases hq with e | ⟨e1, e⟩
      · cases e; subst hj; rfl
      · cases e; omega
    have hj2 : j ≠ 2 := by simpa using h3
    ((repeat refine S.seq ?_); refine S.region (L.go (T := tt) tt_ok rfl rfl ?sd29 ?_); (try (case sd29 => (repeat' ((first | first | exact trivial | exact zA | with_reducible refine zI ?_ ?_ | exact zB | exact zC | exact zD | exact zE | rfl | exact zN rfl | omega | assumption | (simp; done) | (simp [splice]; done) | (simp; omega) | (unfold fits; omega) | (unfold fits; simp_all; omega) | (simp_all; omega) | (simp_all; done) | intro _ | exact zI ?_ ?_ | intro _))))); try (refine L.nil ?_))
    ((repeat refine S.seq ?_); refine S.cond rfl (fun h4 => ?_) (fun h4 => ?_) <;> (try first | refine S.skip ?_ | refine S.exit ?_))
    · have hj : j = 1 := by simpa using h4
      ((repeat refine S.seq ?_); refine S.region (L.go (T := tt) tt_ok rfl rfl ?sd30 ?_); (try (case sd30 => (repeat' ((first | first | exact trivial | exact zA | with_reducible refine zI ?_ ?_ | exact zB | exact zC | exact zD | exact zE | rfl | exact zN rfl | omega | assumption | (simp; done) | (simp [splice]; done) | (simp; omega) | (unfold fits; omega) | (unfold fits; simp_all; omega) | (simp_all; omega) | (simp_all; done) | intro _ | exact zI ?_ ?_ | intro _))))); try (refine L.nil ?_))
      (((repeat refine S.seq ?_); refine S.ret ?_); refine E.retP (T := tt) tt_ok rfl rfl (by (repeat' ((first | first | exact trivial | exact zA | with_reducible refine zI ?_ ?_ | exact zB | exact zC | exact zD | exact zE | rfl | exact zN rfl | omega | assumption | (simp; done) | (simp [splice]; done) | (simp; omega) | (unfold fits; omega) | (unfold fits; simp_all; omega) | (simp_all; omega) | (simp_all; done) | intro _ | exact zI ?_ ?_ | intro _)))) (Imp.of_eq ?_))
      rcases hq with e | ⟨e1, e⟩
      · cases e; subst hj; rfl
      · cases e; omega
    have hj1 : j ≠ 1 := by simpa using h4
    ((repeat refine S.seq ?_); refine S.region (L.go (T := tt) tt_ok rfl rfl ?sd31 ?_); (try (case sd31 => (repeat' ((first | first | exact trivial | exact zA | with_reducible refine zI ?_ ?_ | exact zB | exact zC | exact zD | exact zE | rfl | exact zN rfl | omega | assumption | (simp; done) | (simp [splice]; done) | (simp; omega) | (unfold fits; omega) | (unfold fits; simp_all; omega) | (simp_all; omega) | (simp_all; done) | intro _ | exact zI ?_ ?_ | intro _))))); try (refine L.nil ?_))
    repeat refine S.seq ?_
    refine S.goto ?_
    rcases hq with e | ⟨e1, e⟩
    · cases e
      exact fun a' w hR => ⟨rfl, hJ a' w ⟨(y, ngF x, 0), .inr ⟨by omega, rfl⟩⟩ (by show (0 : Int).toNat < k.toNat; omega) (hR.weak (by (repeat' (first | exact True.intro | exact Imp.refl _ | refine ⟨?_, ?_⟩))) (by (repeat (first | exact List.nil_sublist _ | refine List.Sublist.cons_cons _ ?_ | refine List.Sublist.cons _ ?_))))⟩
    · cases e; omega
  · intro hp
    ((repeat refine S.seq ?_); refine S.region (L.go (T := tt) tt_ok rfl rfl ?sd32 ?_); (try (case sd32 => (repeat' ((first | first | exact trivial | exact zA | with_reducible refine zI ?_ ?_ | exact zB | exact zC | exact zD | exact zE | rfl | exact zN rfl | omega | assumption | (simp; done) | (simp [splice]; done) | (simp; omega) | (unfold fits; omega) | (unfold fits; simp_all; omega) | (simp_all; omega) | (simp_all; done) | intro _ | exact zI ?_ ?_ | intro _))))); try (refine L.nil ?_))
    refine slotAs 1 (.v (.int .i64 k)) rfl (Imp.of_eq (by rw [and3 h0 h1])) ?_
    repeat refine S.seq ?_
    refine S.label ?_
    exact fun a w hR => hp ⟨(x, y, k), .inl rfl⟩ a w (hR.weak (by (repeat' (first | exact True.intro | exact Imp.refl _ | refine ⟨?_, ?_⟩))) (by (repeat (first | exact List.nil_sublist _ | refine List.Sublist.cons_cons _ ?_ | refine List.Sublist.cons _ ?_))))

theorem rquarter_p (k : Int) (h0 : 0 ≤ k) (h1 : k < 4) : PFn Tryd.prog 26 [.v (.int .i64 k)] (.v (.int .i64 k)) := by
  refine FnC.intro Tryd.func26 rfl Tryd.ntmps26 rfl ?_; intro off w0
  ((repeat refine S.seq ?_); refine S.region (L.go (T := tt) tt_ok rfl rfl ?sd33 ?_); (try (case sd33 => (repeat' ((first | first | exact trivial | exact zA | with_reducible refine zI ?_ ?_ | exact zB | exact zC | exact zD | exact zE | rfl | exact zN rfl | omega | assumption | (simp; done) | (simp [splice]; done) | (simp; omega) | (unfold fits; omega) | (unfold fits; simp_all; omega) | (simp_all; omega) | (simp_all; done) | intro _ | exact zI ?_ ?_ | intro _))))); try (refine L.nil ?_))
  ((repeat refine S.seq ?_); refine S.region (L.go (T := tt) tt_ok rfl rfl ?sd34 ?_); (try (case sd34 => (repeat' ((first | first | exact trivial | exact zA | with_reducible refine zI ?_ ?_ | exact zB | exact zC | exact zD | exact zE | rfl | exact zN rfl | omega | assumption | (simp; done) | (simp [splice]; done) | (simp; omega) | (unfold fits; omega) | (unfold fits; simp_all; omega) | (simp_all; omega) | (simp_all; done) | intro _ | exact zI ?_ ?_ | intro _))))); try (refine L.nil ?_))
  (((repeat refine S.seq ?_); refine S.ret ?_); refine E.retP (T := tt) tt_ok rfl rfl (by (repeat' ((first | first | exact trivial | exact zA | with_reducible refine zI ?_ ?_ | exact zB | exact zC | exact zD | exact zE | rfl | exact zN rfl | omega | assumption | (simp; done) | (simp [splice]; done) | (simp; omega) | (unfold fits; omega) | (unfold fits; simp_all; omega) | (simp_all; omega) | (simp_all; done) | intro _ | exact zI ?_ ?_ | intro _)))) (Imp.of_eq ?_))
  exact congrArg (fun z => AV.v (.int .i64 z)) (and3 h0 h1)
theorem rspin_p (z : Nat × Nat) (k : Int) (h0 : 0 ≤ k) (h1 : k < 4) : PFn Tryd.prog 23 [cpx z, .v (.int .i64 k)] (cpx (spinC z k)) := by
  obtain ⟨x, y⟩ := z
  unfold cpx
  refine FnC.intro Tryd.func23 rfl Tryd.ntmps23 rfl ?_; intro off w0
  ((repeat refine S.seq ?_); refine S.region (L.go (T := tt) tt_ok rfl rfl ?sd35 ?_); (try (case sd35 => (repeat' ((first | first | exact trivial | exact zA | with_reducible refine zI ?_ ?_ | exact zB | exact zC | exact zD | exact zE | rfl | exact zN rfl | omega | assumption | (simp; done) | (simp [splice]; done) | (simp; omega) | (unfold fits; omega) | (unfold fits; simp_all; omega) | (simp_all; omega) | (simp_all; done) | intro _ | exact zI ?_ ?_ | intro _))))); try (refine L.nil ?_))
  ((repeat refine S.seq ?_); refine S.region (L.go (T := tt) tt_ok rfl rfl ?sd36 ?_); (try (case sd36 => (repeat' ((first | first | exact trivial | exact zA | with_reducible refine zI ?_ ?_ | exact zB | exact zC | exact zD | exact zE | rfl | exact zN rfl | omega | assumption | (simp; done) | (simp [splice]; done) | (simp; omega) | (unfold fits; omega) | (unfold fits; simp_all; omega) | (simp_all; omega) | (simp_all; done) | intro _ | exact zI ?_ ?_ | intro _))))); try (refine L.nil ?_))
  repeat refine S.seq ?_
  refine S.region ?_
  (refine L.go (T := tt) tt_ok rfl rfl ?sd63 ?_; (try (case sd63 => (repeat' ((first | first | exact trivial | exact zA | with_reducible refine zI ?_ ?_ | exact zB | exact zC | exact zD | exact zE | rfl | exact zN rfl | omega | assumption | (simp; done) | (simp [splice]; done) | (simp; omega) | (unfold fits; omega) | (unfold fits; simp_all; omega) | (simp_all; omega) | (simp_all; done) | intro _ | exact zI ?_ ?_ | intro _))))); try (refine L.nil ?_))
  refine L.callP rfl rfl rfl rfl rfl rfl rfl ⟨trivial, by (repeat' ((first | first | exact trivial | exact zA | with_reducible refine zI ?_ ?_ | exact zB | exact zC | exact zD | exact zE | rfl | exact zN rfl | omega | assumption | (simp; done) | (simp [splice]; done) | (simp; omega) | (unfold fits; omega) | (unfold fits; simp_all; omega) | (simp_all; omega) | (simp_all; done) | intro _ | exact zI ?_ ?_ | intro _)))⟩ rfl (Imps.refl _) (rquarter_p k h0 h1) ?_
  refine L.nil ?_
  refine S.cut (ι := { u : Unit // k ≠ 0 ∧ k ≠ 1 ∧ k ≠ 2 }) (fun _ => [(5, .v (.float .f64 x)), (6, .v (.float .f64 y)), (12, .v (.int .i64 k))]) (fun _ => []) ?_ ?_
  · repeat refine S.seq ?_
    refine S.block ?_
    ((repeat refine S.seq ?_); refine S.region (L.go (T := tt) tt_ok rfl rfl ?sd37 ?_); (try (case sd37 => (repeat' ((first | first | exact trivial | exact zA | with_reducible refine zI ?_ ?_ | exact zB | exact zC | exact zD | exact zE | rfl | exact zN rfl | omega | assumption | (simp; done) | (simp [splice]; done) | (simp; omega) | (unfold fits; omega) | (unfold fits; simp_all; omega) | (simp_all; omega) | (simp_all; done) | intro _ | exact zI ?_ ?_ | intro _))))); try (refine L.nil ?_))
    ((repeat refine S.seq ?_); refine S.cond rfl (fun h2 => ?_) (fun h2 => ?_) <;> (try first | refine S.skip ?_ | refine S.exit ?_))
    · have hj : k = 0 := by simpa using h2
      ((repeat refine S.seq ?_); refine S.region (L.go (T := tt) tt_ok rfl rfl ?sd38 ?_); (try (case sd38 => (repeat' ((first | first | exact trivial | exact zA | with_reducible refine zI ?_ ?_ | exact zB | exact zC | exact zD | exact zE | rfl | exact zN rfl | omega | assumption | (simp; done) | (simp [splice]; done) | (simp; omega) | (unfold fits; omega) | (unfold fits; simp_all; omega) | (simp_all; omega) | (simp_all; done) | intro _ | exact zI ?_ ?_ | intro _))))); try (refine L.nil ?_))
      (((repeat refine S.seq ?_); refine S.ret ?_); refine E.retP (T := tt) tt_ok rfl rfl (by (repeat' ((first | first | exact trivial | exact zA | with_reducible refine zI ?_ ?_ | exact zB | exact zC | exact zD | exact zE | rfl | exact zN rfl | omega | assumption | (simp; done) | (simp [splice]; done) | (simp; omega) | (unfold fits; omega) | (unfold fits; simp_all; omega) | (simp_all; omega) | (simp_all; done) | intro _ | exact zI ?_ ?_ | intro _)))) (Imp.of_eq ?_))
      subst hj; rfl
    ((repeat refine S.seq ?_); refine S.region (L.go (T := tt) tt_ok rfl rfl ?sd39 ?_); (try (case sd39 => (repeat' ((first | first | exact trivial | exact zA | with_reducible refine zI ?_ ?_ | exact zB | exact zC | exact zD | exact zE | rfl | exact zN rfl | omega | assumption | (simp; done) | (simp [splice]; done) | (simp; omega) | (unfold fits; omega) | (unfold fits; simp_all; omega) | (simp_all; omega) | (simp_all; done) | intro _ | exact zI ?_ ?_ | intro _))))); try (refine L.nil ?_))
    ((repeat refine S.seq ?_); refine S.cond rfl (fun h3 => ?_) (fun h3 => ?_) <;> (try first | refine S.skip ?_ | refine S.exit ?_))
    · have hj : k = 1 := by simpa using h3
      ((repeat refine S.seq ?_); refine S.region (L.go (T := tt) tt_ok rfl rfl ?sd40 ?_); (try (case sd40 => (repeat' ((first | first | exact trivial | exact zA | with_reducible refine zI ?_ ?_ | exact zB | exact zC | exact zD | exact zE | rfl | exact zN rfl | omega | assumption | (simp; done) | (simp [splice]; done) | (simp; omega) | (unfold fits; omega) | (unfold fits; simp_all; omega) | (simp_all; omega) | (simp_all; done) | intro _ | exact zI ?_ ?_ | intro _))))); try (refine L.nil ?_))
      (((repeat refine S.seq ?_); refine S.ret ?_); refine E.retP (T := tt) tt_ok rfl rfl (by (repeat' ((first | first | exact trivial | exact zA | with_reducible refine zI ?_ ?_ | exact zB | exact zC | exact zD | exact zE | rfl | exact zN rfl | omega | assumption | (simp; done) | (simp [splice]; done) | (simp; omega) | (unfold fits; omega) | (unfold fits; simp_all; omega) | (simp_all; omega) | (simp_all; done) | intro _ | exact zI ?_ ?_ | intro _)))) (Imp.of_eq ?_))
      subst hj; rfl
    ((repeat refine S.seq ?_); refine S.region (L.go (T := tt) tt_ok rfl rfl ?sd41 ?_); (try (case sd41 => (repeat' ((first | first | exact trivial | exact zA | with_reducible refine zI ?_ ?_ | exact zB | exact zC | exact zD | exact zE | rfl | exact zN rfl | omega | assumption | (simp; done) | (simp [splice]; done) | (simp; omega) | (unfold fits; omega) | (unfold fits; simp_all; omega) | (simp_all; omega) | (simp_all; done) | intro _ | exact zI ?_ ?_ | intro _))))); try (refine L.nil ?_))
    ((repeat refine S.seq ?_); refine S.cond rfl (fun h4 => ?_) (fun h4 => ?_) <;> (try first | refine S.skip ?_ | refine S.exit ?_))
    · have hj : k = 2 := by simpa using h4
      ((repeat refine S.seq ?_); refine S.region (L.go (T := tt) tt_ok rfl rfl ?sd42 ?_); (try (case sd42 => (repeat' ((first | first | exact trivial | exact zA | with_reducible refine zI ?_ ?_ | exact zB | exact zC | exact zD | exact zE | rfl | exact zN rfl | omega | assumption | (simp; done) | (simp [splice]; done) | (simp; omega) | (unfold fits; omega) | (unfold fits; simp_all; omega) | (simp_all; omega) | (simp_all; done) | intro _ | exact zI ?_ ?_ | intro _))))); try (refine L.nil ?_))
      (((repeat refine S.seq ?_); refine S.ret ?_); refine E.retP (T := tt) tt_ok rfl rfl (by (repeat' ((first | first | exact trivial | exact zA | with_reducible refine zI ?_ ?_ | exact zB | exact zC | exact zD | exact zE | rfl | exact zN rfl | omega | assumption | (simp; done) | (simp [splice]; done) | (simp; omega) | (unfold fits; omega) | (unfold fits; simp_all; omega) | (simp_all; omega) | (simp_all; done) | intro _ | exact zI ?_ ?_ | intro _)))) (Imp.of_eq ?_))
      subst hj; rfl
    exact fun a w hR => ⟨⟨(), by simpa using h2, by simpa using h3, by simpa using h4⟩, hR.weak (by (repeat' (first | exact True.intro | exact Imp.refl _ | refine ⟨?_, ?_⟩))) (by (repeat (first | exact List.nil_sublist _ | refine List.Sublist.cons_cons _ ?_ | refine List.Sublist.cons _ ?_)))⟩
  rintro ⟨⟨⟩, k0, k1, k2⟩
  ((repeat refine S.seq ?_); refine S.region (L.go (T := tt) tt_ok rfl rfl ?sd43 ?_); (try (case sd43 => (repeat' ((first | first | exact trivial | exact zA | with_reducible refine zI ?_ ?_ | exact zB | exact zC | exact zD | exact zE | rfl | exact zN rfl | omega | assumption | (simp; done) | (simp [splice]; done) | (simp; omega) | (unfold fits; omega) | (unfold fits; simp_all; omega) | (simp_all; omega) | (simp_all; done) | intro _ | exact zI ?_ ?_ | intro _))))); try (refine L.nil ?_))
  (((repeat refine S.seq ?_); refine S.ret ?_); refine E.retP (T := tt) tt_ok rfl rfl (by (repeat' ((first | first | exact trivial | exact zA | with_reducible refine zI ?_ ?_ | exact zB | exact zC | exact zD | exact zE | rfl | exact zN rfl | omega | assumption | (simp; done) | (simp [splice]; done) | (simp; omega) | (unfold fits; omega) | (unfold fits; simp_all; omega) | (simp_all; omega) | (simp_all; done) | intro _ | exact zI ?_ ?_ | intro _)))) (Imp.of_eq ?_))
  rw [spinC, if_neg k0, if_neg k1, if_neg k2]
  rfl

def leanC (p load : Int) : Nat × Nat := if load < 0 ∨ load > 1099511627776 then (0, 0) else spinC (FloatKind.f64.nearest load, 0) (dirF p)
theorem lean_p (p load : Int) (h0 : 0 ≤ p) (h1 : p < 4294967296) : PFn Tryd.prog 16 [.v (.int .u32 p), .v (.int .i64 load)] (cpx (leanC p load)) := by
  obtain ⟨d0, d1⟩ := dirF_lt h0 h1
  refine FnC.intro Tryd.func16 rfl Tryd.ntmps16 rfl ?_; intro off w0
  ((repeat refine S.seq ?_); refine S.region (L.go (T := tt) tt_ok rfl rfl ?sd44 ?_); (try (case sd44 => (repeat' ((first | first | exact trivial | exact zA | with_reducible refine zI ?_ ?_ | exact zB | exact zC | exact zD | exact zE | rfl | exact zN rfl | omega | assumption | (simp; done) | (simp [splice]; done) | (simp; omega) | (unfold fits; omega) | (unfold fits; simp_all; omega) | (simp_all; omega) | (simp_all; done) | intro _ | exact zI ?_ ?_ | intro _))))); try (refine L.nil ?_))
  ((repeat refine S.seq ?_); refine S.region (L.go (T := tt) tt_ok rfl rfl ?sd45 ?_); (try (case sd45 => (repeat' ((first | first | exact trivial | exact zA | with_reducible refine zI ?_ ?_ | exact zB | exact zC | exact zD | exact zE | rfl | exact zN rfl | omega | assumption | (simp; done) | (simp [splice]; done) | (simp; omega) | (unfold fits; omega) | (unfold fits; simp_all; omega) | (simp_all; omega) | (simp_all; done) | intro _ | exact zI ?_ ?_ | intro _))))); try (refine L.nil ?_))
  ((repeat refine S.seq ?_); refine S.cond rfl (fun h2 => ?_) (fun h2 => ?_) <;> (try first | refine S.skip ?_ | refine S.exit ?_))
  · have h2n : load < 0 ∨ load > 1099511627776 := by simpa using h2
    ((repeat refine S.seq ?_); refine S.region (L.go (T := tt) tt_ok rfl rfl ?sd46 ?_); (try (case sd46 => (repeat' ((first | first | exact trivial | exact zA | with_reducible refine zI ?_ ?_ | exact zB | exact zC | exact zD | exact zE | rfl | exact zN rfl | omega | assumption | (simp; done) | (simp [splice]; done) | (simp; omega) | (unfold fits; omega) | (unfold fits; simp_all; omega) | (simp_all; omega) | (simp_all; done) | intro _ | exact zI ?_ ?_ | intro _))))); try (refine L.nil ?_))
    (((repeat refine S.seq ?_); refine S.ret ?_); refine E.retP (T := tt) tt_ok rfl rfl (by (repeat' ((first | first | exact trivial | exact zA | with_reducible refine zI ?_ ?_ | exact zB | exact zC | exact zD | exact zE | rfl | exact zN rfl | omega | assumption | (simp; done) | (simp [splice]; done) | (simp; omega) | (unfold fits; omega) | (unfold fits; simp_all; omega) | (simp_all; omega) | (simp_all; done) | intro _ | exact zI ?_ ?_ | intro _)))) (Imp.of_eq ?_))
    rw [leanC, if_pos h2n]
    rfl
  have h2n : ¬ (load < 0 ∨ load > 1099511627776) := by
    simp only [Bool.or_eq_false_iff, decide_eq_false_iff_not] at h2
    omega
  ((repeat refine S.seq ?_); refine S.region (L.go (T := tt) tt_ok rfl rfl ?sd47 ?_); (try (case sd47 => (repeat' ((first | first | exact trivial | exact zA | with_reducible refine zI ?_ ?_ | exact zB | exact zC | exact zD | exact zE | rfl | exact zN rfl | omega | assumption | (simp; done) | (simp [splice]; done) | (simp; omega) | (unfold fits; omega) | (unfold fits; simp_all; omega) | (simp_all; omega) | (simp_all; done) | intro _ | exact zI ?_ ?_ | intro _))))); try (refine L.nil ?_))
  refine L.callP rfl rfl rfl rfl rfl rfl rfl ⟨trivial, by (repeat' ((first | first | exact trivial | exact zA | with_reducible refine zI ?_ ?_ | exact zB | exact zC | exact zD | exact zE | rfl | exact zN rfl | omega | assumption | (simp; done) | (simp [splice]; done) | (simp; omega) | (unfold fits; omega) | (unfold fits; simp_all; omega) | (simp_all; omega) | (simp_all; done) | intro _ | exact zI ?_ ?_ | intro _)))⟩ rfl (Imps.refl _) (dir_p p) ?_
  refine L.callP rfl rfl rfl rfl rfl rfl rfl ⟨trivial, by (repeat' ((first | first | exact trivial | exact zA | with_reducible refine zI ?_ ?_ | exact zB | exact zC | exact zD | exact zE | rfl | exact zN rfl | omega | assumption | (simp; done) | (simp [splice]; done) | (simp; omega) | (unfold fits; omega) | (unfold fits; simp_all; omega) | (simp_all; omega) | (simp_all; done) | intro _ | exact zI ?_ ?_ | intro _)))⟩ rfl (Imps.refl _) (spin_p (FloatKind.f64.nearest load, 0) (dirF p) d0 d1) ?_
  (refine L.go (T := tt) tt_ok rfl rfl ?sd64 ?_; (try (case sd64 => (repeat' ((first | first | exact trivial | exact zA | with_reducible refine zI ?_ ?_ | exact zB | exact zC | exact zD | exact zE | rfl | exact zN rfl | omega | assumption | (simp; done) | (simp [splice]; done) | (simp; omega) | (unfold fits; omega) | (unfold fits; simp_all; omega) | (simp_all; omega) | (simp_all; done) | intro _ | exact zI ?_ ?_ | intro _))))); try (refine L.nil ?_))
  (((repeat refine S.seq ?_); refine S.ret ?_); refine E.retP (T := tt) tt_ok rfl rfl (by (repeat' ((first | first | exact trivial | exact zA | with_reducible refine zI ?_ ?_ | exact zB | exact zC | exact zD | exact zE | rfl | exact zN rfl | omega | assumption | (simp; done) | (simp [splice]; done) | (simp; omega) | (unfold fits; omega) | (unfold fits; simp_all; omega) | (simp_all; omega) | (simp_all; done) | intro _ | exact zI ?_ ?_ | intro _)))) (Imp.of_eq ?_))
  rw [leanC, if_neg h2n]
  rfl

def d36 : ByteArray := ⟨#[48,49,50,51,52,53,54,55,56,57,97,98,99,100,101,102,103,104,105,106,107,108,109,110,111,112,113,114,115,116,117,118,119,120,121,122]⟩
def d100 : ByteArray := ⟨#[48,48,48,49,48,50,48,51,48,52,48,53,48,54,48,55,48,56,48,57,49,48,49,49,49,50,49,51,49,52,49,53,49,54,49,55,49,56,49,57,50,48,50,49,50,50,50,51,50,52,50,53,50,54,50,55,50,56,50,57,51,48,51,49,51,50,51,51,51,52,51,53,51,54,51,55,51,56,51,57,52,48,52,49,52,50,52,51,52,52,52,53,52,54,52,55,52,56,52,57,53,48,53,49,53,50,53,51,53,52,53,53,53,54,53,55,53,56,53,57,54,48,54,49,54,50,54,51,54,52,54,53,54,54,54,55,54,56,54,57,55,48,55,49,55,50,55,51,55,52,55,53,55,54,55,55,55,56,55,57,56,48,56,49,56,50,56,51,56,52,56,53,56,54,56,55,56,56,56,57,57,48,57,49,57,50,57,51,57,52,57,53,57,54,57,55,57,56,57,57]⟩
/-- A number below a hundred, as a text. -/
def numT (i : Int) : ByteArray := if i < 10 then d36.extract i.toNat (i + 1).toNat else d100.extract (i * 2).toNat (i * 2 + 2).toNat
theorem numT_size {i : Int} (h0 : 0 ≤ i) (h1 : i < 100) : (numT i).size ≤ 2 := by
  unfold numT
  split
  · rw [ByteArray.size_extract]; omega
  · rw [ByteArray.size_extract]; omega
theorem d36_size : d36.size = 36 := rfl
theorem d100_size : d100.size = 200 := by decide +kernel
theorem small_p (i : Int) (h0 : 0 ≤ i) (h1 : i < 100) : PFn Tryd.prog 28 [.v (.int .i64 i)] (.v (.string (numT i))) := by
  have s1 := d36_size
  have s2 := d100_size
  unfold d36 at s1
  unfold d100 at s2
  refine FnC.intro Tryd.func28 rfl Tryd.ntmps28 rfl ?_; intro off w0
  ((repeat refine S.seq ?_); refine S.region (L.go (T := tt) tt_ok rfl rfl ?sd48 ?_); (try (case sd48 => (repeat' ((first | first | exact trivial | exact zA | with_reducible refine zI ?_ ?_ | exact zB | exact zC | exact zD | exact zE | rfl | exact zN rfl | omega | assumption | (simp; done) | (simp [splice]; done) | (simp; omega) | (unfold fits; omega) | (unfold fits; simp_all; omega) | (simp_all; omega) | (simp_all; done) | intro _ | exact zI ?_ ?_ | intro _))))); try (refine L.nil ?_))
  ((repeat refine S.seq ?_); refine S.region (L.go (T := tt) tt_ok rfl rfl ?sd49 ?_); (try (case sd49 => (repeat' ((first | first | exact trivial | exact zA | with_reducible refine zI ?_ ?_ | exact zB | exact zC | exact zD | exact zE | rfl | exact zN rfl | omega | assumption | (simp; done) | (simp [splice]; done) | (simp; omega) | (unfold fits; omega) | (unfold fits; simp_all; omega) | (simp_all; omega) | (simp_all; done) | intro _ | exact zI ?_ ?_ | intro _))))); try (refine L.nil ?_))
  ((repeat refine S.seq ?_); refine S.cond rfl (fun h2 => ?_) (fun h2 => ?_) <;> (try first | refine S.skip ?_ | refine S.exit ?_))
  · have h2n : i < 10 := of_dec h2
    ((repeat refine S.seq ?_); refine S.region (L.go (T := tt) tt_ok rfl rfl ?sd50 ?_); (try (case sd50 => (repeat' ((first | first | exact trivial | exact zA | with_reducible refine zI ?_ ?_ | exact zB | exact zC | exact zD | exact zE | rfl | exact zN rfl | omega | assumption | (simp; done) | (simp [splice]; done) | (simp; omega) | (unfold fits; omega) | (unfold fits; simp_all; omega) | (simp_all; omega) | (simp_all; done) | intro _ | exact zI ?_ ?_ | intro _))))); try (refine L.nil ?_))
    (((repeat refine S.seq ?_); refine S.ret ?_); refine E.retP (T := tt) tt_ok rfl rfl (by (repeat' ((first | first | exact trivial | exact zA | with_reducible refine zI ?_ ?_ | exact zB | exact zC | exact zD | exact zE | rfl | exact zN rfl | omega | assumption | (simp; done) | (simp [splice]; done) | (simp; omega) | (unfold fits; omega) | (unfold fits; simp_all; omega) | (simp_all; omega) | (simp_all; done) | intro _ | exact zI ?_ ?_ | intro _)))) (Imp.of_eq ?_))
    rw [numT, if_pos h2n]
    rfl
  have h2n : ¬ i < 10 := of_dec' h2
  ((repeat refine S.seq ?_); refine S.region (L.go (T := tt) tt_ok rfl rfl ?sd51 ?_); (try (case sd51 => (repeat' ((first | first | exact trivial | exact zA | with_reducible refine zI ?_ ?_ | exact zB | exact zC | exact zD | exact zE | rfl | exact zN rfl | omega | assumption | (simp; done) | (simp [splice]; done) | (simp; omega) | (unfold fits; omega) | (unfold fits; simp_all; omega) | (simp_all; omega) | (simp_all; done) | intro _ | exact zI ?_ ?_ | intro _))))); try (refine L.nil ?_))
  (((repeat refine S.seq ?_); refine S.ret ?_); refine E.retP (T := tt) tt_ok rfl rfl (by (repeat' ((first | first | exact trivial | exact zA | with_reducible refine zI ?_ ?_ | exact zB | exact zC | exact zD | exact zE | rfl | exact zN rfl | omega | assumption | (simp; done) | (simp [splice]; done) | (simp; omega) | (unfold fits; omega) | (unfold fits; simp_all; omega) | (simp_all; omega) | (simp_all; done) | intro _ | exact zI ?_ ?_ | intro _)))) (Imp.of_eq ?_))
  rw [numT, if_neg h2n]
  rfl
theorem formatInt_p (i : Int) (h0 : 0 ≤ i) (h1 : i < 100) : PFn Tryd.prog 27 [.v (.int .i64 i), .v (.int .i64 10)] (.v (.string (numT i))) := by
  refine FnC.intro Tryd.func27 rfl Tryd.ntmps27 rfl ?_; intro off w0
  ((repeat refine S.seq ?_); refine S.region (L.go (T := tt) tt_ok rfl rfl ?sd52 ?_); (try (case sd52 => (repeat' ((first | first | exact trivial | exact zA | with_reducible refine zI ?_ ?_ | exact zB | exact zC | exact zD | exact zE | rfl | exact zN rfl | omega | assumption | (simp; done) | (simp [splice]; done) | (simp; omega) | (unfold fits; omega) | (unfold fits; simp_all; omega) | (simp_all; omega) | (simp_all; done) | intro _ | exact zI ?_ ?_ | intro _))))); try (refine L.nil ?_))
  ((repeat refine S.seq ?_); refine S.region (L.go (T := tt) tt_ok rfl rfl ?sd53 ?_); (try (case sd53 => (repeat' ((first | first | exact trivial | exact zA | with_reducible refine zI ?_ ?_ | exact zB | exact zC | exact zD | exact zE | rfl | exact zN rfl | omega | assumption | (simp; done) | (simp [splice]; done) | (simp; omega) | (unfold fits; omega) | (unfold fits; simp_all; omega) | (simp_all; omega) | (simp_all; done) | intro _ | exact zI ?_ ?_ | intro _))))); try (refine L.nil ?_))
  ((repeat refine S.seq ?_); refine S.cond rfl (fun h2 => ?_) (fun h2 => ?_) <;> (try first | refine S.skip ?_ | refine S.exit ?_))
  · ((repeat refine S.seq ?_); refine S.region (L.go (T := tt) tt_ok rfl rfl ?sd54 ?_); (try (case sd54 => (repeat' ((first | first | exact trivial | exact zA | with_reducible refine zI ?_ ?_ | exact zB | exact zC | exact zD | exact zE | rfl | exact zN rfl | omega | assumption | (simp; done) | (simp [splice]; done) | (simp; omega) | (unfold fits; omega) | (unfold fits; simp_all; omega) | (simp_all; omega) | (simp_all; done) | intro _ | exact zI ?_ ?_ | intro _))))); try (refine L.nil ?_))
    ((repeat refine S.seq ?_); refine S.cond rfl (fun h3 => ?_) (fun h3 => ?_) <;> (try first | refine S.skip ?_ | refine S.exit ?_))
    · ((repeat refine S.seq ?_); refine S.region (L.go (T := tt) tt_ok rfl rfl ?sd55 ?_); (try (case sd55 => (repeat' ((first | first | exact trivial | exact zA | with_reducible refine zI ?_ ?_ | exact zB | exact zC | exact zD | exact zE | rfl | exact zN rfl | omega | assumption | (simp; done) | (simp [splice]; done) | (simp; omega) | (unfold fits; omega) | (unfold fits; simp_all; omega) | (simp_all; omega) | (simp_all; done) | intro _ | exact zI ?_ ?_ | intro _))))); try (refine L.nil ?_))
      refine L.callP rfl rfl rfl rfl rfl rfl rfl ⟨trivial, by (repeat' ((first | first | exact trivial | exact zA | with_reducible refine zI ?_ ?_ | exact zB | exact zC | exact zD | exact zE | rfl | exact zN rfl | omega | assumption | (simp; done) | (simp [splice]; done) | (simp; omega) | (unfold fits; omega) | (unfold fits; simp_all; omega) | (simp_all; omega) | (simp_all; done) | intro _ | exact zI ?_ ?_ | intro _)))⟩ rfl (Imps.refl _) (small_p i h0 h1) ?_
      (refine L.go (T := tt) tt_ok rfl rfl ?sd65 ?_; (try (case sd65 => (repeat' ((first | first | exact trivial | exact zA | with_reducible refine zI ?_ ?_ | exact zB | exact zC | exact zD | exact zE | rfl | exact zN rfl | omega | assumption | (simp; done) | (simp [splice]; done) | (simp; omega) | (unfold fits; omega) | (unfold fits; simp_all; omega) | (simp_all; omega) | (simp_all; done) | intro _ | exact zI ?_ ?_ | intro _))))); try (refine L.nil ?_))
      (((repeat refine S.seq ?_); refine S.ret ?_); refine E.retP (T := tt) tt_ok rfl rfl (by (repeat' ((first | first | exact trivial | exact zA | with_reducible refine zI ?_ ?_ | exact zB | exact zC | exact zD | exact zE | rfl | exact zN rfl | omega | assumption | (simp; done) | (simp [splice]; done) | (simp; omega) | (unfold fits; omega) | (unfold fits; simp_all; omega) | (simp_all; omega) | (simp_all; done) | intro _ | exact zI ?_ ?_ | intro _)))) (Imp.of_eq ?_))
      rfl
    exfalso
    simp at h3
    omega
  cases h2
theorem iitoa_p (i : Int) (h0 : 0 ≤ i) (h1 : i < 100) : PFn Tryd.prog 24 [.v (.int .i64 i)] (.v (.string (numT i))) := by
  refine FnC.intro Tryd.func24 rfl Tryd.ntmps24 rfl ?_; intro off w0
  ((repeat refine S.seq ?_); refine S.region (L.go (T := tt) tt_ok rfl rfl ?sd56 ?_); (try (case sd56 => (repeat' ((first | first | exact trivial | exact zA | with_reducible refine zI ?_ ?_ | exact zB | exact zC | exact zD | exact zE | rfl | exact zN rfl | omega | assumption | (simp; done) | (simp [splice]; done) | (simp; omega) | (unfold fits; omega) | (unfold fits; simp_all; omega) | (simp_all; omega) | (simp_all; done) | intro _ | exact zI ?_ ?_ | intro _))))); try (refine L.nil ?_))
  ((repeat refine S.seq ?_); refine S.region (L.go (T := tt) tt_ok rfl rfl ?sd57 ?_); (try (case sd57 => (repeat' ((first | first | exact trivial | exact zA | with_reducible refine zI ?_ ?_ | exact zB | exact zC | exact zD | exact zE | rfl | exact zN rfl | omega | assumption | (simp; done) | (simp [splice]; done) | (simp; omega) | (unfold fits; omega) | (unfold fits; simp_all; omega) | (simp_all; omega) | (simp_all; done) | intro _ | exact zI ?_ ?_ | intro _))))); try (refine L.nil ?_))
  refine L.callP rfl rfl rfl rfl rfl rfl rfl ⟨trivial, by (repeat' ((first | first | exact trivial | exact zA | with_reducible refine zI ?_ ?_ | exact zB | exact zC | exact zD | exact zE | rfl | exact zN rfl | omega | assumption | (simp; done) | (simp [splice]; done) | (simp; omega) | (unfold fits; omega) | (unfold fits; simp_all; omega) | (simp_all; omega) | (simp_all; done) | intro _ | exact zI ?_ ?_ | intro _)))⟩ rfl (Imps.refl _) (formatInt_p i h0 h1) ?_
  (refine L.go (T := tt) tt_ok rfl rfl ?sd66 ?_; (try (case sd66 => (repeat' ((first | first | exact trivial | exact zA | with_reducible refine zI ?_ ?_ | exact zB | exact zC | exact zD | exact zE | rfl | exact zN rfl | omega | assumption | (simp; done) | (simp [splice]; done) | (simp; omega) | (unfold fits; omega) | (unfold fits; simp_all; omega) | (simp_all; omega) | (simp_all; done) | intro _ | exact zI ?_ ?_ | intro _))))); try (refine L.nil ?_))
  (((repeat refine S.seq ?_); refine S.ret ?_); refine E.retP (T := tt) tt_ok rfl rfl (by (repeat' ((first | first | exact trivial | exact zA | with_reducible refine zI ?_ ?_ | exact zB | exact zC | exact zD | exact zE | rfl | exact zN rfl | omega | assumption | (simp; done) | (simp [splice]; done) | (simp; omega) | (unfold fits; omega) | (unfold fits; simp_all; omega) | (simp_all; omega) | (simp_all; done) | intro _ | exact zI ?_ ?_ | intro _)))) (Imp.of_eq ?_))
  rfl
theorem itoa_p (i : Int) (h0 : 0 ≤ i) (h1 : i < 100) : PFn Tryd.prog 20 [.v (.int .i64 i)] (.v (.string (numT i))) := by
  refine FnC.intro Tryd.func20 rfl Tryd.ntmps20 rfl ?_; intro off w0
  ((repeat refine S.seq ?_); refine S.region (L.go (T := tt) tt_ok rfl rfl ?sd58 ?_); (try (case sd58 => (repeat' ((first | first | exact trivial | exact zA | with_reducible refine zI ?_ ?_ | exact zB | exact zC | exact zD | exact zE | rfl | exact zN rfl | omega | assumption | (simp; done) | (simp [splice]; done) | (simp; omega) | (unfold fits; omega) | (unfold fits; simp_all; omega) | (simp_all; omega) | (simp_all; done) | intro _ | exact zI ?_ ?_ | intro _))))); try (refine L.nil ?_))
  ((repeat refine S.seq ?_); refine S.region (L.go (T := tt) tt_ok rfl rfl ?sd59 ?_); (try (case sd59 => (repeat' ((first | first | exact trivial | exact zA | with_reducible refine zI ?_ ?_ | exact zB | exact zC | exact zD | exact zE | rfl | exact zN rfl | omega | assumption | (simp; done) | (simp [splice]; done) | (simp; omega) | (unfold fits; omega) | (unfold fits; simp_all; omega) | (simp_all; omega) | (simp_all; done) | intro _ | exact zI ?_ ?_ | intro _))))); try (refine L.nil ?_))
  refine L.callP rfl rfl rfl rfl rfl rfl rfl ⟨trivial, by (repeat' ((first | first | exact trivial | exact zA | with_reducible refine zI ?_ ?_ | exact zB | exact zC | exact zD | exact zE | rfl | exact zN rfl | omega | assumption | (simp; done) | (simp [splice]; done) | (simp; omega) | (unfold fits; omega) | (unfold fits; simp_all; omega) | (simp_all; omega) | (simp_all; done) | intro _ | exact zI ?_ ?_ | intro _)))⟩ rfl (Imps.refl _) (iitoa_p i h0 h1) ?_
  (refine L.go (T := tt) tt_ok rfl rfl ?sd67 ?_; (try (case sd67 => (repeat' ((first | first | exact trivial | exact zA | with_reducible refine zI ?_ ?_ | exact zB | exact zC | exact zD | exact zE | rfl | exact zN rfl | omega | assumption | (simp; done) | (simp [splice]; done) | (simp; omega) | (unfold fits; omega) | (unfold fits; simp_all; omega) | (simp_all; omega) | (simp_all; done) | intro _ | exact zI ?_ ?_ | intro _))))); try (refine L.nil ?_))
  (((repeat refine S.seq ?_); refine S.ret ?_); refine E.retP (T := tt) tt_ok rfl rfl (by (repeat' ((first | first | exact trivial | exact zA | with_reducible refine zI ?_ ?_ | exact zB | exact zC | exact zD | exact zE | rfl | exact zN rfl | omega | assumption | (simp; done) | (simp [splice]; done) | (simp; omega) | (unfold fits; omega) | (unfold fits; simp_all; omega) | (simp_all; omega) | (simp_all; done) | intro _ | exact zI ?_ ?_ | intro _)))) (Imp.of_eq ?_))
  rfl

def markT (a b : Int) : ByteArray := numT a ++ ⟨#[47]⟩ ++ numT b
theorem mark_p (a b : Int) (a0 : 0 ≤ a) (a1 : a < 100) (b0 : 0 ≤ b) (b1 : b < 100) : PFn Tryd.prog 12 [.v (.int .i64 a), .v (.int .i64 b)] (.v (.int .u32 (ofP (markT a b)))) := by
  have sa := numT_size a0 a1
  have sb := numT_size b0 b1
  have sc : (numT a ++ (⟨#[47]⟩ : ByteArray)).size = (numT a).size + 1 := by rw [ByteArray.size_append]; rfl
  have sd : (markT a b).size = (numT a).size + 1 + (numT b).size := by rw [markT, ByteArray.size_append, sc]
  refine FnC.intro Tryd.func12 rfl Tryd.ntmps12 rfl ?_; intro off w0
  ((repeat refine S.seq ?_); refine S.region (L.go (T := tt) tt_ok rfl rfl ?sd60 ?_); (try (case sd60 => (repeat' ((first | first | exact trivial | exact zA | with_reducible refine zI ?_ ?_ | exact zB | exact zC | exact zD | exact zE | rfl | exact zN rfl | omega | assumption | (simp; done) | (simp [splice]; done) | (simp; omega) | (unfold fits; omega) | (unfold fits; simp_all; omega) | (simp_all; omega) | (simp_all; done) | intro _ | exact zI ?_ ?_ | intro _))))); try (refine L.nil ?_))
  ((repeat refine S.seq ?_); refine S.region (L.go (T := tt) tt_ok rfl rfl ?sd61 ?_); (try (case sd61 => (repeat' ((first | first | exact trivial | exact zA | with_reducible refine zI ?_ ?_ | exact zB | exact zC | exact zD | exact zE | rfl | exact zN rfl | omega | assumption | (simp; done) | (simp [splice]; done) | (simp; omega) | (unfold fits; omega) | (unfold fits; simp_all; omega) | (simp_all; omega) | (simp_all; done) | intro _ | exact zI ?_ ?_ | intro _))))); try (refine L.nil ?_))
  refine L.callP rfl rfl rfl rfl rfl rfl rfl ⟨trivial, by (repeat' ((first | first | exact trivial | exact zA | with_reducible refine zI ?_ ?_ | exact zB | exact zC | exact zD | exact zE | rfl | exact zN rfl | omega | assumption | (simp; done) | (simp [splice]; done) | (simp; omega) | (unfold fits; omega) | (unfold fits; simp_all; omega) | (simp_all; omega) | (simp_all; done) | intro _ | exact zI ?_ ?_ | intro _)))⟩ rfl (Imps.refl _) (itoa_p a a0 a1) ?_
  (refine L.go (T := tt) tt_ok rfl rfl ?sd68 ?_; (try (case sd68 => (repeat' ((first | first | exact trivial | exact zA | with_reducible refine zI ?_ ?_ | exact zB | exact zC | exact zD | exact zE | rfl | exact zN rfl | omega | assumption | (simp; done) | (simp [splice]; done) | (simp; omega) | (unfold fits; omega) | (unfold fits; simp_all; omega) | (simp_all; omega) | (simp_all; done) | intro _ | exact zI ?_ ?_ | intro _))))); try (refine L.nil ?_))
  refine L.callP rfl rfl rfl rfl rfl rfl rfl ⟨trivial, by (repeat' ((first | first | exact trivial | exact zA | with_reducible refine zI ?_ ?_ | exact zB | exact zC | exact zD | exact zE | rfl | exact zN rfl | omega | assumption | (simp; done) | (simp [splice]; done) | (simp; omega) | (unfold fits; omega) | (unfold fits; simp_all; omega) | (simp_all; omega) | (simp_all; done) | intro _ | exact zI ?_ ?_ | intro _)))⟩ rfl (Imps.refl _) (itoa_p b b0 b1) ?_
  (refine L.go (T := tt) tt_ok rfl rfl ?sd69 ?_; (try (case sd69 => (repeat' ((first | first | exact trivial | exact zA | with_reducible refine zI ?_ ?_ | exact zB | exact zC | exact zD | exact zE | rfl | exact zN rfl | omega | assumption | (simp; done) | (simp [splice]; done) | (simp; omega) | (unfold fits; omega) | (unfold fits; simp_all; omega) | (simp_all; omega) | (simp_all; done) | intro _ | exact zI ?_ ?_ | intro _))))); try (refine L.nil ?_))
  refine L.callP rfl rfl rfl rfl rfl rfl rfl ⟨trivial, by (repeat' ((first | first | exact trivial | exact zA | with_reducible refine zI ?_ ?_ | exact zB | exact zC | exact zD | exact zE | rfl | exact zN rfl | omega | assumption | (simp; done) | (simp [splice]; done) | (simp; omega) | (unfold fits; omega) | (unfold fits; simp_all; omega) | (simp_all; omega) | (simp_all; done) | intro _ | exact zI ?_ ?_ | intro _)))⟩ rfl (Imps.refl _) (pof_p (markT a b) (by unfold fitS; omega)) ?_
  (refine L.go (T := tt) tt_ok rfl rfl ?sd70 ?_; (try (case sd70 => (repeat' ((first | first | exact trivial | exact zA | with_reducible refine zI ?_ ?_ | exact zB | exact zC | exact zD | exact zE | rfl | exact zN rfl | omega | assumption | (simp; done) | (simp [splice]; done) | (simp; omega) | (unfold fits; omega) | (unfold fits; simp_all; omega) | (simp_all; omega) | (simp_all; done) | intro _ | exact zI ?_ ?_ | intro _))))); try (refine L.nil ?_))
  (((repeat refine S.seq ?_); refine S.ret ?_); refine E.retP (T := tt) tt_ok rfl rfl (by (repeat' ((first | first | exact trivial | exact zA | with_reducible refine zI ?_ ?_ | exact zB | exact zC | exact zD | exact zE | rfl | exact zN rfl | omega | assumption | (simp; done) | (simp [splice]; done) | (simp; omega) | (unfold fits; omega) | (unfold fits; simp_all; omega) | (simp_all; omega) | (simp_all; done) | intro _ | exact zI ?_ ?_ | intro _)))) (Imp.of_eq ?_))
  rfl

theorem told2_p : PFn Tryd.prog 7 [] (.v (.bool true)) := by
  refine FnC.intro Tryd.func7 rfl Tryd.ntmps7 rfl ?_; intro off w0
  ((repeat refine S.seq ?_); refine S.region (L.go (T := tt) tt_ok rfl rfl ?sd62 ?_); (try (case sd62 => (repeat' ((first | first | exact trivial | exact zA | with_reducible refine zI ?_ ?_ | exact zB | exact zC | exact zD | exact zE | rfl | exact zN rfl | omega | assumption | (simp; done) | (simp [splice]; done) | (simp; omega) | (unfold fits; omega) | (unfold fits; simp_all; omega) | (simp_all; omega) | (simp_all; done) | intro _ | exact zI ?_ ?_ | intro _))))); try (refine L.nil ?_))
  repeat refine S.seq ?_
  refine S.region ?_
  refine L.callP rfl rfl rfl rfl rfl rfl rfl ⟨trivial, by (repeat' ((first | first | exact trivial | exact zA | with_reducible refine zI ?_ ?_ | exact zB | exact zC | exact zD | exact zE | rfl | exact zN rfl | omega | assumption | (simp; done) | (simp [splice]; done) | (simp; omega) | (unfold fits; omega) | (unfold fits; simp_all; omega) | (simp_all; omega) | (simp_all; done) | intro _ | exact zI ?_ ?_ | intro _)))⟩ rfl (Imps.refl _) (dir_p 0) ?_
  (refine L.go (T := tt) tt_ok rfl rfl ?sd71 ?_; (try (case sd71 => (repeat' ((first | first | exact trivial | exact zA | with_reducible refine zI ?_ ?_ | exact zB | exact zC | exact zD | exact zE | rfl | exact zN rfl | omega | assumption | (simp; done) | (simp [splice]; done) | (simp; omega) | (unfold fits; omega) | (unfold fits; simp_all; omega) | (simp_all; omega) | (simp_all; done) | intro _ | exact zI ?_ ?_ | intro _))))); try (refine L.nil ?_))
  refine L.callG rfl rfl rfl rfl rfl rfl rfl (fun _ => ⟨trivial, by (repeat' ((first | first | exact trivial | exact zA | with_reducible refine zI ?_ ?_ | exact zB | exact zC | exact zD | exact zE | rfl | exact zN rfl | omega | assumption | (simp; done) | (simp [splice]; done) | (simp; omega) | (unfold fits; omega) | (unfold fits; simp_all; omega) | (simp_all; omega) | (simp_all; done) | intro _ | exact zI ?_ ?_ | intro _)))⟩) rfl (Imps.refl _) (fun _ => (dir_p 2147483648)) ?_
  (refine L.go (T := tt) tt_ok rfl rfl ?sd72 ?_; (try (case sd72 => (repeat' ((first | first | exact trivial | exact zA | with_reducible refine zI ?_ ?_ | exact zB | exact zC | exact zD | exact zE | rfl | exact zN rfl | omega | assumption | (simp; done) | (simp [splice]; done) | (simp; omega) | (unfold fits; omega) | (unfold fits; simp_all; omega) | (simp_all; omega) | (simp_all; done) | intro _ | exact zI ?_ ?_ | intro _))))); try (refine L.nil ?_))
  refine L.callG rfl rfl rfl rfl rfl rfl rfl (fun _ => ⟨trivial, by (repeat' ((first | first | exact trivial | exact zA | with_reducible refine zI ?_ ?_ | exact zB | exact zC | exact zD | exact zE | rfl | exact zN rfl | omega | assumption | (simp; done) | (simp [splice]; done) | (simp; omega) | (unfold fits; omega) | (unfold fits; simp_all; omega) | (simp_all; omega) | (simp_all; done) | intro _ | exact zI ?_ ?_ | intro _)))⟩) rfl (Imps.refl _) (fun _ => (way_p 5 3)) ?_
  (refine L.go (T := tt) tt_ok rfl rfl ?sd73 ?_; (try (case sd73 => (repeat' ((first | first | exact trivial | exact zA | with_reducible refine zI ?_ ?_ | exact zB | exact zC | exact zD | exact zE | rfl | exact zN rfl | omega | assumption | (simp; done) | (simp [splice]; done) | (simp; omega) | (unfold fits; omega) | (unfold fits; simp_all; omega) | (simp_all; omega) | (simp_all; done) | intro _ | exact zI ?_ ?_ | intro _))))); try (refine L.nil ?_))
  refine L.callG rfl rfl rfl rfl rfl rfl rfl (fun _ => ⟨trivial, by (repeat' ((first | first | exact trivial | exact zA | with_reducible refine zI ?_ ?_ | exact zB | exact zC | exact zD | exact zE | rfl | exact zN rfl | omega | assumption | (simp; done) | (simp [splice]; done) | (simp; omega) | (unfold fits; omega) | (unfold fits; simp_all; omega) | (simp_all; omega) | (simp_all; done) | intro _ | exact zI ?_ ?_ | intro _)))⟩) rfl (Imps.refl _) (fun _ => (lean_p 1073741824 7 (by decide) (by decide))) ?_
  (refine L.go (T := tt) tt_ok rfl rfl ?sd74 ?_; (try (case sd74 => (repeat' ((first | first | exact trivial | exact zA | with_reducible refine zI ?_ ?_ | exact zB | exact zC | exact zD | exact zE | rfl | exact zN rfl | omega | assumption | (simp; done) | (simp [splice]; done) | (simp; omega) | (unfold fits; omega) | (unfold fits; simp_all; omega) | (simp_all; omega) | (simp_all; done) | intro _ | exact zI ?_ ?_ | intro _))))); try (refine L.nil ?_))
  refine L.callG rfl rfl rfl rfl rfl rfl rfl (fun _ => ⟨trivial, by (repeat' ((first | first | exact trivial | exact zA | with_reducible refine zI ?_ ?_ | exact zB | exact zC | exact zD | exact zE | rfl | exact zN rfl | omega | assumption | (simp; done) | (simp [splice]; done) | (simp; omega) | (unfold fits; omega) | (unfold fits; simp_all; omega) | (simp_all; omega) | (simp_all; done) | intro _ | exact zI ?_ ?_ | intro _)))⟩) rfl (Imps.refl _) (fun _ => (lean_p 0 (-1) (by decide) (by decide))) ?_
  (refine L.go (T := tt) tt_ok rfl rfl ?sd75 ?_; (try (case sd75 => (repeat' ((first | first | exact trivial | exact zA | with_reducible refine zI ?_ ?_ | exact zB | exact zC | exact zD | exact zE | rfl | exact zN rfl | omega | assumption | (simp; done) | (simp [splice]; done) | (simp; omega) | (unfold fits; omega) | (unfold fits; simp_all; omega) | (simp_all; omega) | (simp_all; done) | intro _ | exact zI ?_ ?_ | intro _))))); try (refine L.nil ?_))
  refine L.callG rfl rfl rfl rfl rfl rfl rfl (fun _ => ⟨trivial, by (repeat' ((first | first | exact trivial | exact zA | with_reducible refine zI ?_ ?_ | exact zB | exact zC | exact zD | exact zE | rfl | exact zN rfl | omega | assumption | (simp; done) | (simp [splice]; done) | (simp; omega) | (unfold fits; omega) | (unfold fits; simp_all; omega) | (simp_all; omega) | (simp_all; done) | intro _ | exact zI ?_ ?_ | intro _)))⟩) rfl (Imps.refl _) (fun _ => (mark_p 1 2 (by decide) (by decide) (by decide) (by decide))) ?_
  refine L.callG rfl rfl rfl rfl rfl rfl rfl (fun _ => ⟨trivial, by (repeat' ((first | first | exact trivial | exact zA | with_reducible refine zI ?_ ?_ | exact zB | exact zC | exact zD | exact zE | rfl | exact zN rfl | omega | assumption | (simp; done) | (simp [splice]; done) | (simp; omega) | (unfold fits; omega) | (unfold fits; simp_all; omega) | (simp_all; omega) | (simp_all; done) | intro _ | exact zI ?_ ?_ | intro _)))⟩) rfl (Imps.refl _) (fun _ => (pof_p ⟨#[49, 47, 50]⟩ (by unfold fitS; decide))) ?_
  (refine L.go (T := tt) tt_ok rfl rfl ?sd76 ?_; (try (case sd76 => (repeat' ((first | first | exact trivial | exact zA | with_reducible refine zI ?_ ?_ | exact zB | exact zC | exact zD | exact zE | rfl | exact zN rfl | omega | assumption | (simp; done) | (simp [splice]; done) | (simp; omega) | (unfold fits; omega) | (unfold fits; simp_all; omega) | (simp_all; omega) | (simp_all; done) | intro _ | exact zI ?_ ?_ | intro _))))); try (refine L.nil ?_))
  refine L.callG rfl rfl rfl rfl rfl rfl rfl (fun _ => ⟨trivial, by (repeat' ((first | first | exact trivial | exact zA | with_reducible refine zI ?_ ?_ | exact zB | exact zC | exact zD | exact zE | rfl | exact zN rfl | omega | assumption | (simp; done) | (simp [splice]; done) | (simp; omega) | (unfold fits; omega) | (unfold fits; simp_all; omega) | (simp_all; omega) | (simp_all; done) | intro _ | exact zI ?_ ?_ | intro _)))⟩) rfl (Imps.refl _) (fun _ => (pof_p ⟨#[]⟩ (by unfold fitS; decide))) ?_
  refine L.callG rfl rfl rfl rfl rfl rfl rfl (fun _ => ⟨trivial, by (repeat' ((first | first | exact trivial | exact zA | with_reducible refine zI ?_ ?_ | exact zB | exact zC | exact zD | exact zE | rfl | exact zN rfl | omega | assumption | (simp; done) | (simp [splice]; done) | (simp; omega) | (unfold fits; omega) | (unfold fits; simp_all; omega) | (simp_all; omega) | (simp_all; done) | intro _ | exact zI ?_ ?_ | intro _)))⟩) rfl (Imps.refl _) (fun _ => (rof_p ⟨#[]⟩ (by unfold fitS; decide))) ?_
  (refine L.go (T := tt) tt_ok rfl rfl ?sd77 ?_; (try (case sd77 => (repeat' ((first | first | exact trivial | exact zA | with_reducible refine zI ?_ ?_ | exact zB | exact zC | exact zD | exact zE | rfl | exact zN rfl | omega | assumption | (simp; done) | (simp [splice]; done) | (simp; omega) | (unfold fits; omega) | (unfold fits; simp_all; omega) | (simp_all; omega) | (simp_all; done) | intro _ | exact zI ?_ ?_ | intro _))))); try (refine L.nil ?_))
  (((repeat refine S.seq ?_); refine S.ret ?_); refine E.retP (T := tt) tt_ok rfl rfl (by (repeat' ((first | first | exact trivial | exact zA | with_reducible refine zI ?_ ?_ | exact zB | exact zC | exact zD | exact zE | rfl | exact zN rfl | omega | assumption | (simp; done) | (simp [splice]; done) | (simp; omega) | (unfold fits; omega) | (unfold fits; simp_all; omega) | (simp_all; omega) | (simp_all; done) | intro _ | exact zI ?_ ?_ | intro _)))) (Imp.of_eq ?_))
  kernel_rfl

end Go.Proofs.YtglmdoghknpgkaaDoor

/- Ways there, and on; quarters of the ring. -/
namespace Go.Proofs.YtglmdoghknpgkaaDoor
set_option linter.unusedVariables false
set_option linter.unusedSimpArgs false
set_option maxHeartbeats 8000000
open Go.RowKit
set_option maxRecDepth 4000

theorem u32w (z : Int) : IntKind.u32.wrap z = z % 4294967296 := rfl
theorem pointWays_p (a b c : Int) (a0 : 0 ≤ a ∧ a < 4294967296) (b0 : 0 ≤ b ∧ b < 4294967296) (c0 : 0 ≤ c ∧ c < 4294967296) :
    PFn Tryd.prog 3 [.v (.int .u32 a), .v (.int .u32 b), .v (.int .u32 c)] (.v (.bool true)) := by
  have w1 : IntKind.u32.wrap (a + wayF a b) = b := by rw [wayF, u32w, u32w]; omega
  have w2 : wayF a a = 0 := by rw [wayF, u32w]; omega
  have w3 : IntKind.u32.wrap (wayF a b + wayF b c) = wayF a c := by simp only [wayF, u32w]; omega
  refine FnC.intro Tryd.func3 rfl Tryd.ntmps3 rfl ?_; intro off w0
  ((repeat refine S.seq ?_); refine S.region (L.go (T := tt) tt_ok rfl rfl ?sd78 ?_); (try (case sd78 => (repeat' ((first | first | exact trivial | exact zA | with_reducible refine zI ?_ ?_ | exact zB | exact zC | exact zD | exact zE | rfl | exact zN rfl | omega | assumption | (simp; done) | (simp [splice]; done) | (simp; omega) | (unfold fits; omega) | (unfold fits; simp_all; omega) | (simp_all; omega) | (simp_all; done) | intro _ | exact zI ?_ ?_ | intro _))))); try (refine L.nil ?_))
  repeat refine S.seq ?_
  refine S.region ?_
  refine L.callP rfl rfl rfl rfl rfl rfl rfl ⟨trivial, by (repeat' ((first | first | exact trivial | exact zA | with_reducible refine zI ?_ ?_ | exact zB | exact zC | exact zD | exact zE | rfl | exact zN rfl | omega | assumption | (simp; done) | (simp [splice]; done) | (simp; omega) | (unfold fits; omega) | (unfold fits; simp_all; omega) | (simp_all; omega) | (simp_all; done) | intro _ | exact zI ?_ ?_ | intro _)))⟩ rfl (Imps.refl _) told2_p ?_
  (refine L.go (T := tt) tt_ok rfl rfl ?sd81 ?_; (try (case sd81 => (repeat' ((first | first | exact trivial | exact zA | with_reducible refine zI ?_ ?_ | exact zB | exact zC | exact zD | exact zE | rfl | exact zN rfl | omega | assumption | (simp; done) | (simp [splice]; done) | (simp; omega) | (unfold fits; omega) | (unfold fits; simp_all; omega) | (simp_all; omega) | (simp_all; done) | intro _ | exact zI ?_ ?_ | intro _))))); try (refine L.nil ?_))
  refine L.callG rfl rfl rfl rfl rfl rfl rfl (fun _ => ⟨trivial, by (repeat' ((first | first | exact trivial | exact zA | with_reducible refine zI ?_ ?_ | exact zB | exact zC | exact zD | exact zE | rfl | exact zN rfl | omega | assumption | (simp; done) | (simp [splice]; done) | (simp; omega) | (unfold fits; omega) | (unfold fits; simp_all; omega) | (simp_all; omega) | (simp_all; done) | intro _ | exact zI ?_ ?_ | intro _)))⟩) rfl (Imps.refl _) (fun _ => (way_p a b)) ?_
  (refine L.go (T := tt) tt_ok rfl rfl ?sd82 ?_; (try (case sd82 => (repeat' ((first | first | exact trivial | exact zA | with_reducible refine zI ?_ ?_ | exact zB | exact zC | exact zD | exact zE | rfl | exact zN rfl | omega | assumption | (simp; done) | (simp [splice]; done) | (simp; omega) | (unfold fits; omega) | (unfold fits; simp_all; omega) | (simp_all; omega) | (simp_all; done) | intro _ | exact zI ?_ ?_ | intro _))))); try (refine L.nil ?_))
  refine L.callG rfl rfl rfl rfl rfl rfl rfl (fun _ => ⟨trivial, by (repeat' ((first | first | exact trivial | exact zA | with_reducible refine zI ?_ ?_ | exact zB | exact zC | exact zD | exact zE | rfl | exact zN rfl | omega | assumption | (simp; done) | (simp [splice]; done) | (simp; omega) | (unfold fits; omega) | (unfold fits; simp_all; omega) | (simp_all; omega) | (simp_all; done) | intro _ | exact zI ?_ ?_ | intro _)))⟩) rfl (Imps.refl _) (fun _ => (way_p a a)) ?_
  (refine L.go (T := tt) tt_ok rfl rfl ?sd83 ?_; (try (case sd83 => (repeat' ((first | first | exact trivial | exact zA | with_reducible refine zI ?_ ?_ | exact zB | exact zC | exact zD | exact zE | rfl | exact zN rfl | omega | assumption | (simp; done) | (simp [splice]; done) | (simp; omega) | (unfold fits; omega) | (unfold fits; simp_all; omega) | (simp_all; omega) | (simp_all; done) | intro _ | exact zI ?_ ?_ | intro _))))); try (refine L.nil ?_))
  refine L.callG rfl rfl rfl rfl rfl rfl rfl (fun _ => ⟨trivial, by (repeat' ((first | first | exact trivial | exact zA | with_reducible refine zI ?_ ?_ | exact zB | exact zC | exact zD | exact zE | rfl | exact zN rfl | omega | assumption | (simp; done) | (simp [splice]; done) | (simp; omega) | (unfold fits; omega) | (unfold fits; simp_all; omega) | (simp_all; omega) | (simp_all; done) | intro _ | exact zI ?_ ?_ | intro _)))⟩) rfl (Imps.refl _) (fun _ => (way_p a b)) ?_
  (refine L.go (T := tt) tt_ok rfl rfl ?sd84 ?_; (try (case sd84 => (repeat' ((first | first | exact trivial | exact zA | with_reducible refine zI ?_ ?_ | exact zB | exact zC | exact zD | exact zE | rfl | exact zN rfl | omega | assumption | (simp; done) | (simp [splice]; done) | (simp; omega) | (unfold fits; omega) | (unfold fits; simp_all; omega) | (simp_all; omega) | (simp_all; done) | intro _ | exact zI ?_ ?_ | intro _))))); try (refine L.nil ?_))
  refine L.callG rfl rfl rfl rfl rfl rfl rfl (fun _ => ⟨trivial, by (repeat' ((first | first | exact trivial | exact zA | with_reducible refine zI ?_ ?_ | exact zB | exact zC | exact zD | exact zE | rfl | exact zN rfl | omega | assumption | (simp; done) | (simp [splice]; done) | (simp; omega) | (unfold fits; omega) | (unfold fits; simp_all; omega) | (simp_all; omega) | (simp_all; done) | intro _ | exact zI ?_ ?_ | intro _)))⟩) rfl (Imps.refl _) (fun _ => (way_p b c)) ?_
  (refine L.go (T := tt) tt_ok rfl rfl ?sd85 ?_; (try (case sd85 => (repeat' ((first | first | exact trivial | exact zA | with_reducible refine zI ?_ ?_ | exact zB | exact zC | exact zD | exact zE | rfl | exact zN rfl | omega | assumption | (simp; done) | (simp [splice]; done) | (simp; omega) | (unfold fits; omega) | (unfold fits; simp_all; omega) | (simp_all; omega) | (simp_all; done) | intro _ | exact zI ?_ ?_ | intro _))))); try (refine L.nil ?_))
  refine L.callG rfl rfl rfl rfl rfl rfl rfl (fun _ => ⟨trivial, by (repeat' ((first | first | exact trivial | exact zA | with_reducible refine zI ?_ ?_ | exact zB | exact zC | exact zD | exact zE | rfl | exact zN rfl | omega | assumption | (simp; done) | (simp [splice]; done) | (simp; omega) | (unfold fits; omega) | (unfold fits; simp_all; omega) | (simp_all; omega) | (simp_all; done) | intro _ | exact zI ?_ ?_ | intro _)))⟩) rfl (Imps.refl _) (fun _ => (way_p a c)) ?_
  (refine L.go (T := tt) tt_ok rfl rfl ?sd86 ?_; (try (case sd86 => (repeat' ((first | first | exact trivial | exact zA | with_reducible refine zI ?_ ?_ | exact zB | exact zC | exact zD | exact zE | rfl | exact zN rfl | omega | assumption | (simp; done) | (simp [splice]; done) | (simp; omega) | (unfold fits; omega) | (unfold fits; simp_all; omega) | (simp_all; omega) | (simp_all; done) | intro _ | exact zI ?_ ?_ | intro _))))); try (refine L.nil ?_))
  (((repeat refine S.seq ?_); refine S.ret ?_); refine E.retP (T := tt) tt_ok rfl rfl (by (repeat' ((first | first | exact trivial | exact zA | with_reducible refine zI ?_ ?_ | exact zB | exact zC | exact zD | exact zE | rfl | exact zN rfl | omega | assumption | (simp; done) | (simp [splice]; done) | (simp; omega) | (unfold fits; omega) | (unfold fits; simp_all; omega) | (simp_all; omega) | (simp_all; done) | intro _ | exact zI ?_ ?_ | intro _)))) (Imp.of_eq ?_))
  rw [w1, w2, w3]
  simp
  rfl

theorem pointDirs_p (p k : Int) (p0 : 0 ≤ p ∧ p < 4294967296) : PFn Tryd.prog 4 [.v (.int .u32 p), .v (.int .i64 k)] (.v (.bool true)) := by
  obtain ⟨n, hn⟩ : ∃ n, n = IntKind.i64.wrap (BitVec.ofInt IntKind.i64.bits k &&& BitVec.ofInt IntKind.i64.bits 3).toNat := ⟨_, rfl⟩
  have hn4 : 0 ≤ n ∧ n < 4 := by
    rw [hn]
    have : (BitVec.ofInt IntKind.i64.bits k &&& BitVec.ofInt IntKind.i64.bits 3).toNat < 4 := by
      rw [BitVec.toNat_and]
      exact Nat.lt_of_le_of_lt Nat.and_le_right (by decide)
    generalize (BitVec.ofInt IntKind.i64.bits k &&& BitVec.ofInt IntKind.i64.bits 3).toNat = m at this
    have e : IntKind.i64.wrap (m : Int) = m := wrap_fits (by unfold fits; omega)
    rw [e]
    omega
  have hs : IntKind.u32.wrap (n * 2 ^ min (30 : Int).toNat IntKind.u32.bits) = n * 1073741824 := by
    rw [show (2 : Int) ^ min (30 : Int).toNat IntKind.u32.bits = 1073741824 from rfl, u32w]; omega
  obtain ⟨q, hq⟩ : ∃ q, q = IntKind.u32.wrap (p + n * 1073741824) := ⟨_, rfl⟩
  have hq4 : 0 ≤ q ∧ q < 4294967296 := by rw [hq, u32w]; omega
  have hd := dirF_lt p0.1 p0.2
  have hdq := dirF_lt hq4.1 hq4.2
  have d1 : dirF q = IntKind.i64.wrap (BitVec.ofInt IntKind.i64.bits (dirF p + n) &&& BitVec.ofInt IntKind.i64.bits 3).toNat := by
    have e : IntKind.i64.wrap (BitVec.ofInt IntKind.i64.bits (dirF p + n) &&& BitVec.ofInt IntKind.i64.bits 3).toNat = (dirF p + n) % 4 := by
      obtain ⟨m, hm⟩ : ∃ m, m = dirF p + n := ⟨_, rfl⟩
      rw [← hm]
      have : m = 0 ∨ m = 1 ∨ m = 2 ∨ m = 3 ∨ m = 4 ∨ m = 5 ∨ m = 6 := by omega
      rcases this with rfl | rfl | rfl | rfl | rfl | rfl | rfl <;> decide +kernel
    rw [e, dirF_eq hq4.1 hq4.2, dirF_eq p0.1 p0.2, hq, u32w]
    omega
  have w1 : wayF p q = n * 1073741824 := by rw [wayF, u32w, hq, u32w]; omega
  have hwn : IntKind.i64.wrap n = n := wrap_fits (by unfold fits; omega)
  refine FnC.intro Tryd.func4 rfl Tryd.ntmps4 rfl ?_; intro off w0
  ((repeat refine S.seq ?_); refine S.region (L.go (T := tt) tt_ok rfl rfl ?sd79 ?_); (try (case sd79 => (repeat' ((first | first | exact trivial | exact zA | with_reducible refine zI ?_ ?_ | exact zB | exact zC | exact zD | exact zE | rfl | exact zN rfl | omega | assumption | (simp; done) | (simp [splice]; done) | (simp; omega) | (unfold fits; omega) | (unfold fits; simp_all; omega) | (simp_all; omega) | (simp_all; done) | intro _ | exact zI ?_ ?_ | intro _))))); try (refine L.nil ?_))
  ((repeat refine S.seq ?_); refine S.region (L.go (T := tt) tt_ok rfl rfl ?sd80 ?_); (try (case sd80 => (repeat' ((first | first | exact trivial | exact zA | with_reducible refine zI ?_ ?_ | exact zB | exact zC | exact zD | exact zE | rfl | exact zN rfl | omega | assumption | (simp; done) | (simp [splice]; done) | (simp; omega) | (unfold fits; omega) | (unfold fits; simp_all; omega) | (simp_all; omega) | (simp_all; done) | intro _ | exact zI ?_ ?_ | intro _))))); try (refine L.nil ?_))
  refine slotAs 5 (.v (.int .u32 n)) rfl (Imp.of_eq (by rw [← hn]; exact congrArg (fun z => AV.v (.int .u32 z)) (by rw [u32w]; omega))) ?_
  repeat refine S.seq ?_
  refine S.region ?_
  refine L.callP rfl rfl rfl rfl rfl rfl rfl ⟨trivial, by (repeat' ((first | first | exact trivial | exact zA | with_reducible refine zI ?_ ?_ | exact zB | exact zC | exact zD | exact zE | rfl | exact zN rfl | omega | assumption | (simp; done) | (simp [splice]; done) | (simp; omega) | (unfold fits; omega) | (unfold fits; simp_all; omega) | (simp_all; omega) | (simp_all; done) | intro _ | exact zI ?_ ?_ | intro _)))⟩ rfl (Imps.refl _) told2_p ?_
  (refine L.go (T := tt) tt_ok rfl rfl ?sd87 ?_; (try (case sd87 => (repeat' ((first | first | exact trivial | exact zA | with_reducible refine zI ?_ ?_ | exact zB | exact zC | exact zD | exact zE | rfl | exact zN rfl | omega | assumption | (simp; done) | (simp [splice]; done) | (simp; omega) | (unfold fits; omega) | (unfold fits; simp_all; omega) | (simp_all; omega) | (simp_all; done) | intro _ | exact zI ?_ ?_ | intro _))))); try (refine L.nil ?_))
  refine L.callG rfl rfl rfl rfl rfl rfl rfl (fun _ => ⟨trivial, by (repeat' ((first | first | exact trivial | exact zA | with_reducible refine zI ?_ ?_ | exact zB | exact zC | exact zD | exact zE | rfl | exact zN rfl | omega | assumption | (simp; done) | (simp [splice]; done) | (simp; omega) | (unfold fits; omega) | (unfold fits; simp_all; omega) | (simp_all; omega) | (simp_all; done) | intro _ | exact zI ?_ ?_ | intro _)))⟩) rfl (Imps.refl _) (fun _ => (dir_p _)) ?_
  (refine L.go (T := tt) tt_ok rfl rfl ?sd88 ?_; (try (case sd88 => (repeat' ((first | first | exact trivial | exact zA | with_reducible refine zI ?_ ?_ | exact zB | exact zC | exact zD | exact zE | rfl | exact zN rfl | omega | assumption | (simp; done) | (simp [splice]; done) | (simp; omega) | (unfold fits; omega) | (unfold fits; simp_all; omega) | (simp_all; omega) | (simp_all; done) | intro _ | exact zI ?_ ?_ | intro _))))); try (refine L.nil ?_))
  refine L.callG rfl rfl rfl rfl rfl rfl rfl (fun _ => ⟨trivial, by (repeat' ((first | first | exact trivial | exact zA | with_reducible refine zI ?_ ?_ | exact zB | exact zC | exact zD | exact zE | rfl | exact zN rfl | omega | assumption | (simp; done) | (simp [splice]; done) | (simp; omega) | (unfold fits; omega) | (unfold fits; simp_all; omega) | (simp_all; omega) | (simp_all; done) | intro _ | exact zI ?_ ?_ | intro _)))⟩) rfl (Imps.refl _) (fun _ => (dir_p p)) ?_
  (refine L.go (T := tt) tt_ok rfl rfl ?sd89 ?_; (try (case sd89 => (repeat' ((first | first | exact trivial | exact zA | with_reducible refine zI ?_ ?_ | exact zB | exact zC | exact zD | exact zE | rfl | exact zN rfl | omega | assumption | (simp; done) | (simp [splice]; done) | (simp; omega) | (unfold fits; omega) | (unfold fits; simp_all; omega) | (simp_all; omega) | (simp_all; done) | intro _ | exact zI ?_ ?_ | intro _))))); try (refine L.nil ?_))
  refine L.callG rfl rfl rfl rfl rfl rfl rfl (fun _ => ⟨trivial, by (repeat' ((first | first | exact trivial | exact zA | with_reducible refine zI ?_ ?_ | exact zB | exact zC | exact zD | exact zE | rfl | exact zN rfl | omega | assumption | (simp; done) | (simp [splice]; done) | (simp; omega) | (unfold fits; omega) | (unfold fits; simp_all; omega) | (simp_all; omega) | (simp_all; done) | intro _ | exact zI ?_ ?_ | intro _)))⟩) rfl (Imps.refl _) (fun _ => (dir_p p)) ?_
  (refine L.go (T := tt) tt_ok rfl rfl ?sd90 ?_; (try (case sd90 => (repeat' ((first | first | exact trivial | exact zA | with_reducible refine zI ?_ ?_ | exact zB | exact zC | exact zD | exact zE | rfl | exact zN rfl | omega | assumption | (simp; done) | (simp [splice]; done) | (simp; omega) | (unfold fits; omega) | (unfold fits; simp_all; omega) | (simp_all; omega) | (simp_all; done) | intro _ | exact zI ?_ ?_ | intro _))))); try (refine L.nil ?_))
  refine L.callG rfl rfl rfl rfl rfl rfl rfl (fun _ => ⟨trivial, by (repeat' ((first | first | exact trivial | exact zA | with_reducible refine zI ?_ ?_ | exact zB | exact zC | exact zD | exact zE | rfl | exact zN rfl | omega | assumption | (simp; done) | (simp [splice]; done) | (simp; omega) | (unfold fits; omega) | (unfold fits; simp_all; omega) | (simp_all; omega) | (simp_all; done) | intro _ | exact zI ?_ ?_ | intro _)))⟩) rfl (Imps.refl _) (fun _ => (dir_p p)) ?_
  (refine L.go (T := tt) tt_ok rfl rfl ?sd91 ?_; (try (case sd91 => (repeat' ((first | first | exact trivial | exact zA | with_reducible refine zI ?_ ?_ | exact zB | exact zC | exact zD | exact zE | rfl | exact zN rfl | omega | assumption | (simp; done) | (simp [splice]; done) | (simp; omega) | (unfold fits; omega) | (unfold fits; simp_all; omega) | (simp_all; omega) | (simp_all; done) | intro _ | exact zI ?_ ?_ | intro _))))); try (refine L.nil ?_))
  refine L.callG rfl rfl rfl rfl rfl rfl rfl (fun _ => ⟨trivial, by (repeat' ((first | first | exact trivial | exact zA | with_reducible refine zI ?_ ?_ | exact zB | exact zC | exact zD | exact zE | rfl | exact zN rfl | omega | assumption | (simp; done) | (simp [splice]; done) | (simp; omega) | (unfold fits; omega) | (unfold fits; simp_all; omega) | (simp_all; omega) | (simp_all; done) | intro _ | exact zI ?_ ?_ | intro _)))⟩) rfl (Imps.refl _) (fun _ => (way_p p _)) ?_
  (refine L.go (T := tt) tt_ok rfl rfl ?sd92 ?_; (try (case sd92 => (repeat' ((first | first | exact trivial | exact zA | with_reducible refine zI ?_ ?_ | exact zB | exact zC | exact zD | exact zE | rfl | exact zN rfl | omega | assumption | (simp; done) | (simp [splice]; done) | (simp; omega) | (unfold fits; omega) | (unfold fits; simp_all; omega) | (simp_all; omega) | (simp_all; done) | intro _ | exact zI ?_ ?_ | intro _))))); try (refine L.nil ?_))
  (((repeat refine S.seq ?_); refine S.ret ?_); refine E.retP (T := tt) tt_ok rfl rfl (by (repeat' ((first | first | exact trivial | exact zA | with_reducible refine zI ?_ ?_ | exact zB | exact zC | exact zD | exact zE | rfl | exact zN rfl | omega | assumption | (simp; done) | (simp [splice]; done) | (simp; omega) | (unfold fits; omega) | (unfold fits; simp_all; omega) | (simp_all; omega) | (simp_all; done) | intro _ | exact zI ?_ ?_ | intro _)))) (Imp.of_eq ?_))
  rw [hs, ← hq, hwn, ← d1, w1, decide_eq_true (show dirF p ≥ 0 from hd.1), decide_eq_true (show dirF p < 4 from hd.2)]
  simp
  rfl

end Go.Proofs.YtglmdoghknpgkaaDoor

/- Whole numbers as floats: sums, products, order. -/
namespace Go.Proofs.YtglmdoghknpgkaaDoor
set_option linter.unusedVariables false
set_option linter.unusedSimpArgs false
open Ieee
set_option maxRecDepth 20000

/-- The float of a sign and a whole number. -/
def fw (s : Bool) (q : Nat) : Nat := if q = 0 then double.word s 0 else double.word s ((q.log2 + 1022) * 2 ^ 52 + q * 2 ^ (52 - q.log2))
def sgn (s : Bool) (q : Nat) : Int := if s then -(q : Int) else q
theorem kept_lt {q : Nat} (h0 : q ≠ 0) (h : q < 2 ^ 53) : q.log2 ≤ 52 ∧ 2 ^ 52 ≤ q * 2 ^ (52 - q.log2) ∧ q * 2 ^ (52 - q.log2) < 2 ^ 53 := by
  have h1 : q.log2 ≤ 52 := by
    have := (Nat.log2_lt h0).2 h
    omega
  have h2 := Nat.log2_self_le h0
  have h3 : q < 2 ^ (q.log2 + 1) := (Nat.log2_lt h0).1 (by omega)
  refine ⟨h1, ?_, ?_⟩
  · calc 2 ^ 52 = 2 ^ q.log2 * 2 ^ (52 - q.log2) := by rw [← Nat.pow_add]; congr 1; omega
      _ ≤ _ := Nat.mul_le_mul_right _ h2
  · calc q * 2 ^ (52 - q.log2) < 2 ^ (q.log2 + 1) * 2 ^ (52 - q.log2) := Nat.mul_lt_mul_of_pos_right h3 (Nat.two_pow_pos _)
      _ = 2 ^ 53 := by rw [← Nat.pow_add]; congr 1; omega

theorem log2_shift {q : Nat} (h0 : q ≠ 0) (j : Nat) : (q * 2 ^ j).log2 = q.log2 + j := by
  have hp := Nat.two_pow_pos j
  have hne : q * 2 ^ j ≠ 0 := Nat.mul_ne_zero h0 (by omega)
  refine (Nat.log2_eq_iff hne).2 ⟨?_, ?_⟩
  · rw [Nat.pow_add]
    exact Nat.mul_le_mul_right _ (Nat.log2_self_le h0)
  · rw [show q.log2 + j + 1 = (q.log2 + 1) + j by omega, Nat.pow_add]
    exact Nat.mul_lt_mul_of_pos_right ((Nat.log2_lt h0).1 (by omega)) hp

theorem cut_zero (s : Bool) (n : Nat) : Toward.even.cut s n 0 = n := by
  simp [Toward.cut, Nat.mod_one]
theorem cut_exact (s : Bool) {n k d : Nat} (h0 : n ≠ 0) (h : n = k * 2 ^ d) (hd : d ≤ n.log2 + 2) : Toward.even.cut s n d = k := by
  have hp := Nat.two_pow_pos d
  unfold Toward.cut
  rw [Nat.min_eq_left hd, Nat.shiftLeft_eq, Nat.one_mul]
  have h1 : n / 2 ^ d = k := by rw [h]; exact Nat.mul_div_cancel _ hp
  have h2 : n % 2 ^ d = 0 := by rw [h]; exact Nat.mul_mod_left _ _
  have h3 : (2 ^ d == 0) = false := by simp
  simp [h1, h2, h3]

theorem near_exact (s : Bool) {q : Nat} (h : q < 2 ^ 53) (j : Nat) : double.nearest s (q * 2 ^ j) (-(j : Int)) = fw s q := by
  by_cases h0 : q = 0
  · subst h0
    simp [Format.nearest, fw]
  obtain ⟨h1, h2, h3⟩ := kept_lt h0 h
  have hp := Nat.two_pow_pos j
  have hne : q * 2 ^ j ≠ 0 := Nat.mul_ne_zero h0 (by omega)
  unfold Format.nearest
  rw [if_neg hne, log2_shift h0, fw, if_neg h0]
  have hl : double.leastPlace = -1074 := rfl
  have hf : (double.fractionBits : Int) = 52 := rfl
  have hb : double.binade = 2 ^ 52 := rfl
  have hinf : double.infRung = 2047 * 2 ^ 52 := rfl
  have hlast : max (-(j : Int) + ((q.log2 + j : Nat) : Int) - (double.fractionBits : Int)) double.leastPlace = (q.log2 : Int) - 52 := by
    rw [hl, hf]; omega
  simp only [hlast]
  have e1 : (-(j : Int) - ((q.log2 : Int) - 52)).toNat = 52 - (q.log2 + j) := by omega
  have e2 : ((q.log2 : Int) - 52 - -(j : Int)).toNat = q.log2 + j - 52 := by omega
  have e3 : ((q.log2 : Int) - 52 - double.leastPlace).toNat = q.log2 + 1022 := by rw [hl]; omega
  rw [e1, e2, e3, hb, hinf]
  have key : Toward.even.cut s ((q * 2 ^ j) <<< (52 - (q.log2 + j))) (q.log2 + j - 52) = q * 2 ^ (52 - q.log2) := by
    rw [Nat.shiftLeft_eq]
    by_cases hj : q.log2 + j ≤ 52
    · rw [show q.log2 + j - 52 = 0 by omega, cut_zero, Nat.mul_assoc, ← Nat.pow_add]
      congr 2; omega
    · rw [show 52 - (q.log2 + j) = 0 by omega, Nat.pow_zero, Nat.mul_one]
      refine cut_exact s hne ?_ (by rw [log2_shift h0]; omega)
      rw [Nat.mul_assoc, ← Nat.pow_add]
      congr 2; omega
  rw [key]
  refine congrArg (double.word s) (Nat.min_eq_left ?_)
  obtain ⟨W, hW⟩ : ∃ W : Nat, W = 2 ^ 52 := ⟨_, rfl⟩
  rw [show (2 : Nat) ^ 53 = 2 * 2 ^ 52 by decide, ← hW] at h3
  rw [← hW]
  have : q.log2 + 1022 ≤ 1074 := by omega
  have := Nat.mul_le_mul_right W this
  omega

/-- What a whole number's float reads as. -/
theorem read_fw (s : Bool) {q : Nat} (h : q < 2 ^ 53) : ∃ e : Nat, double.read (fw s q) = .number s (q * 2 ^ e) (-(e : Int)) := by
  have hsw : double.signWeight = 2 ^ 63 := rfl
  have hb : double.binade = 2 ^ 52 := rfl
  have hinf : double.infRung = 2047 * 2 ^ 52 := rfl
  have hl : double.leastPlace = -1074 := rfl
  have word : ∀ r, r < 2 ^ 63 → ((double.word s r) / double.signWeight % 2 == 1) = s ∧ (double.word s r) % double.signWeight = r := fun r hr => by
    unfold Format.word
    rw [hsw]
    cases s
    · simp only [Bool.false_eq_true, if_false]
      rw [Nat.div_eq_of_lt hr, Nat.mod_eq_of_lt hr]
      exact ⟨rfl, rfl⟩
    · simp only [if_true]
      rw [Nat.add_div_left _ (by decide), Nat.div_eq_of_lt hr, Nat.add_mod_left, Nat.mod_eq_of_lt hr]
      exact ⟨rfl, rfl⟩
  by_cases h0 : q = 0
  · subst h0
    obtain ⟨w1, w2⟩ := word 0 (by decide)
    obtain ⟨E, hE⟩ : ∃ E : Nat, E = 1074 := ⟨_, rfl⟩
    refine ⟨E, ?_⟩
    rw [Nat.zero_mul]
    unfold Format.read fw
    rw [if_pos rfl]
    simp only [w1, w2, hb, hl]
    rw [if_pos (by decide), show (-1074 : Int) = -(E : Int) by omega]
  obtain ⟨h1, h2, h3⟩ := kept_lt h0 h
  obtain ⟨K, hK⟩ : ∃ K, K = q * 2 ^ (52 - q.log2) := ⟨_, rfl⟩
  rw [← hK] at h2 h3
  have hr : (q.log2 + 1022) * 2 ^ 52 + K < 2 ^ 63 := by omega
  obtain ⟨w1, w2⟩ := word _ hr
  refine ⟨52 - q.log2, ?_⟩
  obtain ⟨W, hW⟩ : ∃ W : Nat, W = 2 ^ 52 := ⟨_, rfl⟩
  rw [← hW] at hb hinf w1 w2 h2
  rw [show (2 : Nat) ^ 53 = 2 * 2 ^ 52 by decide, ← hW] at h3
  obtain ⟨g, hg⟩ : ∃ g, g = q.log2 := ⟨_, rfl⟩
  have hg1 : g ≤ 52 := by omega
  unfold Format.read fw
  rw [if_neg h0, ← hK, ← hW]
  simp only [w1, w2, hb, hinf, hl]
  rw [← hg]
  have hW0 : 0 < W := by rw [hW]; exact Nat.two_pow_pos _
  have hm1 : (g + 1022) * W ≤ 1074 * W := Nat.mul_le_mul_right W (by omega)
  have hlo : 1022 * W ≤ (g + 1022) * W := Nat.mul_le_mul_right W (by omega)
  have hd : ((g + 1022) * W + K) / W = g + 1023 := by
    rw [Nat.add_comm, Nat.add_mul_div_right _ _ hW0]
    have : K / W = 1 := Nat.div_eq_of_lt_le (by omega) (by omega)
    omega
  have hm : ((g + 1022) * W + K) % W = K - W := by
    rw [Nat.add_comm, Nat.add_mul_mod_self_right, Nat.mod_eq_sub_mod (by omega), Nat.mod_eq_of_lt (by omega)]
  have c1 : ¬ (g + 1022) * W + K < W := by omega
  have c2 : (g + 1022) * W + K < 2047 * W := by omega
  rw [if_neg c1, if_pos c2, hd, hm]
  congr 1
  · rw [show W + (K - W) = K by omega, hK]
  · omega

theorem signed_fw (s : Bool) (q : Nat) {e g : Nat} (h : e ≤ g) : Ieee.signed s (q * 2 ^ e) (-(e : Int) - -(g : Int)).toNat = sgn s q * 2 ^ g := by
  have e1 : (-(e : Int) - -(g : Int)).toNat = g - e := by omega
  have e2 : q * 2 ^ e * 2 ^ (g - e) = q * 2 ^ g := by rw [Nat.mul_assoc, ← Nat.pow_add]; congr 2; omega
  unfold Ieee.signed sgn
  rw [e1, Nat.shiftLeft_eq, e2]
  cases s <;> simp [Int.natCast_mul, Int.natCast_pow, Int.neg_mul]

/-- A float that is a whole number. -/
def Isf (x : Nat) (z : Int) : Prop := ∃ s q, x = fw s q ∧ q < 2 ^ 53 ∧ z = sgn s q
theorem min_neg (e f : Nat) : min (-(e : Int)) (-(f : Int)) = -((max e f : Nat) : Int) := by omega

theorem Isf.add {x y : Nat} {a b : Int} (hx : Isf x a) (hy : Isf y b) (h : (a + b).natAbs < 2 ^ 53) : ∃ r, double.add x y = some r ∧ Isf r (a + b) := by
  obtain ⟨s, q, rfl, hq, rfl⟩ := hx
  obtain ⟨t, p, rfl, hp, rfl⟩ := hy
  obtain ⟨e, he⟩ := read_fw s hq
  obtain ⟨f, hf⟩ := read_fw t hp
  obtain ⟨g, hg⟩ : ∃ g, g = max e f := ⟨_, rfl⟩
  have hpow : (0 : Int) < 2 ^ g := Int.pow_pos (by decide)
  have tot : sgn s q * 2 ^ g + sgn t p * 2 ^ g = (sgn s q + sgn t p) * 2 ^ g := (Int.add_mul _ _ _).symm
  have hab : ((sgn s q + sgn t p) * 2 ^ g).natAbs = (sgn s q + sgn t p).natAbs * 2 ^ g := by rw [Int.natAbs_mul, Int.natAbs_pow]; rfl
  have hz : ((sgn s q + sgn t p) * 2 ^ g = 0) ↔ (sgn s q + sgn t p = 0) := by
    rw [Int.mul_eq_zero]
    constructor
    · rintro (h | h)
      · exact h
      · omega
    · exact .inl
  have hn : ((sgn s q + sgn t p) * 2 ^ g < 0) ↔ (sgn s q + sgn t p < 0) := by
    constructor
    · intro h
      rcases Int.lt_or_le (sgn s q + sgn t p) 0 with h1 | h1
      · exact h1
      · have := Int.mul_nonneg h1 (Int.le_of_lt hpow); omega
    · intro h; exact Int.mul_neg_of_neg_of_pos h hpow
  refine ⟨fw (if sgn s q + sgn t p = 0 then s && t else decide (sgn s q + sgn t p < 0)) (sgn s q + sgn t p).natAbs, ?_, _, _, rfl, h, ?_⟩
  · unfold Format.add
    rw [he, hf]
    simp only [Datum.sum, Option.map_some, Format.write, min_neg, ← hg]
    rw [signed_fw s q (show e ≤ g by omega), signed_fw t p (show f ≤ g by omega), tot, hab, near_exact _ h]
    simp only [hz, hn]
  · generalize sgn s q + sgn t p = z
    unfold sgn
    by_cases h1 : z = 0
    · subst h1
      simp
    · rw [if_neg h1]
      by_cases h2 : z < 0
      · rw [decide_eq_true h2, if_pos rfl]; omega
      · rw [decide_eq_false h2, if_neg (by decide)]; omega

theorem Isf.mul {x y : Nat} {a b : Int} (hx : Isf x a) (hy : Isf y b) (h : (a * b).natAbs < 2 ^ 53) : ∃ r, double.mul x y = some r ∧ Isf r (a * b) := by
  obtain ⟨s, q, rfl, hq, rfl⟩ := hx
  obtain ⟨t, p, rfl, hp, rfl⟩ := hy
  obtain ⟨e, he⟩ := read_fw s hq
  obtain ⟨f, hf⟩ := read_fw t hp
  have hab : (sgn s q * sgn t p).natAbs = q * p := by
    rw [Int.natAbs_mul]
    cases s <;> cases t <;> simp [sgn]
  rw [hab] at h
  refine ⟨fw (s ^^ t) (q * p), ?_, _, _, rfl, h, ?_⟩
  · unfold Format.mul
    rw [he, hf]
    simp only [Datum.product, Option.map_some, Format.write]
    rw [show q * 2 ^ e * (p * 2 ^ f) = (q * p) * 2 ^ (e + f) by rw [Nat.pow_add]; ac_rfl, show -(e : Int) + -(f : Int) = -((e + f : Nat) : Int) by omega, near_exact _ h]
  · cases s <;> cases t <;> simp [sgn, Int.natCast_mul, Int.mul_neg, Int.neg_mul]

theorem Isf.order {x y : Nat} {a b : Int} (hx : Isf x a) (hy : Isf y b) : (double.order x y == some .eq) = (a == b) := by
  obtain ⟨s, q, rfl, hq, rfl⟩ := hx
  obtain ⟨t, p, rfl, hp, rfl⟩ := hy
  obtain ⟨e, he⟩ := read_fw s hq
  obtain ⟨f, hf⟩ := read_fw t hp
  obtain ⟨g, hg⟩ : ∃ g, g = max e f := ⟨_, rfl⟩
  have hpow : (0 : Int) < 2 ^ g := Int.pow_pos (by decide)
  unfold Format.order
  rw [he, hf]
  simp only [Datum.order, min_neg, ← hg]
  rw [signed_fw s q (show e ≤ g by omega), signed_fw t p (show f ≤ g by omega)]
  rw [Bool.eq_iff_iff]
  simp only [beq_iff_eq, Option.some.injEq, compare, compareOfLessAndEq]
  constructor
  · intro h
    split at h
    · cases h
    · split at h
      · rename_i h2
        exact Int.eq_of_mul_eq_mul_right (by omega) h2
      · cases h
  · intro h
    rw [h, if_neg (by omega), if_pos rfl]

theorem xor_top {r : Nat} (h : r < 2 ^ 63) : r ^^^ 2 ^ 63 = 2 ^ 63 + r ∧ (2 ^ 63 + r) ^^^ 2 ^ 63 = r := by
  have e : r ^^^ 2 ^ 63 = 2 ^ 63 + r := by
    apply Nat.eq_of_testBit_eq
    intro i
    rw [Nat.testBit_xor, Nat.testBit_two_pow]
    by_cases hi : 63 = i
    · subst hi
      rw [Nat.testBit_two_pow_add_eq]
      simp [Nat.testBit_lt_two_pow h]
    · rcases Nat.lt_or_gt_of_ne hi with h2 | h2
      · have h3 : r.testBit i = false := Nat.testBit_lt_two_pow (Nat.lt_of_lt_of_le h (Nat.pow_le_pow_right (by decide) (by omega)))
        have h4 : (2 ^ 63 + r).testBit i = false := Nat.testBit_lt_two_pow (by
          have : 2 ^ 64 ≤ 2 ^ i := Nat.pow_le_pow_right (by decide) (by omega)
          omega)
        simp [h3, h4, hi]
      · rw [Nat.testBit_two_pow_add_gt h2]
        simp [hi]
  refine ⟨e, ?_⟩
  rw [← e, Nat.xor_assoc, Nat.xor_self, Nat.xor_zero]

theorem rung_lt {q : Nat} (h : q < 2 ^ 53) : q ≠ 0 → (q.log2 + 1022) * 2 ^ 52 + q * 2 ^ (52 - q.log2) < 2 ^ 63 := fun h0 => by
  obtain ⟨h1, h2, h3⟩ := kept_lt h0 h
  omega
theorem neg_fw (s : Bool) {q : Nat} (h : q < 2 ^ 53) : Op.negFloat .f64 (fw s q) = fw (!s) q := by
  have key : ∀ r, r < 2 ^ 63 → Op.negFloat .f64 (double.word s r) = double.word (!s) r := fun r hr => by
    obtain ⟨x1, x2⟩ := xor_top hr
    have hsw : double.signWeight = 2 ^ 63 := rfl
    show (double.word s r) ^^^ 2 ^ 63 = _
    unfold Format.word
    rw [hsw]
    cases s
    · exact x1
    · exact x2
  unfold fw
  by_cases h0 : q = 0
  · rw [if_pos h0, if_pos h0]
    exact key 0 (by decide)
  · rw [if_neg h0, if_neg h0]
    exact key _ (rung_lt h h0)
theorem Isf.neg {x : Nat} {a : Int} (hx : Isf x a) : Isf (Op.negFloat .f64 x) (-a) := by
  obtain ⟨s, q, rfl, hq, rfl⟩ := hx
  refine ⟨!s, q, neg_fw s hq, hq, ?_⟩
  cases s <;> simp [sgn]
theorem Isf.near {m : Int} (h0 : 0 ≤ m) (h1 : m < 9007199254740992) : Isf (FloatKind.f64.nearest m) m := by
  refine ⟨false, m.natAbs, ?_, by omega, by unfold sgn; simp; omega⟩
  have := near_exact false (q := m.natAbs) (by omega) 0
  rw [Nat.pow_zero, Nat.mul_one] at this
  rw [← this]
  show double.nearest (decide (m < 0)) m.natAbs 0 = _
  rw [decide_eq_false (by omega)]
  rfl
theorem Isf.zero : Isf 0 0 := ⟨false, 0, rfl, by decide, rfl⟩

end Go.Proofs.YtglmdoghknpgkaaDoor

/- Loads at a place add up; those on either side of the ring are none together. -/
namespace Go.Proofs.YtglmdoghknpgkaaDoor
set_option linter.unusedVariables false
set_option linter.unusedSimpArgs false
set_option maxHeartbeats 8000000
open Go.RowKit
set_option maxRecDepth 4000

def zre (d m : Int) : Int := if d = 0 then m else if d = 2 then -m else 0
def zim (d m : Int) : Int := if d = 1 then m else if d = 3 then -m else 0
theorem spin_is {z : Nat × Nat} {a b : Int} (h1 : Isf z.1 a) (h2 : Isf z.2 b) (d : Int) :
    Isf (spinC z d).1 (if d = 0 then a else if d = 1 then -b else if d = 2 then -a else b) ∧ Isf (spinC z d).2 (if d = 0 then b else if d = 1 then a else if d = 2 then -b else -a) := by
  unfold spinC
  by_cases d0 : d = 0
  · rw [if_pos d0, if_pos d0, if_pos d0]; exact ⟨h1, h2⟩
  · rw [if_neg d0, if_neg d0, if_neg d0]
    by_cases d1 : d = 1
    · rw [if_pos d1, if_pos d1, if_pos d1]; exact ⟨h2.neg, h1⟩
    · rw [if_neg d1, if_neg d1, if_neg d1]
      by_cases d2 : d = 2
      · rw [if_pos d2, if_pos d2, if_pos d2]; exact ⟨h1.neg, h2.neg⟩
      · rw [if_neg d2, if_neg d2, if_neg d2]; exact ⟨h2, h1.neg⟩
theorem lean_is (p : Int) {m : Int} (p0 : 0 ≤ p ∧ p < 4294967296) (h0 : 0 ≤ m) (h1 : m ≤ 1099511627776) : Isf (leanC p m).1 (zre (dirF p) m) ∧ Isf (leanC p m).2 (zim (dirF p) m) := by
  have hd := dirF_lt p0.1 p0.2
  have key := spin_is (z := (FloatKind.f64.nearest m, 0)) (Isf.near h0 (by omega)) Isf.zero (dirF p)
  rw [leanC, if_neg (by omega)]
  unfold zre zim
  generalize dirF p = d at *
  have : d = 0 ∨ d = 1 ∨ d = 2 ∨ d = 3 := by omega
  rcases this with rfl | rfl | rfl | rfl <;> simpa using key

def normC (z : Nat × Nat) : Nat := (FloatKind.f64.format.add ((FloatKind.f64.format.mul z.1 z.1).getD 0) ((FloatKind.f64.format.mul z.2 z.2).getD 0)).getD 0
theorem norm_p (z : Nat × Nat) (h1 : (FloatKind.f64.format.mul z.1 z.1).isSome = true) (h2 : (FloatKind.f64.format.mul z.2 z.2).isSome = true) (h3 : (FloatKind.f64.format.add ((FloatKind.f64.format.mul z.1 z.1).getD 0) ((FloatKind.f64.format.mul z.2 z.2).getD 0)).isSome = true) :
    PFn Tryd.prog 18 [cpx z] (.v (.float .f64 (normC z))) := by
  unfold cpx
  refine FnC.intro Tryd.func18 rfl Tryd.ntmps18 rfl ?_; intro off w0
  ((repeat refine S.seq ?_); refine S.region (L.go (T := tt) tt_ok rfl rfl ?sd1 ?_); (try (case sd1 => (repeat' ((first | first | exact trivial | exact zA | with_reducible refine zI ?_ ?_ | exact zB | exact zC | exact zD | exact zE | rfl | exact zN rfl | omega | assumption | (simp; done) | (simp [splice]; done) | (simp; omega) | (unfold fits; omega) | (unfold fits; simp_all; omega) | (simp_all; omega) | (simp_all; done) | intro _ | exact zI ?_ ?_ | intro _))))); try (refine L.nil ?_))
  ((repeat refine S.seq ?_); refine S.region (L.go (T := tt) tt_ok rfl rfl ?sd2 ?_); (try (case sd2 => (repeat' ((first | first | exact trivial | exact zA | with_reducible refine zI ?_ ?_ | exact zB | exact zC | exact zD | exact zE | rfl | exact zN rfl | omega | assumption | (simp; done) | (simp [splice]; done) | (simp; omega) | (unfold fits; omega) | (unfold fits; simp_all; omega) | (simp_all; omega) | (simp_all; done) | intro _ | exact zI ?_ ?_ | intro _))))); try (refine L.nil ?_))
  ((repeat refine S.seq ?_); refine S.region (L.go (T := tt) tt_ok rfl rfl ?sd3 ?_); (try (case sd3 => (repeat' ((first | first | exact trivial | exact zA | with_reducible refine zI ?_ ?_ | exact zB | exact zC | exact zD | exact zE | rfl | exact zN rfl | omega | assumption | (simp; done) | (simp [splice]; done) | (simp; omega) | (unfold fits; omega) | (unfold fits; simp_all; omega) | (simp_all; omega) | (simp_all; done) | intro _ | exact zI ?_ ?_ | intro _))))); try (refine L.nil ?_))
  (((repeat refine S.seq ?_); refine S.ret ?_); refine E.retP (T := tt) tt_ok rfl rfl (by (repeat' ((first | first | exact trivial | exact zA | with_reducible refine zI ?_ ?_ | exact zB | exact zC | exact zD | exact zE | rfl | exact zN rfl | omega | assumption | (simp; done) | (simp [splice]; done) | (simp; omega) | (unfold fits; omega) | (unfold fits; simp_all; omega) | (simp_all; omega) | (simp_all; done) | intro _ | exact zI ?_ ?_ | intro _)))) (Imp.of_eq ?_))
  rfl

theorem pointLeans_p (p a b : Int) (p0 : 0 ≤ p ∧ p < 4294967296) : PFn Tryd.prog 6 [.v (.int .u32 p), .v (.int .i64 a), .v (.int .i64 b)] (.v (.bool true)) := by
  obtain ⟨m, hm, hme⟩ := umod a 1000000 (by decide) (by decide)
  obtain ⟨n, hn, hne⟩ := umod b 1000000 (by decide) (by decide)
  obtain ⟨q, hq⟩ : ∃ q, q = IntKind.u32.wrap (p + 2147483648) := ⟨_, rfl⟩
  obtain ⟨r, hr⟩ : ∃ r, r = IntKind.u32.wrap (p + 1073741824) := ⟨_, rfl⟩
  have q0 : 0 ≤ q ∧ q < 4294967296 := by rw [hq, u32w]; omega
  have r0 : 0 ≤ r ∧ r < 4294967296 := by rw [hr, u32w]; omega
  have L1 := lean_is p (m := m) p0 (by omega) (by omega)
  have L2 := lean_is p (m := n) p0 (by omega) (by omega)
  have L3 := lean_is p (m := (m : Int) + n) p0 (by omega) (by omega)
  have L4 := lean_is q (m := m) q0 (by omega) (by omega)
  have L5 := lean_is r (m := m) r0 (by omega) (by omega)
  have hd := dirF_lt p0.1 p0.2
  have hdq : dirF q = (dirF p + 2) % 4 := by rw [dirF_eq q0.1 q0.2, dirF_eq p0.1 p0.2, hq, u32w]; omega
  have hdr : dirF r = (dirF p + 1) % 4 := by rw [dirF_eq r0.1 r0.2, dirF_eq p0.1 p0.2, hr, u32w]; omega
  rw [hdq] at L4
  rw [hdr] at L5
  obtain ⟨l, hl⟩ : ∃ l, l = leanC p m := ⟨_, rfl⟩
  obtain ⟨l2, hl2⟩ : ∃ l, l = leanC p n := ⟨_, rfl⟩
  obtain ⟨l3, hl3⟩ : ∃ l, l = leanC p ((m : Int) + n) := ⟨_, rfl⟩
  obtain ⟨l4, hl4⟩ : ∃ l, l = leanC q m := ⟨_, rfl⟩
  obtain ⟨l5, hl5⟩ : ∃ l, l = leanC r m := ⟨_, rfl⟩
  rw [← hl] at L1
  rw [← hl2] at L2
  rw [← hl3] at L3
  rw [← hl4] at L4
  rw [← hl5] at L5
  have hmm : (m : Int) * m < 1000000000000 ∧ 0 ≤ (m : Int) * m := by
    constructor
    · calc (m : Int) * m ≤ 999999 * 999999 := Int.mul_le_mul (by omega) (by omega) (by omega) (by omega)
        _ < _ := by decide
    · exact Int.mul_nonneg (by omega) (by omega)
  have fmt : FloatKind.f64.format = Ieee.double := rfl
  have bnd : ∀ d k : Int, (zre d k).natAbs ≤ k.natAbs ∧ (zim d k).natAbs ≤ k.natAbs := fun d k => by
    unfold zre zim
    constructor
    · split
      · omega
      · split <;> omega
    · split
      · omega
      · split <;> omega
  obtain ⟨b1, b2⟩ := bnd (dirF p) m
  obtain ⟨b3, b4⟩ := bnd (dirF p) n
  obtain ⟨b5, b6⟩ := bnd ((dirF p + 2) % 4) m
  obtain ⟨x1, e1, i1⟩ := L1.1.add L2.1 (by omega)
  obtain ⟨x2, e2, i2⟩ := L1.2.add L2.2 (by omega)
  obtain ⟨x3, e3, i3⟩ := L1.1.add L4.1 (by omega)
  obtain ⟨x4, e4, i4⟩ := L1.2.add L4.2 (by omega)
  have sqm : ∀ d : Int, 0 ≤ d → d < 4 → (zre d m * zre d m = m * m ∧ zim d m * zim d m = 0) ∨ (zre d m * zre d m = 0 ∧ zim d m * zim d m = m * m) := fun d d0 d1 => by
    have : d = 0 ∨ d = 1 ∨ d = 2 ∨ d = 3 := by omega
    rcases this with rfl | rfl | rfl | rfl <;> simp [zre, zim, Int.neg_mul_neg]
  have hsq := sqm (dirF p) hd.1 hd.2
  obtain ⟨x5, e5, i5⟩ := L1.1.mul L1.1 (by omega)
  obtain ⟨x6, e6, i6⟩ := L1.2.mul L1.2 (by omega)
  obtain ⟨x7, e7, i7⟩ := i5.add i6 (by omega)
  have N1 := Isf.near (m := (m : Int)) (by omega) (by omega)
  obtain ⟨x8, e8, i8⟩ := N1.mul N1 (by omega)
  have S1 := spin_is L1.1 L1.2 1
  have s1 : (FloatKind.f64.format.add l.1 l2.1).isSome = true := by rw [fmt, e1]; rfl
  have s2 : (FloatKind.f64.format.add l.2 l2.2).isSome = true := by rw [fmt, e2]; rfl
  have s3 : (FloatKind.f64.format.add l.1 l4.1).isSome = true := by rw [fmt, e3]; rfl
  have s4 : (FloatKind.f64.format.add l.2 l4.2).isSome = true := by rw [fmt, e4]; rfl
  have s5 : (FloatKind.f64.format.mul l.1 l.1).isSome = true := by rw [fmt, e5]; rfl
  have s6 : (FloatKind.f64.format.mul l.2 l.2).isSome = true := by rw [fmt, e6]; rfl
  have s7 : (FloatKind.f64.format.add ((FloatKind.f64.format.mul l.1 l.1).getD 0) ((FloatKind.f64.format.mul l.2 l.2).getD 0)).isSome = true := by
    rw [fmt, e5, e6]
    simp only [Option.getD_some]
    rw [e7]; rfl
  have s8 : (FloatKind.f64.format.mul (FloatKind.f64.nearest m) (FloatKind.f64.nearest m)).isSome = true := by rw [fmt, e8]; rfl
  refine FnC.intro Tryd.func6 rfl Tryd.ntmps6 rfl ?_; intro off w0
  ((repeat refine S.seq ?_); refine S.region (L.go (T := tt) tt_ok rfl rfl ?sd4 ?_); (try (case sd4 => (repeat' ((first | first | exact trivial | exact zA | with_reducible refine zI ?_ ?_ | exact zB | exact zC | exact zD | exact zE | rfl | exact zN rfl | omega | assumption | (simp; done) | (simp [splice]; done) | (simp; omega) | (unfold fits; omega) | (unfold fits; simp_all; omega) | (simp_all; omega) | (simp_all; done) | intro _ | exact zI ?_ ?_ | intro _))))); try (refine L.nil ?_))
  ((repeat refine S.seq ?_); refine S.region (L.go (T := tt) tt_ok rfl rfl ?sd5 ?_); (try (case sd5 => (repeat' ((first | first | exact trivial | exact zA | with_reducible refine zI ?_ ?_ | exact zB | exact zC | exact zD | exact zE | rfl | exact zN rfl | omega | assumption | (simp; done) | (simp [splice]; done) | (simp; omega) | (unfold fits; omega) | (unfold fits; simp_all; omega) | (simp_all; omega) | (simp_all; done) | intro _ | exact zI ?_ ?_ | intro _))))); try (refine L.nil ?_))
  refine slotAs 7 (.v (.int .i64 m)) rfl (Imp.of_eq (by rw [hme])) ?_
  refine slotAs 8 (.v (.int .i64 n)) rfl (Imp.of_eq (by rw [hne])) ?_
  ((repeat refine S.seq ?_); refine S.region (L.go (T := tt) tt_ok rfl rfl ?sd6 ?_); (try (case sd6 => (repeat' ((first | first | exact trivial | exact zA | with_reducible refine zI ?_ ?_ | exact zB | exact zC | exact zD | exact zE | rfl | exact zN rfl | omega | assumption | (simp; done) | (simp [splice]; done) | (simp; omega) | (unfold fits; omega) | (unfold fits; simp_all; omega) | (simp_all; omega) | (simp_all; done) | intro _ | exact zI ?_ ?_ | intro _))))); try (refine L.nil ?_))
  refine L.callP rfl rfl rfl rfl rfl rfl rfl ⟨trivial, by (repeat' ((first | first | exact trivial | exact zA | with_reducible refine zI ?_ ?_ | exact zB | exact zC | exact zD | exact zE | rfl | exact zN rfl | omega | assumption | (simp; done) | (simp [splice]; done) | (simp; omega) | (unfold fits; omega) | (unfold fits; simp_all; omega) | (simp_all; omega) | (simp_all; done) | intro _ | exact zI ?_ ?_ | intro _)))⟩ rfl (Imps.refl _) (lean_p p m p0.1 p0.2) ?_
  rw [← hl]
  (refine L.go (T := tt) tt_ok rfl rfl ?sd7 ?_; (try (case sd7 => (repeat' ((first | first | exact trivial | exact zA | with_reducible refine zI ?_ ?_ | exact zB | exact zC | exact zD | exact zE | rfl | exact zN rfl | omega | assumption | (simp; done) | (simp [splice]; done) | (simp; omega) | (unfold fits; omega) | (unfold fits; simp_all; omega) | (simp_all; omega) | (simp_all; done) | intro _ | exact zI ?_ ?_ | intro _))))); try (refine L.nil ?_))
  repeat refine S.seq ?_
  refine S.region ?_
  refine L.callP rfl rfl rfl rfl rfl rfl rfl ⟨trivial, by (repeat' ((first | first | exact trivial | exact zA | with_reducible refine zI ?_ ?_ | exact zB | exact zC | exact zD | exact zE | rfl | exact zN rfl | omega | assumption | (simp; done) | (simp [splice]; done) | (simp; omega) | (unfold fits; omega) | (unfold fits; simp_all; omega) | (simp_all; omega) | (simp_all; done) | intro _ | exact zI ?_ ?_ | intro _)))⟩ rfl (Imps.refl _) told2_p ?_
  (refine L.go (T := tt) tt_ok rfl rfl ?sd8 ?_; (try (case sd8 => (repeat' ((first | first | exact trivial | exact zA | with_reducible refine zI ?_ ?_ | exact zB | exact zC | exact zD | exact zE | rfl | exact zN rfl | omega | assumption | (simp; done) | (simp [splice]; done) | (simp; omega) | (unfold fits; omega) | (unfold fits; simp_all; omega) | (simp_all; omega) | (simp_all; done) | intro _ | exact zI ?_ ?_ | intro _))))); try (refine L.nil ?_))
  refine L.callG rfl rfl rfl rfl rfl rfl rfl (fun _ => ⟨trivial, by (repeat' ((first | first | exact trivial | exact zA | with_reducible refine zI ?_ ?_ | exact zB | exact zC | exact zD | exact zE | rfl | exact zN rfl | omega | assumption | (simp; done) | (simp [splice]; done) | (simp; omega) | (unfold fits; omega) | (unfold fits; simp_all; omega) | (simp_all; omega) | (simp_all; done) | intro _ | exact zI ?_ ?_ | intro _)))⟩) rfl (Imps.refl _) (fun _ => (lean_p p n p0.1 p0.2)) ?_
  rw [← hl2]
  (refine L.go (T := tt) tt_ok rfl rfl ?sd9 ?_; (try (case sd9 => (repeat' ((first | first | exact trivial | exact zA | with_reducible refine zI ?_ ?_ | exact zB | exact zC | exact zD | exact zE | rfl | exact zN rfl | omega | assumption | (simp; done) | (simp [splice]; done) | (simp; omega) | (unfold fits; omega) | (unfold fits; simp_all; omega) | (simp_all; omega) | (simp_all; done) | intro _ | exact zI ?_ ?_ | intro _))))); try (refine L.nil ?_))
  refine L.callG rfl rfl rfl rfl rfl rfl rfl (fun _ => ⟨trivial, by (repeat' ((first | first | exact trivial | exact zA | with_reducible refine zI ?_ ?_ | exact zB | exact zC | exact zD | exact zE | rfl | exact zN rfl | omega | assumption | (simp; done) | (simp [splice]; done) | (simp; omega) | (unfold fits; omega) | (unfold fits; simp_all; omega) | (simp_all; omega) | (simp_all; done) | intro _ | exact zI ?_ ?_ | intro _)))⟩) rfl (Imps.refl _) (fun _ => (lean_p p ((m : Int) + n) p0.1 p0.2)) ?_
  rw [← hl3]
  (refine L.go (T := tt) tt_ok rfl rfl ?sd10 ?_; (try (case sd10 => (repeat' ((first | first | exact trivial | exact zA | with_reducible refine zI ?_ ?_ | exact zB | exact zC | exact zD | exact zE | rfl | exact zN rfl | omega | assumption | (simp; done) | (simp [splice]; done) | (simp; omega) | (unfold fits; omega) | (unfold fits; simp_all; omega) | (simp_all; omega) | (simp_all; done) | intro _ | exact zI ?_ ?_ | intro _))))); try (refine L.nil ?_))
  refine L.callG rfl rfl rfl rfl rfl rfl rfl (fun _ => ⟨trivial, by (repeat' ((first | first | exact trivial | exact zA | with_reducible refine zI ?_ ?_ | exact zB | exact zC | exact zD | exact zE | rfl | exact zN rfl | omega | assumption | (simp; done) | (simp [splice]; done) | (simp; omega) | (unfold fits; omega) | (unfold fits; simp_all; omega) | (simp_all; omega) | (simp_all; done) | intro _ | exact zI ?_ ?_ | intro _)))⟩) rfl (Imps.refl _) (fun _ => (lean_p (IntKind.u32.wrap (p + 2147483648)) m (by rw [← hq]; exact q0.1) (by rw [← hq]; exact q0.2))) ?_
  rw [← hq, ← hl4]
  (refine L.go (T := tt) tt_ok rfl rfl ?sd11 ?_; (try (case sd11 => (repeat' ((first | first | exact trivial | exact zA | with_reducible refine zI ?_ ?_ | exact zB | exact zC | exact zD | exact zE | rfl | exact zN rfl | omega | assumption | (simp; done) | (simp [splice]; done) | (simp; omega) | (unfold fits; omega) | (unfold fits; simp_all; omega) | (simp_all; omega) | (simp_all; done) | intro _ | exact zI ?_ ?_ | intro _))))); try (refine L.nil ?_))
  refine L.callG rfl rfl rfl rfl rfl rfl rfl (fun _ => ⟨trivial, by (repeat' ((first | first | exact trivial | exact zA | with_reducible refine zI ?_ ?_ | exact zB | exact zC | exact zD | exact zE | rfl | exact zN rfl | omega | assumption | (simp; done) | (simp [splice]; done) | (simp; omega) | (unfold fits; omega) | (unfold fits; simp_all; omega) | (simp_all; omega) | (simp_all; done) | intro _ | exact zI ?_ ?_ | intro _)))⟩) rfl (Imps.refl _) (fun _ => (norm_p l s5 s6 s7)) ?_
  (refine L.go (T := tt) tt_ok rfl rfl ?sd12 ?_; (try (case sd12 => (repeat' ((first | first | exact trivial | exact zA | with_reducible refine zI ?_ ?_ | exact zB | exact zC | exact zD | exact zE | rfl | exact zN rfl | omega | assumption | (simp; done) | (simp [splice]; done) | (simp; omega) | (unfold fits; omega) | (unfold fits; simp_all; omega) | (simp_all; omega) | (simp_all; done) | intro _ | exact zI ?_ ?_ | intro _))))); try (refine L.nil ?_))
  refine L.callG rfl rfl rfl rfl rfl rfl rfl (fun _ => ⟨trivial, by (repeat' ((first | first | exact trivial | exact zA | with_reducible refine zI ?_ ?_ | exact zB | exact zC | exact zD | exact zE | rfl | exact zN rfl | omega | assumption | (simp; done) | (simp [splice]; done) | (simp; omega) | (unfold fits; omega) | (unfold fits; simp_all; omega) | (simp_all; omega) | (simp_all; done) | intro _ | exact zI ?_ ?_ | intro _)))⟩) rfl (Imps.refl _) (fun _ => (lean_p (IntKind.u32.wrap (p + 1073741824)) m (by rw [← hr]; exact r0.1) (by rw [← hr]; exact r0.2))) ?_
  rw [← hr, ← hl5]
  (refine L.go (T := tt) tt_ok rfl rfl ?sd13 ?_; (try (case sd13 => (repeat' ((first | first | exact trivial | exact zA | with_reducible refine zI ?_ ?_ | exact zB | exact zC | exact zD | exact zE | rfl | exact zN rfl | omega | assumption | (simp; done) | (simp [splice]; done) | (simp; omega) | (unfold fits; omega) | (unfold fits; simp_all; omega) | (simp_all; omega) | (simp_all; done) | intro _ | exact zI ?_ ?_ | intro _))))); try (refine L.nil ?_))
  refine L.callG rfl rfl rfl rfl rfl rfl rfl (fun _ => ⟨trivial, by (repeat' ((first | first | exact trivial | exact zA | with_reducible refine zI ?_ ?_ | exact zB | exact zC | exact zD | exact zE | rfl | exact zN rfl | omega | assumption | (simp; done) | (simp [splice]; done) | (simp; omega) | (unfold fits; omega) | (unfold fits; simp_all; omega) | (simp_all; omega) | (simp_all; done) | intro _ | exact zI ?_ ?_ | intro _)))⟩) rfl (Imps.refl _) (fun _ => (spin_p l 1 (by decide) (by decide))) ?_
  (refine L.go (T := tt) tt_ok rfl rfl ?sd14 ?_; (try (case sd14 => (repeat' ((first | first | exact trivial | exact zA | with_reducible refine zI ?_ ?_ | exact zB | exact zC | exact zD | exact zE | rfl | exact zN rfl | omega | assumption | (simp; done) | (simp [splice]; done) | (simp; omega) | (unfold fits; omega) | (unfold fits; simp_all; omega) | (simp_all; omega) | (simp_all; done) | intro _ | exact zI ?_ ?_ | intro _))))); try (refine L.nil ?_))
  (((repeat refine S.seq ?_); refine S.ret ?_); refine E.retP (T := tt) tt_ok rfl rfl (by (repeat' ((first | first | exact trivial | exact zA | with_reducible refine zI ?_ ?_ | exact zB | exact zC | exact zD | exact zE | rfl | exact zN rfl | omega | assumption | (simp; done) | (simp [splice]; done) | (simp; omega) | (unfold fits; omega) | (unfold fits; simp_all; omega) | (simp_all; omega) | (simp_all; done) | intro _ | exact zI ?_ ?_ | intro _)))) (Imp.of_eq ?_))
  have o1 := i1.order L3.1
  have o2 := i2.order L3.2
  have o3 := i3.order Isf.zero
  have o4 := i4.order Isf.zero
  have o5 := i7.order i8
  have o6 := L5.1.order S1.1
  have o7 := L5.2.order S1.2
  unfold normC
  simp only [fmt, e1, e2, e3, e4, e5, e6, e7, e8, Option.getD_some, o1, o2, o3, o4, o5, o6, o7]
  obtain ⟨d, hdd⟩ : ∃ d, d = dirF p := ⟨_, rfl⟩
  rw [← hdd] at hd hsq ⊢
  have : d = 0 ∨ d = 1 ∨ d = 2 ∨ d = 3 := by omega
  rcases this with rfl | rfl | rfl | rfl <;> simp [zre, zim, Int.neg_mul_neg, Int.add_right_neg, Int.add_left_neg, Int.neg_add] <;> rfl

end Go.Proofs.YtglmdoghknpgkaaDoor
