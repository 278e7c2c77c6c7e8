/- Texts of this proof, laid together: RgP, RgA, RgL, RgM, RgN, RgO, RgW, RgX. -/
import Derived.Test.YtlgdjmmjconbfaaDoorMeC
import Derived.Lib.ItoaLen
/- Points, marks. -/
namespace Go.Proofs.YtlgdjmmjconbfaaDoor
set_option linter.unusedVariables false
set_option linter.unusedSimpArgs false
set_option maxHeartbeats 8000000
open Go.RowKit
set_option maxRecDepth 4000

theorem wf_u32 {z : Int} (h : (Lit.int .u32 z).wf = true) : 0 ≤ z ∧ z < 4294967296 := by
  have e1 : IntKind.u32.min = 0 := rfl
  have e2 : IntKind.u32.max = 4294967295 := rfl
  simp only [Lit.wf, Bool.and_eq_true, decide_eq_true_eq, e1, e2] at h
  omega

/-- Of a text. -/
def x32 (a b : Int) : Int := IntKind.u32.wrap (BitVec.ofInt IntKind.u32.bits a ^^^ BitVec.ofInt IntKind.u32.bits b).toNat
def ofTo (s : ByteArray) : Nat → Int
  | 0 => 2166136261
  | k + 1 => IntKind.u32.wrap (x32 (ofTo s k) (IntKind.u32.wrap (byteAt s k)) * 16777619)
def ofEnd (h : Int) : Int := IntKind.u32.wrap (x32 h (h.fdiv (2 ^ min (15 : Int).toNat IntKind.u32.bits)) * 2246822519)
def ofP (s : ByteArray) : Int := x32 (ofEnd (ofTo s s.size)) ((ofEnd (ofTo s s.size)).fdiv (2 ^ min (13 : Int).toNat IntKind.u32.bits))

theorem pof_p (s : ByteArray) (hs : fitS s) : PFn Tryd.prog 64 [.v (.string s)] (.v (.int .u32 (ofP s))) := by
  refine FnC.intro Tryd.func64 rfl Tryd.ntmps64 rfl ?_; intro off w0
  ((repeat refine S.seq ?_); refine S.region (L.go (T := tt) tt_ok rfl rfl ?sd1 ?_); (try (case sd1 => (repeat' ((first | first | exact trivial | exact zA | with_reducible refine zI ?_ ?_ | exact zB | exact zC | exact zD | exact zE | rfl | exact zN rfl | omega | assumption | (simp; done) | (simp [splice]; done) | (simp; omega) | (unfold fits; omega) | (unfold fits; simp_all; omega) | (simp_all; omega) | (simp_all; done) | intro _ | exact zI ?_ ?_ | intro _))))); try (refine L.nil ?_))
  repeat refine S.seq ?_
  refine S.scopeE 0 (ι := { k : Nat // k ≤ s.size }) (fun k => [(0, .v (.string s)), (3, .v (.int .u32 (ofTo s k.1))), (4, .v (.int .i64 k.1))])
    (fun k => []) (fun k => s.size - k.1) rfl ?_ ?_
  · rintro ⟨k, hk⟩ J hJ
    dsimp only at hJ ⊢
    ((repeat refine S.seq ?_); refine S.region (L.go (T := tt) tt_ok rfl rfl ?sd2 ?_); (try (case sd2 => (repeat' ((first | first | exact trivial | exact zA | with_reducible refine zI ?_ ?_ | exact zB | exact zC | exact zD | exact zE | rfl | exact zN rfl | omega | assumption | (simp; done) | (simp [splice]; done) | (simp; omega) | (unfold fits; omega) | (unfold fits; simp_all; omega) | (simp_all; omega) | (simp_all; done) | intro _ | exact zI ?_ ?_ | intro _))))); try (refine L.nil ?_))
    ((repeat refine S.seq ?_); refine S.cond rfl (fun h1 => ?_) (fun h1 => ?_) <;> (try first | refine S.skip ?_ | refine S.exit ?_))
    · have h1n : k < s.size := by
        simp only [decide_eq_true_eq] at h1
        omega
      unfold fitS at hs
      ((repeat refine S.seq ?_); refine S.region (L.go (T := tt) tt_ok rfl rfl ?sd3 ?_); (try (case sd3 => (repeat' ((first | first | exact trivial | exact zA | with_reducible refine zI ?_ ?_ | exact zB | exact zC | exact zD | exact zE | rfl | exact zN rfl | omega | assumption | (simp; done) | (simp [splice]; done) | (simp; omega) | (unfold fits; omega) | (unfold fits; simp_all; omega) | (simp_all; omega) | (simp_all; done) | intro _ | exact zI ?_ ?_ | intro _))))); try (refine L.nil ?_))
      ((repeat refine S.seq ?_); refine S.region (L.go (T := tt) tt_ok rfl rfl ?sd4 ?_); (try (case sd4 => (repeat' ((first | first | exact trivial | exact zA | with_reducible refine zI ?_ ?_ | exact zB | exact zC | exact zD | exact zE | rfl | exact zN rfl | omega | assumption | (simp; done) | (simp [splice]; done) | (simp; omega) | (unfold fits; omega) | (unfold fits; simp_all; omega) | (simp_all; omega) | (simp_all; done) | intro _ | exact zI ?_ ?_ | intro _))))); try (refine L.nil ?_))
      repeat refine S.seq ?_
      refine S.goto ?_
      exact fun a w hR => ⟨rfl, hJ a w ⟨k + 1, by omega⟩ (by simp only; omega) (hR.weak (by (repeat' (first | exact True.intro | exact Imp.refl _ | refine ⟨?_, ?_⟩))) (by (repeat (first | exact List.nil_sublist _ | refine List.Sublist.cons_cons _ ?_ | refine List.Sublist.cons _ ?_))))⟩
    have hk0 : k = s.size := by
      simp only [decide_eq_false_iff_not] at h1
      omega
    subst hk0
    ((repeat refine S.seq ?_); refine S.region (L.go (T := tt) tt_ok rfl rfl ?sd5 ?_); (try (case sd5 => (repeat' ((first | first | exact trivial | exact zA | with_reducible refine zI ?_ ?_ | exact zB | exact zC | exact zD | exact zE | rfl | exact zN rfl | omega | assumption | (simp; done) | (simp [splice]; done) | (simp; omega) | (unfold fits; omega) | (unfold fits; simp_all; omega) | (simp_all; omega) | (simp_all; done) | intro _ | exact zI ?_ ?_ | intro _))))); try (refine L.nil ?_))
    ((repeat refine S.seq ?_); refine S.region (L.go (T := tt) tt_ok rfl rfl ?sd6 ?_); (try (case sd6 => (repeat' ((first | first | exact trivial | exact zA | with_reducible refine zI ?_ ?_ | exact zB | exact zC | exact zD | exact zE | rfl | exact zN rfl | omega | assumption | (simp; done) | (simp [splice]; done) | (simp; omega) | (unfold fits; omega) | (unfold fits; simp_all; omega) | (simp_all; omega) | (simp_all; done) | intro _ | exact zI ?_ ?_ | intro _))))); try (refine L.nil ?_))
    ((repeat refine S.seq ?_); refine S.region (L.go (T := tt) tt_ok rfl rfl ?sd7 ?_); (try (case sd7 => (repeat' ((first | first | exact trivial | exact zA | with_reducible refine zI ?_ ?_ | exact zB | exact zC | exact zD | exact zE | rfl | exact zN rfl | omega | assumption | (simp; done) | (simp [splice]; done) | (simp; omega) | (unfold fits; omega) | (unfold fits; simp_all; omega) | (simp_all; omega) | (simp_all; done) | intro _ | exact zI ?_ ?_ | intro _))))); try (refine L.nil ?_))
    (((repeat refine S.seq ?_); refine S.ret ?_); refine E.retP (T := tt) tt_ok rfl rfl (by (repeat' ((first | first | exact trivial | exact zA | with_reducible refine zI ?_ ?_ | exact zB | exact zC | exact zD | exact zE | rfl | exact zN rfl | omega | assumption | (simp; done) | (simp [splice]; done) | (simp; omega) | (unfold fits; omega) | (unfold fits; simp_all; omega) | (simp_all; omega) | (simp_all; done) | intro _ | exact zI ?_ ?_ | intro _)))) (Imp.of_eq ?_))
    rfl
  · intro hp
    ((repeat refine S.seq ?_); refine S.region (L.go (T := tt) tt_ok rfl rfl ?sd8 ?_); (try (case sd8 => (repeat' ((first | first | exact trivial | exact zA | with_reducible refine zI ?_ ?_ | exact zB | exact zC | exact zD | exact zE | rfl | exact zN rfl | omega | assumption | (simp; done) | (simp [splice]; done) | (simp; omega) | (unfold fits; omega) | (unfold fits; simp_all; omega) | (simp_all; omega) | (simp_all; done) | intro _ | exact zI ?_ ?_ | intro _))))); try (refine L.nil ?_))
    ((repeat refine S.seq ?_); refine S.region (L.go (T := tt) tt_ok rfl rfl ?sd9 ?_); (try (case sd9 => (repeat' ((first | first | exact trivial | exact zA | with_reducible refine zI ?_ ?_ | exact zB | exact zC | exact zD | exact zE | rfl | exact zN rfl | omega | assumption | (simp; done) | (simp [splice]; done) | (simp; omega) | (unfold fits; omega) | (unfold fits; simp_all; omega) | (simp_all; omega) | (simp_all; done) | intro _ | exact zI ?_ ?_ | intro _))))); try (refine L.nil ?_))
    repeat refine S.seq ?_
    refine S.label ?_
    exact fun a w hR => hp ⟨0, Nat.zero_le _⟩ a w (hR.weak (by (repeat' (first | exact True.intro | exact Imp.refl _ | refine ⟨?_, ?_⟩))) (by (repeat (first | exact List.nil_sublist _ | refine List.Sublist.cons_cons _ ?_ | refine List.Sublist.cons _ ?_))))
theorem rof_p (s : ByteArray) (hs : fitS s) : PFn Tryd.prog 70 [.v (.string s)] (.v (.int .u32 (ofP s))) := by
  unfold fitS at hs
  refine FnC.intro Tryd.func70 rfl Tryd.ntmps70 rfl ?_; intro off w0
  ((repeat refine S.seq ?_); refine S.region (L.go (T := tt) tt_ok rfl rfl ?sd10 ?_); (try (case sd10 => (repeat' ((first | first | exact trivial | exact zA | with_reducible refine zI ?_ ?_ | exact zB | exact zC | exact zD | exact zE | rfl | exact zN rfl | omega | assumption | (simp; done) | (simp [splice]; done) | (simp; omega) | (unfold fits; omega) | (unfold fits; simp_all; omega) | (simp_all; omega) | (simp_all; done) | intro _ | exact zI ?_ ?_ | intro _))))); try (refine L.nil ?_))
  ((repeat refine S.seq ?_); refine S.region (L.go (T := tt) tt_ok rfl rfl ?sd11 ?_); (try (case sd11 => (repeat' ((first | first | exact trivial | exact zA | with_reducible refine zI ?_ ?_ | exact zB | exact zC | exact zD | exact zE | rfl | exact zN rfl | omega | assumption | (simp; done) | (simp [splice]; done) | (simp; omega) | (unfold fits; omega) | (unfold fits; simp_all; omega) | (simp_all; omega) | (simp_all; done) | intro _ | exact zI ?_ ?_ | intro _))))); try (refine L.nil ?_))
  ((repeat refine S.seq ?_); refine S.region (L.go (T := tt) tt_ok rfl rfl ?sd12 ?_); (try (case sd12 => (repeat' ((first | first | exact trivial | exact zA | with_reducible refine zI ?_ ?_ | exact zB | exact zC | exact zD | exact zE | rfl | exact zN rfl | omega | assumption | (simp; done) | (simp [splice]; done) | (simp; omega) | (unfold fits; omega) | (unfold fits; simp_all; omega) | (simp_all; omega) | (simp_all; done) | intro _ | exact zI ?_ ?_ | intro _))))); try (refine L.nil ?_))
  repeat refine S.seq ?_
  refine S.block (S.loop (ι := { k : Nat // k ≤ s.size }) (fun k => [(0, .v (.string s)), (3, .v (.int .u32 (ofTo s k.1))), (4, .v (.int .i64 k.1))])
    (fun k => []) (fun k => s.size - k.1) ?_ ?_)
  · exact fun a w h => ⟨⟨0, Nat.zero_le _⟩, h.weak (by (repeat' (first | exact True.intro | exact Imp.refl _ | refine ⟨?_, ?_⟩))) (by (repeat (first | exact List.nil_sublist _ | refine List.Sublist.cons_cons _ ?_ | refine List.Sublist.cons _ ?_)))⟩
  rintro ⟨k, hk⟩
  dsimp only
  ((repeat refine S.seq ?_); refine S.region (L.go (T := tt) tt_ok rfl rfl ?sd13 ?_); (try (case sd13 => (repeat' ((first | first | exact trivial | exact zA | with_reducible refine zI ?_ ?_ | exact zB | exact zC | exact zD | exact zE | rfl | exact zN rfl | omega | assumption | (simp; done) | (simp [splice]; done) | (simp; omega) | (unfold fits; omega) | (unfold fits; simp_all; omega) | (simp_all; omega) | (simp_all; done) | intro _ | exact zI ?_ ?_ | intro _))))); try (refine L.nil ?_))
  ((repeat refine S.seq ?_); refine S.cond rfl (fun h1 => ?_) (fun h1 => ?_) <;> (try first | refine S.skip ?_ | refine S.exit ?_))
  · have h1 := of_dec h1
    repeat refine S.seq ?_
    refine S.block ?_
    ((repeat refine S.seq ?_); refine S.region (L.go (T := tt) tt_ok rfl rfl ?sd14 ?_); (try (case sd14 => (repeat' ((first | first | exact trivial | exact zA | with_reducible refine zI ?_ ?_ | exact zB | exact zC | exact zD | exact zE | rfl | exact zN rfl | omega | assumption | (simp; done) | (simp [splice]; done) | (simp; omega) | (unfold fits; omega) | (unfold fits; simp_all; omega) | (simp_all; omega) | (simp_all; done) | intro _ | exact zI ?_ ?_ | intro _))))); try (refine L.nil ?_))
    ((repeat refine S.seq ?_); refine S.region (L.go (T := tt) tt_ok rfl rfl ?sd15 ?_); (try (case sd15 => (repeat' ((first | first | exact trivial | exact zA | with_reducible refine zI ?_ ?_ | exact zB | exact zC | exact zD | exact zE | rfl | exact zN rfl | omega | assumption | (simp; done) | (simp [splice]; done) | (simp; omega) | (unfold fits; omega) | (unfold fits; simp_all; omega) | (simp_all; omega) | (simp_all; done) | intro _ | exact zI ?_ ?_ | intro _))))); try (refine L.nil ?_))
    exact fun a w hR => ⟨⟨k + 1, by omega⟩, by simp only; omega, hR.weak (by (repeat' (first | exact True.intro | exact Imp.refl _ | refine ⟨?_, ?_⟩))) (by (repeat (first | exact List.nil_sublist _ | refine List.Sublist.cons_cons _ ?_ | refine List.Sublist.cons _ ?_)))⟩
  · have h1 := of_dec' h1
    have hk0 : k = s.size := by omega
    subst hk0
    ((repeat refine S.seq ?_); refine S.region (L.go (T := tt) tt_ok rfl rfl ?sd16 ?_); (try (case sd16 => (repeat' ((first | first | exact trivial | exact zA | with_reducible refine zI ?_ ?_ | exact zB | exact zC | exact zD | exact zE | rfl | exact zN rfl | omega | assumption | (simp; done) | (simp [splice]; done) | (simp; omega) | (unfold fits; omega) | (unfold fits; simp_all; omega) | (simp_all; omega) | (simp_all; done) | intro _ | exact zI ?_ ?_ | intro _))))); try (refine L.nil ?_))
    ((repeat refine S.seq ?_); refine S.region (L.go (T := tt) tt_ok rfl rfl ?sd17 ?_); (try (case sd17 => (repeat' ((first | first | exact trivial | exact zA | with_reducible refine zI ?_ ?_ | exact zB | exact zC | exact zD | exact zE | rfl | exact zN rfl | omega | assumption | (simp; done) | (simp [splice]; done) | (simp; omega) | (unfold fits; omega) | (unfold fits; simp_all; omega) | (simp_all; omega) | (simp_all; done) | intro _ | exact zI ?_ ?_ | intro _))))); try (refine L.nil ?_))
    (((repeat refine S.seq ?_); refine S.ret ?_); refine E.retP (T := tt) tt_ok rfl rfl (by (repeat' ((first | first | exact trivial | exact zA | with_reducible refine zI ?_ ?_ | exact zB | exact zC | exact zD | exact zE | rfl | exact zN rfl | omega | assumption | (simp; done) | (simp [splice]; done) | (simp; omega) | (unfold fits; omega) | (unfold fits; simp_all; omega) | (simp_all; omega) | (simp_all; done) | intro _ | exact zI ?_ ?_ | intro _)))) (Imp.of_eq ?_))
    rfl

def wayF (a b : Int) : Int := IntKind.u32.wrap (b - a)
theorem way_p (a b : Int) : PFn Tryd.prog 72 [.v (.int .u32 a), .v (.int .u32 b)] (.v (.int .u32 (wayF a b))) := by
  refine FnC.intro Tryd.func72 rfl Tryd.ntmps72 rfl ?_; intro off w0
  ((repeat refine S.seq ?_); refine S.region (L.go (T := tt) tt_ok rfl rfl ?sd18 ?_); (try (case sd18 => (repeat' ((first | first | exact trivial | exact zA | with_reducible refine zI ?_ ?_ | exact zB | exact zC | exact zD | exact zE | rfl | exact zN rfl | omega | assumption | (simp; done) | (simp [splice]; done) | (simp; omega) | (unfold fits; omega) | (unfold fits; simp_all; omega) | (simp_all; omega) | (simp_all; done) | intro _ | exact zI ?_ ?_ | intro _))))); try (refine L.nil ?_))
  ((repeat refine S.seq ?_); refine S.region (L.go (T := tt) tt_ok rfl rfl ?sd19 ?_); (try (case sd19 => (repeat' ((first | first | exact trivial | exact zA | with_reducible refine zI ?_ ?_ | exact zB | exact zC | exact zD | exact zE | rfl | exact zN rfl | omega | assumption | (simp; done) | (simp [splice]; done) | (simp; omega) | (unfold fits; omega) | (unfold fits; simp_all; omega) | (simp_all; omega) | (simp_all; done) | intro _ | exact zI ?_ ?_ | intro _))))); try (refine L.nil ?_))
  (((repeat refine S.seq ?_); refine S.ret ?_); refine E.retP (T := tt) tt_ok rfl rfl (by (repeat' ((first | first | exact trivial | exact zA | with_reducible refine zI ?_ ?_ | exact zB | exact zC | exact zD | exact zE | rfl | exact zN rfl | omega | assumption | (simp; done) | (simp [splice]; done) | (simp; omega) | (unfold fits; omega) | (unfold fits; simp_all; omega) | (simp_all; omega) | (simp_all; done) | intro _ | exact zI ?_ ?_ | intro _)))) (Imp.of_eq ?_))
  rfl
def d36 : ByteArray := ⟨#[48,49,50,51,52,53,54,55,56,57,97,98,99,100,101,102,103,104,105,106,107,108,109,110,111,112,113,114,115,116,117,118,119,120,121,122]⟩
def d100 : ByteArray := ⟨#[48,48,48,49,48,50,48,51,48,52,48,53,48,54,48,55,48,56,48,57,49,48,49,49,49,50,49,51,49,52,49,53,49,54,49,55,49,56,49,57,50,48,50,49,50,50,50,51,50,52,50,53,50,54,50,55,50,56,50,57,51,48,51,49,51,50,51,51,51,52,51,53,51,54,51,55,51,56,51,57,52,48,52,49,52,50,52,51,52,52,52,53,52,54,52,55,52,56,52,57,53,48,53,49,53,50,53,51,53,52,53,53,53,54,53,55,53,56,53,57,54,48,54,49,54,50,54,51,54,52,54,53,54,54,54,55,54,56,54,57,55,48,55,49,55,50,55,51,55,52,55,53,55,54,55,55,55,56,55,57,56,48,56,49,56,50,56,51,56,52,56,53,56,54,56,55,56,56,56,57,57,48,57,49,57,50,57,51,57,52,57,53,57,54,57,55,57,56,57,57]⟩
/-- A number below a hundred, as a text. -/
def numT (i : Int) : ByteArray := if i < 10 then d36.extract i.toNat (i + 1).toNat else d100.extract (i * 2).toNat (i * 2 + 2).toNat
theorem numT_size {i : Int} (h0 : 0 ≤ i) (h1 : i < 100) : (numT i).size ≤ 2 := by
  unfold numT
  split
  · rw [ByteArray.size_extract]; omega
  · rw [ByteArray.size_extract]; omega
theorem d36_size : d36.size = 36 := rfl
theorem d100_size : d100.size = 200 := by decide +kernel
theorem small_p (i : Int) (h0 : 0 ≤ i) (h1 : i < 100) : PFn Tryd.prog 97 [.v (.int .i64 i)] (.v (.string (numT i))) := by
  have s1 := d36_size
  have s2 := d100_size
  unfold d36 at s1
  unfold d100 at s2
  refine FnC.intro Tryd.func97 rfl Tryd.ntmps97 rfl ?_; intro off w0
  ((repeat refine S.seq ?_); refine S.region (L.go (T := tt) tt_ok rfl rfl ?sd20 ?_); (try (case sd20 => (repeat' ((first | first | exact trivial | exact zA | with_reducible refine zI ?_ ?_ | exact zB | exact zC | exact zD | exact zE | rfl | exact zN rfl | omega | assumption | (simp; done) | (simp [splice]; done) | (simp; omega) | (unfold fits; omega) | (unfold fits; simp_all; omega) | (simp_all; omega) | (simp_all; done) | intro _ | exact zI ?_ ?_ | intro _))))); try (refine L.nil ?_))
  ((repeat refine S.seq ?_); refine S.region (L.go (T := tt) tt_ok rfl rfl ?sd21 ?_); (try (case sd21 => (repeat' ((first | first | exact trivial | exact zA | with_reducible refine zI ?_ ?_ | exact zB | exact zC | exact zD | exact zE | rfl | exact zN rfl | omega | assumption | (simp; done) | (simp [splice]; done) | (simp; omega) | (unfold fits; omega) | (unfold fits; simp_all; omega) | (simp_all; omega) | (simp_all; done) | intro _ | exact zI ?_ ?_ | intro _))))); try (refine L.nil ?_))
  ((repeat refine S.seq ?_); refine S.cond rfl (fun h2 => ?_) (fun h2 => ?_) <;> (try first | refine S.skip ?_ | refine S.exit ?_))
  · have h2n : i < 10 := of_dec h2
    ((repeat refine S.seq ?_); refine S.region (L.go (T := tt) tt_ok rfl rfl ?sd22 ?_); (try (case sd22 => (repeat' ((first | first | exact trivial | exact zA | with_reducible refine zI ?_ ?_ | exact zB | exact zC | exact zD | exact zE | rfl | exact zN rfl | omega | assumption | (simp; done) | (simp [splice]; done) | (simp; omega) | (unfold fits; omega) | (unfold fits; simp_all; omega) | (simp_all; omega) | (simp_all; done) | intro _ | exact zI ?_ ?_ | intro _))))); try (refine L.nil ?_))
    (((repeat refine S.seq ?_); refine S.ret ?_); refine E.retP (T := tt) tt_ok rfl rfl (by (repeat' ((first | first | exact trivial | exact zA | with_reducible refine zI ?_ ?_ | exact zB | exact zC | exact zD | exact zE | rfl | exact zN rfl | omega | assumption | (simp; done) | (simp [splice]; done) | (simp; omega) | (unfold fits; omega) | (unfold fits; simp_all; omega) | (simp_all; omega) | (simp_all; done) | intro _ | exact zI ?_ ?_ | intro _)))) (Imp.of_eq ?_))
    rw [numT, if_pos h2n]
    rfl
  have h2n : ¬ i < 10 := of_dec' h2
  ((repeat refine S.seq ?_); refine S.region (L.go (T := tt) tt_ok rfl rfl ?sd23 ?_); (try (case sd23 => (repeat' ((first | first | exact trivial | exact zA | with_reducible refine zI ?_ ?_ | exact zB | exact zC | exact zD | exact zE | rfl | exact zN rfl | omega | assumption | (simp; done) | (simp [splice]; done) | (simp; omega) | (unfold fits; omega) | (unfold fits; simp_all; omega) | (simp_all; omega) | (simp_all; done) | intro _ | exact zI ?_ ?_ | intro _))))); try (refine L.nil ?_))
  (((repeat refine S.seq ?_); refine S.ret ?_); refine E.retP (T := tt) tt_ok rfl rfl (by (repeat' ((first | first | exact trivial | exact zA | with_reducible refine zI ?_ ?_ | exact zB | exact zC | exact zD | exact zE | rfl | exact zN rfl | omega | assumption | (simp; done) | (simp [splice]; done) | (simp; omega) | (unfold fits; omega) | (unfold fits; simp_all; omega) | (simp_all; omega) | (simp_all; done) | intro _ | exact zI ?_ ?_ | intro _)))) (Imp.of_eq ?_))
  rw [numT, if_neg h2n]
  rfl
theorem formatInt_p (i : Int) (h0 : 0 ≤ i) (h1 : i < 100) : PFn Tryd.prog 91 [.v (.int .i64 i), .v (.int .i64 10)] (.v (.string (numT i))) := by
  refine FnC.intro Tryd.func91 rfl Tryd.ntmps91 rfl ?_; intro off w0
  ((repeat refine S.seq ?_); refine S.region (L.go (T := tt) tt_ok rfl rfl ?sd24 ?_); (try (case sd24 => (repeat' ((first | first | exact trivial | exact zA | with_reducible refine zI ?_ ?_ | exact zB | exact zC | exact zD | exact zE | rfl | exact zN rfl | omega | assumption | (simp; done) | (simp [splice]; done) | (simp; omega) | (unfold fits; omega) | (unfold fits; simp_all; omega) | (simp_all; omega) | (simp_all; done) | intro _ | exact zI ?_ ?_ | intro _))))); try (refine L.nil ?_))
  ((repeat refine S.seq ?_); refine S.region (L.go (T := tt) tt_ok rfl rfl ?sd25 ?_); (try (case sd25 => (repeat' ((first | first | exact trivial | exact zA | with_reducible refine zI ?_ ?_ | exact zB | exact zC | exact zD | exact zE | rfl | exact zN rfl | omega | assumption | (simp; done) | (simp [splice]; done) | (simp; omega) | (unfold fits; omega) | (unfold fits; simp_all; omega) | (simp_all; omega) | (simp_all; done) | intro _ | exact zI ?_ ?_ | intro _))))); try (refine L.nil ?_))
  ((repeat refine S.seq ?_); refine S.cond rfl (fun h2 => ?_) (fun h2 => ?_) <;> (try first | refine S.skip ?_ | refine S.exit ?_))
  · ((repeat refine S.seq ?_); refine S.region (L.go (T := tt) tt_ok rfl rfl ?sd26 ?_); (try (case sd26 => (repeat' ((first | first | exact trivial | exact zA | with_reducible refine zI ?_ ?_ | exact zB | exact zC | exact zD | exact zE | rfl | exact zN rfl | omega | assumption | (simp; done) | (simp [splice]; done) | (simp; omega) | (unfold fits; omega) | (unfold fits; simp_all; omega) | (simp_all; omega) | (simp_all; done) | intro _ | exact zI ?_ ?_ | intro _))))); try (refine L.nil ?_))
    ((repeat refine S.seq ?_); refine S.cond rfl (fun h3 => ?_) (fun h3 => ?_) <;> (try first | refine S.skip ?_ | refine S.exit ?_))
    · ((repeat refine S.seq ?_); refine S.region (L.go (T := tt) tt_ok rfl rfl ?sd27 ?_); (try (case sd27 => (repeat' ((first | first | exact trivial | exact zA | with_reducible refine zI ?_ ?_ | exact zB | exact zC | exact zD | exact zE | rfl | exact zN rfl | omega | assumption | (simp; done) | (simp [splice]; done) | (simp; omega) | (unfold fits; omega) | (unfold fits; simp_all; omega) | (simp_all; omega) | (simp_all; done) | intro _ | exact zI ?_ ?_ | intro _))))); try (refine L.nil ?_))
      refine L.callP rfl rfl rfl rfl rfl rfl rfl ⟨trivial, by (repeat' ((first | first | exact trivial | exact zA | with_reducible refine zI ?_ ?_ | exact zB | exact zC | exact zD | exact zE | rfl | exact zN rfl | omega | assumption | (simp; done) | (simp [splice]; done) | (simp; omega) | (unfold fits; omega) | (unfold fits; simp_all; omega) | (simp_all; omega) | (simp_all; done) | intro _ | exact zI ?_ ?_ | intro _)))⟩ rfl (Imps.refl _) (small_p i h0 h1) ?_
      (refine L.go (T := tt) tt_ok rfl rfl ?sd48 ?_; (try (case sd48 => (repeat' ((first | first | exact trivial | exact zA | with_reducible refine zI ?_ ?_ | exact zB | exact zC | exact zD | exact zE | rfl | exact zN rfl | omega | assumption | (simp; done) | (simp [splice]; done) | (simp; omega) | (unfold fits; omega) | (unfold fits; simp_all; omega) | (simp_all; omega) | (simp_all; done) | intro _ | exact zI ?_ ?_ | intro _))))); try (refine L.nil ?_))
      (((repeat refine S.seq ?_); refine S.ret ?_); refine E.retP (T := tt) tt_ok rfl rfl (by (repeat' ((first | first | exact trivial | exact zA | with_reducible refine zI ?_ ?_ | exact zB | exact zC | exact zD | exact zE | rfl | exact zN rfl | omega | assumption | (simp; done) | (simp [splice]; done) | (simp; omega) | (unfold fits; omega) | (unfold fits; simp_all; omega) | (simp_all; omega) | (simp_all; done) | intro _ | exact zI ?_ ?_ | intro _)))) (Imp.of_eq ?_))
      rfl
    exfalso
    simp at h3
    omega
  cases h2
theorem iitoa_p (i : Int) (h0 : 0 ≤ i) (h1 : i < 100) : PFn Tryd.prog 79 [.v (.int .i64 i)] (.v (.string (numT i))) := by
  refine FnC.intro Tryd.func79 rfl Tryd.ntmps79 rfl ?_; intro off w0
  ((repeat refine S.seq ?_); refine S.region (L.go (T := tt) tt_ok rfl rfl ?sd28 ?_); (try (case sd28 => (repeat' ((first | first | exact trivial | exact zA | with_reducible refine zI ?_ ?_ | exact zB | exact zC | exact zD | exact zE | rfl | exact zN rfl | omega | assumption | (simp; done) | (simp [splice]; done) | (simp; omega) | (unfold fits; omega) | (unfold fits; simp_all; omega) | (simp_all; omega) | (simp_all; done) | intro _ | exact zI ?_ ?_ | intro _))))); try (refine L.nil ?_))
  ((repeat refine S.seq ?_); refine S.region (L.go (T := tt) tt_ok rfl rfl ?sd29 ?_); (try (case sd29 => (repeat' ((first | first | exact trivial | exact zA | with_reducible refine zI ?_ ?_ | exact zB | exact zC | exact zD | exact zE | rfl | exact zN rfl | omega | assumption | (simp; done) | (simp [splice]; done) | (simp; omega) | (unfold fits; omega) | (unfold fits; simp_all; omega) | (simp_all; omega) | (simp_all; done) | intro _ | exact zI ?_ ?_ | intro _))))); try (refine L.nil ?_))
  refine L.callP rfl rfl rfl rfl rfl rfl rfl ⟨trivial, by (repeat' ((first | first | exact trivial | exact zA | with_reducible refine zI ?_ ?_ | exact zB | exact zC | exact zD | exact zE | rfl | exact zN rfl | omega | assumption | (simp; done) | (simp [splice]; done) | (simp; omega) | (unfold fits; omega) | (unfold fits; simp_all; omega) | (simp_all; omega) | (simp_all; done) | intro _ | exact zI ?_ ?_ | intro _)))⟩ rfl (Imps.refl _) (formatInt_p i h0 h1) ?_
  (refine L.go (T := tt) tt_ok rfl rfl ?sd49 ?_; (try (case sd49 => (repeat' ((first | first | exact trivial | exact zA | with_reducible refine zI ?_ ?_ | exact zB | exact zC | exact zD | exact zE | rfl | exact zN rfl | omega | assumption | (simp; done) | (simp [splice]; done) | (simp; omega) | (unfold fits; omega) | (unfold fits; simp_all; omega) | (simp_all; omega) | (simp_all; done) | intro _ | exact zI ?_ ?_ | intro _))))); try (refine L.nil ?_))
  (((repeat refine S.seq ?_); refine S.ret ?_); refine E.retP (T := tt) tt_ok rfl rfl (by (repeat' ((first | first | exact trivial | exact zA | with_reducible refine zI ?_ ?_ | exact zB | exact zC | exact zD | exact zE | rfl | exact zN rfl | omega | assumption | (simp; done) | (simp [splice]; done) | (simp; omega) | (unfold fits; omega) | (unfold fits; simp_all; omega) | (simp_all; omega) | (simp_all; done) | intro _ | exact zI ?_ ?_ | intro _)))) (Imp.of_eq ?_))
  rfl
theorem itoa_p (i : Int) (h0 : 0 ≤ i) (h1 : i < 100) : PFn Tryd.prog 65 [.v (.int .i64 i)] (.v (.string (numT i))) := by
  refine FnC.intro Tryd.func65 rfl Tryd.ntmps65 rfl ?_; intro off w0
  ((repeat refine S.seq ?_); refine S.region (L.go (T := tt) tt_ok rfl rfl ?sd30 ?_); (try (case sd30 => (repeat' ((first | first | exact trivial | exact zA | with_reducible refine zI ?_ ?_ | exact zB | exact zC | exact zD | exact zE | rfl | exact zN rfl | omega | assumption | (simp; done) | (simp [splice]; done) | (simp; omega) | (unfold fits; omega) | (unfold fits; simp_all; omega) | (simp_all; omega) | (simp_all; done) | intro _ | exact zI ?_ ?_ | intro _))))); try (refine L.nil ?_))
  ((repeat refine S.seq ?_); refine S.region (L.go (T := tt) tt_ok rfl rfl ?sd31 ?_); (try (case sd31 => (repeat' ((first | first | exact trivial | exact zA | with_reducible refine zI ?_ ?_ | exact zB | exact zC | exact zD | exact zE | rfl | exact zN rfl | omega | assumption | (simp; done) | (simp [splice]; done) | (simp; omega) | (unfold fits; omega) | (unfold fits; simp_all; omega) | (simp_all; omega) | (simp_all; done) | intro _ | exact zI ?_ ?_ | intro _))))); try (refine L.nil ?_))
  refine L.callP rfl rfl rfl rfl rfl rfl rfl ⟨trivial, by (repeat' ((first | first | exact trivial | exact zA | with_reducible refine zI ?_ ?_ | exact zB | exact zC | exact zD | exact zE | rfl | exact zN rfl | omega | assumption | (simp; done) | (simp [splice]; done) | (simp; omega) | (unfold fits; omega) | (unfold fits; simp_all; omega) | (simp_all; omega) | (simp_all; done) | intro _ | exact zI ?_ ?_ | intro _)))⟩ rfl (Imps.refl _) (iitoa_p i h0 h1) ?_
  (refine L.go (T := tt) tt_ok rfl rfl ?sd50 ?_; (try (case sd50 => (repeat' ((first | first | exact trivial | exact zA | with_reducible refine zI ?_ ?_ | exact zB | exact zC | exact zD | exact zE | rfl | exact zN rfl | omega | assumption | (simp; done) | (simp [splice]; done) | (simp; omega) | (unfold fits; omega) | (unfold fits; simp_all; omega) | (simp_all; omega) | (simp_all; done) | intro _ | exact zI ?_ ?_ | intro _))))); try (refine L.nil ?_))
  (((repeat refine S.seq ?_); refine S.ret ?_); refine E.retP (T := tt) tt_ok rfl rfl (by (repeat' ((first | first | exact trivial | exact zA | with_reducible refine zI ?_ ?_ | exact zB | exact zC | exact zD | exact zE | rfl | exact zN rfl | omega | assumption | (simp; done) | (simp [splice]; done) | (simp; omega) | (unfold fits; omega) | (unfold fits; simp_all; omega) | (simp_all; omega) | (simp_all; done) | intro _ | exact zI ?_ ?_ | intro _)))) (Imp.of_eq ?_))
  rfl

def markT (a b : Int) : ByteArray := numT a ++ ⟨#[47]⟩ ++ numT b
theorem mark_p (a b : Int) (a0 : 0 ≤ a) (a1 : a < 100) (b0 : 0 ≤ b) (b1 : b < 100) : PFn Tryd.prog 38 [.v (.int .i64 a), .v (.int .i64 b)] (.v (.int .u32 (ofP (markT a b)))) := by
  have sa := numT_size a0 a1
  have sb := numT_size b0 b1
  have sc : (numT a ++ (⟨#[47]⟩ : ByteArray)).size = (numT a).size + 1 := by rw [ByteArray.size_append]; rfl
  have sd : (markT a b).size = (numT a).size + 1 + (numT b).size := by rw [markT, ByteArray.size_append, sc]
  refine FnC.intro Tryd.func38 rfl Tryd.ntmps38 rfl ?_; intro off w0
  ((repeat refine S.seq ?_); refine S.region (L.go (T := tt) tt_ok rfl rfl ?sd32 ?_); (try (case sd32 => (repeat' ((first | first | exact trivial | exact zA | with_reducible refine zI ?_ ?_ | exact zB | exact zC | exact zD | exact zE | rfl | exact zN rfl | omega | assumption | (simp; done) | (simp [splice]; done) | (simp; omega) | (unfold fits; omega) | (unfold fits; simp_all; omega) | (simp_all; omega) | (simp_all; done) | intro _ | exact zI ?_ ?_ | intro _))))); try (refine L.nil ?_))
  ((repeat refine S.seq ?_); refine S.region (L.go (T := tt) tt_ok rfl rfl ?sd33 ?_); (try (case sd33 => (repeat' ((first | first | exact trivial | exact zA | with_reducible refine zI ?_ ?_ | exact zB | exact zC | exact zD | exact zE | rfl | exact zN rfl | omega | assumption | (simp; done) | (simp [splice]; done) | (simp; omega) | (unfold fits; omega) | (unfold fits; simp_all; omega) | (simp_all; omega) | (simp_all; done) | intro _ | exact zI ?_ ?_ | intro _))))); try (refine L.nil ?_))
  refine L.callP rfl rfl rfl rfl rfl rfl rfl ⟨trivial, by (repeat' ((first | first | exact trivial | exact zA | with_reducible refine zI ?_ ?_ | exact zB | exact zC | exact zD | exact zE | rfl | exact zN rfl | omega | assumption | (simp; done) | (simp [splice]; done) | (simp; omega) | (unfold fits; omega) | (unfold fits; simp_all; omega) | (simp_all; omega) | (simp_all; done) | intro _ | exact zI ?_ ?_ | intro _)))⟩ rfl (Imps.refl _) (itoa_p a a0 a1) ?_
  (refine L.go (T := tt) tt_ok rfl rfl ?sd51 ?_; (try (case sd51 => (repeat' ((first | first | exact trivial | exact zA | with_reducible refine zI ?_ ?_ | exact zB | exact zC | exact zD | exact zE | rfl | exact zN rfl | omega | assumption | (simp; done) | (simp [splice]; done) | (simp; omega) | (unfold fits; omega) | (unfold fits; simp_all; omega) | (simp_all; omega) | (simp_all; done) | intro _ | exact zI ?_ ?_ | intro _))))); try (refine L.nil ?_))
  refine L.callP rfl rfl rfl rfl rfl rfl rfl ⟨trivial, by (repeat' ((first | first | exact trivial | exact zA | with_reducible refine zI ?_ ?_ | exact zB | exact zC | exact zD | exact zE | rfl | exact zN rfl | omega | assumption | (simp; done) | (simp [splice]; done) | (simp; omega) | (unfold fits; omega) | (unfold fits; simp_all; omega) | (simp_all; omega) | (simp_all; done) | intro _ | exact zI ?_ ?_ | intro _)))⟩ rfl (Imps.refl _) (itoa_p b b0 b1) ?_
  (refine L.go (T := tt) tt_ok rfl rfl ?sd52 ?_; (try (case sd52 => (repeat' ((first | first | exact trivial | exact zA | with_reducible refine zI ?_ ?_ | exact zB | exact zC | exact zD | exact zE | rfl | exact zN rfl | omega | assumption | (simp; done) | (simp [splice]; done) | (simp; omega) | (unfold fits; omega) | (unfold fits; simp_all; omega) | (simp_all; omega) | (simp_all; done) | intro _ | exact zI ?_ ?_ | intro _))))); try (refine L.nil ?_))
  refine L.callP rfl rfl rfl rfl rfl rfl rfl ⟨trivial, by (repeat' ((first | first | exact trivial | exact zA | with_reducible refine zI ?_ ?_ | exact zB | exact zC | exact zD | exact zE | rfl | exact zN rfl | omega | assumption | (simp; done) | (simp [splice]; done) | (simp; omega) | (unfold fits; omega) | (unfold fits; simp_all; omega) | (simp_all; omega) | (simp_all; done) | intro _ | exact zI ?_ ?_ | intro _)))⟩ rfl (Imps.refl _) (pof_p (markT a b) (by unfold fitS; omega)) ?_
  (refine L.go (T := tt) tt_ok rfl rfl ?sd53 ?_; (try (case sd53 => (repeat' ((first | first | exact trivial | exact zA | with_reducible refine zI ?_ ?_ | exact zB | exact zC | exact zD | exact zE | rfl | exact zN rfl | omega | assumption | (simp; done) | (simp [splice]; done) | (simp; omega) | (unfold fits; omega) | (unfold fits; simp_all; omega) | (simp_all; omega) | (simp_all; done) | intro _ | exact zI ?_ ?_ | intro _))))); try (refine L.nil ?_))
  (((repeat refine S.seq ?_); refine S.ret ?_); refine E.retP (T := tt) tt_ok rfl rfl (by (repeat' ((first | first | exact trivial | exact zA | with_reducible refine zI ?_ ?_ | exact zB | exact zC | exact zD | exact zE | rfl | exact zN rfl | omega | assumption | (simp; done) | (simp [splice]; done) | (simp; omega) | (unfold fits; omega) | (unfold fits; simp_all; omega) | (simp_all; omega) | (simp_all; done) | intro _ | exact zI ?_ ?_ | intro _)))) (Imp.of_eq ?_))
  rfl

def numS (n : Int) : ByteArray := ⟨(Lib.itoa n).toArray⟩
theorem numS_size {n : Int} (h : fitI n) : (numS n).size ≤ 21 := by
  show (Lib.itoa n).toArray.size ≤ 21
  have := Lib.itoa_length_le n h.1 h.2
  simpa using this
def mrkT (a b : Int) : ByteArray := numS a ++ ⟨#[47]⟩ ++ numS b
def mrkF (a b : Int) : Int := ofP (mrkT a b)
theorem mrkT_size {a b : Int} (ha : fitI a) (hb : fitI b) : (numS a ++ (⟨#[47]⟩ : ByteArray)).size ≤ 22 ∧ (mrkT a b).size ≤ 43 := by
  have sa := numS_size ha
  have sb := numS_size hb
  have sc : (numS a ++ (⟨#[47]⟩ : ByteArray)).size = (numS a).size + 1 := by rw [ByteArray.size_append]; rfl
  have sd : (mrkT a b).size = (numS a).size + 1 + (numS b).size := by rw [mrkT, ByteArray.size_append, sc]
  omega
def d10 : ByteArray := ⟨#[48, 49, 50, 51, 52, 53, 54, 55, 56, 57]⟩
theorem d10_size : d10.size = 10 := rfl
theorem d10_at {d : Nat} (h : d < 10) : d10.extract d (d + 1) = ⟨#[UInt8.ofNat (48 + d)]⟩ := by
  have : d = 0 ∨ d = 1 ∨ d = 2 ∨ d = 3 ∨ d = 4 ∨ d = 5 ∨ d = 6 ∨ d = 7 ∨ d = 8 ∨ d = 9 := by omega
  rcases this with rfl | rfl | rfl | rfl | rfl | rfl | rfl | rfl | rfl | rfl <;> decide +kernel
def dgL (l : List UInt8) : ByteArray := ⟨l.toArray⟩
theorem dgL_cons (x : UInt8) (l : List UInt8) : (⟨#[x]⟩ : ByteArray) ++ dgL l = dgL (x :: l) := by
  apply ByteArray.ext
  rw [ByteArray.data_append]
  simp [dgL]
theorem dgL_size (l : List UInt8) : (dgL l).size = l.length := by
  show l.toArray.size = _
  simp
theorem dec_big {u : Nat} (h : ¬ u < 10) : Lib.decDigits u = Lib.decDigits (u / 10) ++ [UInt8.ofNat (48 + u % 10)] := by rw [Lib.decDigits, dif_neg h]
theorem dec_len {u : Nat} (h : u ≤ 9223372036854775808) : (Lib.decDigits u).length ≤ 21 := by
  rcases Nat.eq_zero_or_pos u with h0 | h0
  · subst h0
    rw [Lib.decDigits_one (by decide)]
    decide
  · have := Lib.itoa_length_le (-(u : Int)) (by omega) (by omega)
    rw [Lib.itoa_neg u h0, List.length_cons] at this
    omega
theorem u64w (z : Int) : IntKind.u64.wrap z = z % 18446744073709551616 := rfl

theorem decimal_p (n : Int) (hn : fitI n) : PFn Tryd.prog 71 [.v (.int .i64 n)] (.v (.string (numS n))) := by
  unfold fitI at hn
  have hd10 := d10_size
  unfold d10 at hd10
  obtain ⟨u0, hu0⟩ : ∃ u0, u0 = n.natAbs := ⟨_, rfl⟩
  have hlen := dec_len (u := u0) (by omega)
  refine FnC.intro Tryd.func71 rfl Tryd.ntmps71 rfl ?_; intro off w0
  ((repeat refine S.seq ?_); refine S.region (L.go (T := tt) tt_ok rfl rfl ?sd34 ?_); (try (case sd34 => (repeat' ((first | first | exact trivial | exact zA | with_reducible refine zI ?_ ?_ | exact zB | exact zC | exact zD | exact zE | rfl | exact zN rfl | omega | assumption | (simp; done) | (simp [splice]; done) | (simp; omega) | (unfold fits; omega) | (unfold fits; simp_all; omega) | (simp_all; omega) | (simp_all; done) | intro _ | exact zI ?_ ?_ | intro _))))); try (refine L.nil ?_))
  ((repeat refine S.seq ?_); refine S.region (L.go (T := tt) tt_ok rfl rfl ?sd35 ?_); (try (case sd35 => (repeat' ((first | first | exact trivial | exact zA | with_reducible refine zI ?_ ?_ | exact zB | exact zC | exact zD | exact zE | rfl | exact zN rfl | omega | assumption | (simp; done) | (simp [splice]; done) | (simp; omega) | (unfold fits; omega) | (unfold fits; simp_all; omega) | (simp_all; omega) | (simp_all; done) | intro _ | exact zI ?_ ?_ | intro _))))); try (refine L.nil ?_))
  ((repeat refine S.seq ?_); refine S.region (L.go (T := tt) tt_ok rfl rfl ?sd36 ?_); (try (case sd36 => (repeat' ((first | first | exact trivial | exact zA | with_reducible refine zI ?_ ?_ | exact zB | exact zC | exact zD | exact zE | rfl | exact zN rfl | omega | assumption | (simp; done) | (simp [splice]; done) | (simp; omega) | (unfold fits; omega) | (unfold fits; simp_all; omega) | (simp_all; omega) | (simp_all; done) | intro _ | exact zI ?_ ?_ | intro _))))); try (refine L.nil ?_))
  ((repeat refine S.seq ?_); refine S.region (L.go (T := tt) tt_ok rfl rfl ?sd37 ?_); (try (case sd37 => (repeat' ((first | first | exact trivial | exact zA | with_reducible refine zI ?_ ?_ | exact zB | exact zC | exact zD | exact zE | rfl | exact zN rfl | omega | assumption | (simp; done) | (simp [splice]; done) | (simp; omega) | (unfold fits; omega) | (unfold fits; simp_all; omega) | (simp_all; omega) | (simp_all; done) | intro _ | exact zI ?_ ?_ | intro _))))); try (refine L.nil ?_))
  refine S.cut (ι := Unit) (fun _ => [(3, .v (.string (dgL []))), (4, .v (.bool (decide (n < 0)))), (5, .v (.int .u64 (u0 : Int)))]) (fun _ => []) ?_ ?_
  · ((repeat refine S.seq ?_); refine S.cond rfl (fun h1 => ?_) (fun h1 => ?_) <;> (try first | refine S.skip ?_ | refine S.exit ?_))
    · have h1n : n < 0 := of_dec h1
      ((repeat refine S.seq ?_); refine S.region (L.go (T := tt) tt_ok rfl rfl ?sd38 ?_); (try (case sd38 => (repeat' ((first | first | exact trivial | exact zA | with_reducible refine zI ?_ ?_ | exact zB | exact zC | exact zD | exact zE | rfl | exact zN rfl | omega | assumption | (simp; done) | (simp [splice]; done) | (simp; omega) | (unfold fits; omega) | (unfold fits; simp_all; omega) | (simp_all; omega) | (simp_all; done) | intro _ | exact zI ?_ ?_ | intro _))))); try (refine L.nil ?_))
      refine slotAs 5 (.v (.int .u64 (u0 : Int))) rfl (Imp.of_eq (by
        have : IntKind.u64.wrap (0 - IntKind.u64.wrap n) = (u0 : Int) := by rw [u64w, u64w]; omega
        rw [this])) ?_
      exact fun a w hR => ⟨(), hR.weak (by (repeat' (first | exact True.intro | exact Imp.refl _ | refine ⟨?_, ?_⟩))) (by (repeat (first | exact List.nil_sublist _ | refine List.Sublist.cons_cons _ ?_ | refine List.Sublist.cons _ ?_)))⟩
    · have h1n : ¬ n < 0 := of_dec' h1
      refine slotAs 5 (.v (.int .u64 (u0 : Int))) rfl (Imp.of_eq (by
        have : IntKind.u64.wrap n = (u0 : Int) := by rw [u64w]; omega
        rw [this])) ?_
      exact fun a w hR => ⟨(), hR.weak (by (repeat' (first | exact True.intro | exact Imp.refl _ | refine ⟨?_, ?_⟩))) (by (repeat (first | exact List.nil_sublist _ | refine List.Sublist.cons_cons _ ?_ | refine List.Sublist.cons _ ?_)))⟩
  rintro ⟨⟩
  try dsimp only
  repeat refine S.seq ?_
  refine S.block (S.loop (ι := { q : Nat × List UInt8 // q.1 ≤ u0 ∧ Lib.decDigits q.1 ++ q.2 = Lib.decDigits u0 }) (fun q => [(3, .v (.string (dgL q.1.2))), (4, .v (.bool (decide (n < 0)))), (5, .v (.int .u64 (q.1.1 : Int)))]) (fun _ => []) (fun q => q.1.1) ?_ ?_)
  · exact fun a w h => ⟨⟨(u0, []), Nat.le_refl _, List.append_nil _⟩, h.weak (by (repeat' (first | exact True.intro | exact Imp.refl _ | refine ⟨?_, ?_⟩))) (by (repeat (first | exact List.nil_sublist _ | refine List.Sublist.cons_cons _ ?_ | refine List.Sublist.cons _ ?_)))⟩
  rintro ⟨⟨u, l⟩, hu, hul⟩
  dsimp only at hu hul ⊢
  have hll : l.length ≤ 21 := by
    have := congrArg List.length hul
    rw [List.length_append] at this
    omega
  have hbl := dgL_size l
  have htm : (u : Int).tmod 10 = ((u % 10 : Nat) : Int) := by rw [Int.tmod_eq_emod_of_nonneg (by omega)]; omega
  have hw1 : IntKind.u64.wrap (((u % 10 : Nat) : Int) + 1) = ((u % 10 : Nat) : Int) + 1 := by rw [u64w]; omega
  ((repeat refine S.seq ?_); refine S.region (L.go (T := tt) tt_ok rfl rfl ?sd39 ?_); (try (case sd39 => (repeat' ((first | first | exact trivial | exact zA | with_reducible refine zI ?_ ?_ | exact zB | exact zC | exact zD | exact zE | rfl | exact zN rfl | omega | assumption | (simp; done) | (simp [splice]; done) | (simp; omega) | (unfold fits; omega) | (unfold fits; simp_all; omega) | (simp_all; omega) | (simp_all; done) | intro _ | exact zI ?_ ?_ | intro _))))); try (refine L.nil ?_))
  ((repeat refine S.seq ?_); refine S.cond rfl (fun h1 => ?_) (fun h1 => ?_) <;> (try first | refine S.skip ?_ | refine S.exit ?_))
  · have h1n : ¬ u < 10 := by have := of_dec h1; omega
    have hx := d10_at (d := u % 10) (by omega)
    unfold d10 at hx
    have e20 : (⟨#[48, 49, 50, 51, 52, 53, 54, 55, 56, 57]⟩ : ByteArray).extract ((u : Int).tmod 10).toNat (IntKind.u64.wrap ((u : Int).tmod 10 + 1)).toNat = ⟨#[UInt8.ofNat (48 + u % 10)]⟩ := by
      rw [htm, hw1, show (((u % 10 : Nat) : Int) + 1).toNat = u % 10 + 1 by omega, Int.toNat_natCast, hx]
    have s20 : (⟨#[UInt8.ofNat (48 + u % 10)]⟩ : ByteArray).size = 1 := rfl
    have c1 : 0 ≤ (u : Int).tmod 10 ∧ (u : Int).tmod 10 ≤ IntKind.u64.wrap ((u : Int).tmod 10 + 1) ∧ IntKind.u64.wrap ((u : Int).tmod 10 + 1) ≤ 10 := by rw [htm, hw1]; omega
    repeat refine S.seq ?_
    refine S.block ?_
    ((repeat refine S.seq ?_); refine S.region (L.go (T := tt) tt_ok rfl rfl ?sd40 ?_); (try (case sd40 => (repeat' ((first | first | exact trivial | exact zA | with_reducible refine zI ?_ ?_ | exact zB | exact zC | exact zD | exact zE | rfl | exact zN rfl | omega | assumption | (simp; done) | (simp [splice]; done) | (simp; omega) | (unfold fits; omega) | (unfold fits; simp_all; omega) | (simp_all; omega) | (simp_all; done) | intro _ | exact zI ?_ ?_ | intro _))))); try (refine L.nil ?_))
    refine slotAs 3 (.v (.string (dgL (UInt8.ofNat (48 + u % 10) :: l)))) rfl (Imp.of_eq (by rw [← dgL_cons, ← e20])) ?_
    ((repeat refine S.seq ?_); refine S.region (L.go (T := tt) tt_ok rfl rfl ?sd41 ?_); (try (case sd41 => (repeat' ((first | first | exact trivial | exact zA | with_reducible refine zI ?_ ?_ | exact zB | exact zC | exact zD | exact zE | rfl | exact zN rfl | omega | assumption | (simp; done) | (simp [splice]; done) | (simp; omega) | (unfold fits; omega) | (unfold fits; simp_all; omega) | (simp_all; omega) | (simp_all; done) | intro _ | exact zI ?_ ?_ | intro _))))); try (refine L.nil ?_))
    have hq : IntKind.u64.wrap ((u : Int).tdiv 10) = ((u / 10 : Nat) : Int) := by rw [u64w, Int.tdiv_eq_ediv_of_nonneg (by omega)]; omega
    refine slotAs 5 (.v (.int .u64 ((u / 10 : Nat) : Int))) rfl (Imp.of_eq (by rw [hq])) ?_
    exact fun a w hR => ⟨⟨(u / 10, UInt8.ofNat (48 + u % 10) :: l), by show u / 10 ≤ u0; omega, by rw [← hul, dec_big h1n, List.append_assoc]; rfl⟩, by show u / 10 < u; omega, hR.weak (by (repeat' (first | exact True.intro | exact Imp.refl _ | refine ⟨?_, ?_⟩))) (by (repeat (first | exact List.nil_sublist _ | refine List.Sublist.cons_cons _ ?_ | refine List.Sublist.cons _ ?_)))⟩
  · have h1n : u < 10 := by have := of_dec' h1; omega
    have hx := d10_at h1n
    unfold d10 at hx
    have hwu : IntKind.u64.wrap ((u : Int) + 1) = (u : Int) + 1 := by rw [u64w]; omega
    have e20 : (⟨#[48, 49, 50, 51, 52, 53, 54, 55, 56, 57]⟩ : ByteArray).extract ((u : Int)).toNat (IntKind.u64.wrap ((u : Int) + 1)).toNat = ⟨#[UInt8.ofNat (48 + u)]⟩ := by
      rw [hwu, show ((u : Int) + 1).toNat = u + 1 by omega, Int.toNat_natCast, hx]
    have s20 : (⟨#[UInt8.ofNat (48 + u)]⟩ : ByteArray).size = 1 := rfl
    have c1 : 0 ≤ (u : Int) ∧ (u : Int) ≤ IntKind.u64.wrap ((u : Int) + 1) ∧ IntKind.u64.wrap ((u : Int) + 1) ≤ 10 := by rw [hwu]; omega
    have hfin : UInt8.ofNat (48 + u) :: l = Lib.decDigits u0 := by rw [← hul, Lib.decDigits_one h1n]; rfl
    ((repeat refine S.seq ?_); refine S.region (L.go (T := tt) tt_ok rfl rfl ?sd42 ?_); (try (case sd42 => (repeat' ((first | first | exact trivial | exact zA | with_reducible refine zI ?_ ?_ | exact zB | exact zC | exact zD | exact zE | rfl | exact zN rfl | omega | assumption | (simp; done) | (simp [splice]; done) | (simp; omega) | (unfold fits; omega) | (unfold fits; simp_all; omega) | (simp_all; omega) | (simp_all; done) | intro _ | exact zI ?_ ?_ | intro _))))); try (refine L.nil ?_))
    refine slotAs 3 (.v (.string (dgL (Lib.decDigits u0)))) rfl (Imp.of_eq (by rw [← hfin, ← dgL_cons, ← e20])) ?_
    have hds := dgL_size (Lib.decDigits u0)
    ((repeat refine S.seq ?_); refine S.region (L.go (T := tt) tt_ok rfl rfl ?sd43 ?_); (try (case sd43 => (repeat' ((first | first | exact trivial | exact zA | with_reducible refine zI ?_ ?_ | exact zB | exact zC | exact zD | exact zE | rfl | exact zN rfl | omega | assumption | (simp; done) | (simp [splice]; done) | (simp; omega) | (unfold fits; omega) | (unfold fits; simp_all; omega) | (simp_all; omega) | (simp_all; done) | intro _ | exact zI ?_ ?_ | intro _))))); try (refine L.nil ?_))
    ((repeat refine S.seq ?_); refine S.cond rfl (fun h2 => ?_) (fun h2 => ?_) <;> (try first | refine S.skip ?_ | refine S.exit ?_))
    · have h2n : n < 0 := of_dec h2
      have s45 : (⟨#[45]⟩ : ByteArray).size = 1 := rfl
      ((repeat refine S.seq ?_); refine S.region (L.go (T := tt) tt_ok rfl rfl ?sd44 ?_); (try (case sd44 => (repeat' ((first | first | exact trivial | exact zA | with_reducible refine zI ?_ ?_ | exact zB | exact zC | exact zD | exact zE | rfl | exact zN rfl | omega | assumption | (simp; done) | (simp [splice]; done) | (simp; omega) | (unfold fits; omega) | (unfold fits; simp_all; omega) | (simp_all; omega) | (simp_all; done) | intro _ | exact zI ?_ ?_ | intro _))))); try (refine L.nil ?_))
      (((repeat refine S.seq ?_); refine S.ret ?_); refine E.retP (T := tt) tt_ok rfl rfl (by (repeat' ((first | first | exact trivial | exact zA | with_reducible refine zI ?_ ?_ | exact zB | exact zC | exact zD | exact zE | rfl | exact zN rfl | omega | assumption | (simp; done) | (simp [splice]; done) | (simp; omega) | (unfold fits; omega) | (unfold fits; simp_all; omega) | (simp_all; omega) | (simp_all; done) | intro _ | exact zI ?_ ?_ | intro _)))) (Imp.of_eq ?_))
      have : numS n = (⟨#[45]⟩ : ByteArray) ++ dgL (Lib.decDigits u0) := by
        rw [dgL_cons, hu0, numS, Lib.itoa, if_pos h2n]; rfl
      rw [this]
      rfl
    · have h2n : ¬ n < 0 := of_dec' h2
      ((repeat refine S.seq ?_); refine S.region (L.go (T := tt) tt_ok rfl rfl ?sd45 ?_); (try (case sd45 => (repeat' ((first | first | exact trivial | exact zA | with_reducible refine zI ?_ ?_ | exact zB | exact zC | exact zD | exact zE | rfl | exact zN rfl | omega | assumption | (simp; done) | (simp [splice]; done) | (simp; omega) | (unfold fits; omega) | (unfold fits; simp_all; omega) | (simp_all; omega) | (simp_all; done) | intro _ | exact zI ?_ ?_ | intro _))))); try (refine L.nil ?_))
      (((repeat refine S.seq ?_); refine S.ret ?_); refine E.retP (T := tt) tt_ok rfl rfl (by (repeat' ((first | first | exact trivial | exact zA | with_reducible refine zI ?_ ?_ | exact zB | exact zC | exact zD | exact zE | rfl | exact zN rfl | omega | assumption | (simp; done) | (simp [splice]; done) | (simp; omega) | (unfold fits; omega) | (unfold fits; simp_all; omega) | (simp_all; omega) | (simp_all; done) | intro _ | exact zI ?_ ?_ | intro _)))) (Imp.of_eq ?_))
      have : numS n = dgL (Lib.decDigits u0) := by
        rw [hu0, numS, Lib.itoa, if_neg h2n, show n.toNat = n.natAbs by omega]; rfl
      rw [this]
      rfl

theorem rmark_p (a b : Int) (ha : fitI a) (hb : fitI b) : PFn Tryd.prog 47 [.v (.int .i64 a), .v (.int .i64 b)] (.v (.int .u32 (mrkF a b))) := by
  have sa := numS_size ha
  have sb := numS_size hb
  obtain ⟨s1, s2⟩ := mrkT_size ha hb
  refine FnC.intro Tryd.func47 rfl Tryd.ntmps47 rfl ?_; intro off w0
  ((repeat refine S.seq ?_); refine S.region (L.go (T := tt) tt_ok rfl rfl ?sd46 ?_); (try (case sd46 => (repeat' ((first | first | exact trivial | exact zA | with_reducible refine zI ?_ ?_ | exact zB | exact zC | exact zD | exact zE | rfl | exact zN rfl | omega | assumption | (simp; done) | (simp [splice]; done) | (simp; omega) | (unfold fits; omega) | (unfold fits; simp_all; omega) | (simp_all; omega) | (simp_all; done) | intro _ | exact zI ?_ ?_ | intro _))))); try (refine L.nil ?_))
  ((repeat refine S.seq ?_); refine S.region (L.go (T := tt) tt_ok rfl rfl ?sd47 ?_); (try (case sd47 => (repeat' ((first | first | exact trivial | exact zA | with_reducible refine zI ?_ ?_ | exact zB | exact zC | exact zD | exact zE | rfl | exact zN rfl | omega | assumption | (simp; done) | (simp [splice]; done) | (simp; omega) | (unfold fits; omega) | (unfold fits; simp_all; omega) | (simp_all; omega) | (simp_all; done) | intro _ | exact zI ?_ ?_ | intro _))))); try (refine L.nil ?_))
  refine L.callP rfl rfl rfl rfl rfl rfl rfl ⟨trivial, by (repeat' ((first | first | exact trivial | exact zA | with_reducible refine zI ?_ ?_ | exact zB | exact zC | exact zD | exact zE | rfl | exact zN rfl | omega | assumption | (simp; done) | (simp [splice]; done) | (simp; omega) | (unfold fits; omega) | (unfold fits; simp_all; omega) | (simp_all; omega) | (simp_all; done) | intro _ | exact zI ?_ ?_ | intro _)))⟩ rfl (Imps.refl _) (decimal_p a ha) ?_
  (refine L.go (T := tt) tt_ok rfl rfl ?sd54 ?_; (try (case sd54 => (repeat' ((first | first | exact trivial | exact zA | with_reducible refine zI ?_ ?_ | exact zB | exact zC | exact zD | exact zE | rfl | exact zN rfl | omega | assumption | (simp; done) | (simp [splice]; done) | (simp; omega) | (unfold fits; omega) | (unfold fits; simp_all; omega) | (simp_all; omega) | (simp_all; done) | intro _ | exact zI ?_ ?_ | intro _))))); try (refine L.nil ?_))
  refine L.callP rfl rfl rfl rfl rfl rfl rfl ⟨trivial, by (repeat' ((first | first | exact trivial | exact zA | with_reducible refine zI ?_ ?_ | exact zB | exact zC | exact zD | exact zE | rfl | exact zN rfl | omega | assumption | (simp; done) | (simp [splice]; done) | (simp; omega) | (unfold fits; omega) | (unfold fits; simp_all; omega) | (simp_all; omega) | (simp_all; done) | intro _ | exact zI ?_ ?_ | intro _)))⟩ rfl (Imps.refl _) (decimal_p b hb) ?_
  (refine L.go (T := tt) tt_ok rfl rfl ?sd55 ?_; (try (case sd55 => (repeat' ((first | first | exact trivial | exact zA | with_reducible refine zI ?_ ?_ | exact zB | exact zC | exact zD | exact zE | rfl | exact zN rfl | omega | assumption | (simp; done) | (simp [splice]; done) | (simp; omega) | (unfold fits; omega) | (unfold fits; simp_all; omega) | (simp_all; omega) | (simp_all; done) | intro _ | exact zI ?_ ?_ | intro _))))); try (refine L.nil ?_))
  refine L.callP rfl rfl rfl rfl rfl rfl rfl ⟨trivial, by (repeat' ((first | first | exact trivial | exact zA | with_reducible refine zI ?_ ?_ | exact zB | exact zC | exact zD | exact zE | rfl | exact zN rfl | omega | assumption | (simp; done) | (simp [splice]; done) | (simp; omega) | (unfold fits; omega) | (unfold fits; simp_all; omega) | (simp_all; omega) | (simp_all; done) | intro _ | exact zI ?_ ?_ | intro _)))⟩ rfl (Imps.refl _) (rof_p (mrkT a b) (by unfold fitS; omega)) ?_
  (refine L.go (T := tt) tt_ok rfl rfl ?sd56 ?_; (try (case sd56 => (repeat' ((first | first | exact trivial | exact zA | with_reducible refine zI ?_ ?_ | exact zB | exact zC | exact zD | exact zE | rfl | exact zN rfl | omega | assumption | (simp; done) | (simp [splice]; done) | (simp; omega) | (unfold fits; omega) | (unfold fits; simp_all; omega) | (simp_all; omega) | (simp_all; done) | intro _ | exact zI ?_ ?_ | intro _))))); try (refine L.nil ?_))
  (((repeat refine S.seq ?_); refine S.ret ?_); refine E.retP (T := tt) tt_ok rfl rfl (by (repeat' ((first | first | exact trivial | exact zA | with_reducible refine zI ?_ ?_ | exact zB | exact zC | exact zD | exact zE | rfl | exact zN rfl | omega | assumption | (simp; done) | (simp [splice]; done) | (simp; omega) | (unfold fits; omega) | (unfold fits; simp_all; omega) | (simp_all; omega) | (simp_all; done) | intro _ | exact zI ?_ ?_ | intro _)))) (Imp.of_eq ?_))
  rfl

theorem numT_numS : ∀ n : Fin 100, numT ((n.1 : Nat) : Int) = numS ((n.1 : Nat) : Int) := by decide +kernel
theorem markT_eq {a b : Int} (a0 : 0 ≤ a) (a1 : a < 100) (b0 : 0 ≤ b) (b1 : b < 100) : ofP (markT a b) = mrkF a b := by
  have ha := numT_numS ⟨a.toNat, by omega⟩
  have hb := numT_numS ⟨b.toNat, by omega⟩
  simp only [Int.toNat_of_nonneg a0, Int.toNat_of_nonneg b0] at ha hb
  rw [markT, mrkF, mrkT, ha, hb]
end Go.Proofs.YtlgdjmmjconbfaaDoor

/- Arcs. -/
namespace Go.Proofs.YtlgdjmmjconbfaaDoor
set_option linter.unusedVariables false
set_option linter.unusedSimpArgs false
set_option maxHeartbeats 8000000
open Go.RowKit
set_option maxRecDepth 4000

structure Arc where
  at0 : Int
  shard : Int
instance : Inhabited Arc := ⟨⟨0, 0⟩⟩
def Arc.cells (a : Arc) : List AV := [.v (.int .u32 a.at0), .v (.int .i64 a.shard)]
def arcs (l : List Arc) : AV := .lst 2 l.length (gOf Arc.cells l)
def badA (l : List Arc) (i : Nat) : Bool := (decide ((l.getD i default).shard < 0) || decide ((l.getD i default).shard ≥ 16)) || (decide ((i : Int) > 0) && decide ((l.getD (i - 1) default).at0 ≥ (l.getD i default).at0))
def fitA (l : List Arc) (k : Nat) : Bool := (List.range k).all fun i => !badA l i
def mayA (l : List Arc) : Bool := !(decide ((l.length : Int) < 1) || decide ((l.length : Int) > 1024)) && fitA l l.length
theorem fitA_succ {l : List Arc} {k : Nat} (h : fitA l k = true) (h1 : badA l k = false) : fitA l (k + 1) = true := by
  unfold fitA at h ⊢
  rw [List.range_succ, List.all_append, h]
  simp [h1]
theorem fitA_bad {l : List Arc} {k : Nat} (hk : k < l.length) (h1 : badA l k = true) : fitA l l.length = false := by
  unfold fitA
  rw [Bool.eq_false_iff]
  intro h
  have := List.all_eq_true.1 h k (List.mem_range.2 hk)
  rw [h1] at this
  cases this
theorem subn (k : Nat) : ((k : Int) - 1).toNat = k - 1 := by omega

/-- The last arc at or ahead of a point. -/
def plcTo (l : List Arc) (p : Int) : Nat → Nat
  | 0 => l.length - 1
  | k + 1 => if (l.getD k default).at0 ≤ p then k else plcTo l p k
def placeA (l : List Arc) (p : Int) : Nat := plcTo l p l.length
def ownerA (l : List Arc) (p : Int) : Int := if mayA l then (l.getD (placeA l p) default).shard else -1
theorem plcTo_lt {l : List Arc} (p : Int) (h : 0 < l.length) : ∀ k, k ≤ l.length → plcTo l p k < l.length
  | 0, _ => by unfold plcTo; omega
  | k + 1, hk => by
    unfold plcTo
    split
    · omega
    · exact plcTo_lt p h k (by omega)
theorem plcTo_lo {l : List Arc} {p : Int} {lo : Nat} (h1 : ∀ i, i < lo → (l.getD i default).at0 ≤ p) (h2 : ∀ i, lo ≤ i → i < l.length → ¬ (l.getD i default).at0 ≤ p) : ∀ k, k ≤ l.length → lo ≤ k → plcTo l p k = if lo = 0 then l.length - 1 else lo - 1
  | 0, _, h => by
    have : lo = 0 := by omega
    rw [if_pos this]; rfl
  | k + 1, hk, h => by
    unfold plcTo
    by_cases e : lo = k + 1
    · rw [if_pos (h1 k (by omega)), if_neg (by omega)]; omega
    · rw [if_neg (h2 k (by omega) (by omega)), plcTo_lo h1 h2 k (by omega) (by omega)]
structure MayA (l : List Arc) : Prop where
  one : 1 ≤ l.length
  most : l.length ≤ 1024
  shard : ∀ i, i < l.length → 0 ≤ (l.getD i default).shard ∧ (l.getD i default).shard < 16
  up : ∀ i j, i < j → j < l.length → (l.getD i default).at0 < (l.getD j default).at0
theorem mayA_of {l : List Arc} (h : mayA l = true) : MayA l := by
  unfold mayA at h
  simp only [Bool.and_eq_true, Bool.not_eq_true', Bool.or_eq_false_iff, decide_eq_false_iff_not] at h
  have hb : ∀ i, i < l.length → badA l i = false := fun i hi => by
    have := List.all_eq_true.1 h.2 i (List.mem_range.2 hi)
    simpa using this
  have key : ∀ i, i < l.length → (0 ≤ (l.getD i default).shard ∧ (l.getD i default).shard < 16) ∧ (0 < i → (l.getD (i - 1) default).at0 < (l.getD i default).at0) := fun i hi => by
    have := hb i hi
    simp only [badA, Bool.or_eq_false_iff, Bool.and_eq_false_iff, decide_eq_false_iff_not] at this
    refine ⟨by omega, fun h0 => ?_⟩
    omega
  refine ⟨by omega, by omega, fun i hi => (key i hi).1, fun i j hij => ?_⟩
  induction j with
  | zero => omega
  | succ j ih =>
    intro hj
    have h1 := (key (j + 1) hj).2 (by omega)
    rw [Nat.add_sub_cancel] at h1
    by_cases e : i = j
    · rw [e]; exact h1
    · have := ih (by omega) (by omega)
      omega

theorem ringmay_p (l : List Arc) : PFn Tryd.prog 17 [arcs l] (.v (.bool (mayA l))) := by
  refine FnC.intro Tryd.func17 rfl Tryd.ntmps17 rfl ?_; intro off w0
  ((repeat refine S.seq ?_); refine S.region (L.go (T := tt) tt_ok rfl rfl ?sd57 ?_); (try (case sd57 => (repeat' ((first | first | exact trivial | exact zA | with_reducible refine zI ?_ ?_ | exact zB | exact zC | exact zD | exact zE | rfl | exact zN rfl | omega | assumption | (simp; done) | (simp [splice]; done) | (simp; omega) | (unfold fits; omega) | (unfold fits; simp_all; omega) | (simp_all; omega) | (simp_all; done) | intro _ | exact zI ?_ ?_ | intro _))))); try (refine L.nil ?_))
  ((repeat refine S.seq ?_); refine S.region (L.go (T := tt) tt_ok rfl rfl ?sd58 ?_); (try (case sd58 => (repeat' ((first | first | exact trivial | exact zA | with_reducible refine zI ?_ ?_ | exact zB | exact zC | exact zD | exact zE | rfl | exact zN rfl | omega | assumption | (simp; done) | (simp [splice]; done) | (simp; omega) | (unfold fits; omega) | (unfold fits; simp_all; omega) | (simp_all; omega) | (simp_all; done) | intro _ | exact zI ?_ ?_ | intro _))))); try (refine L.nil ?_))
  ((repeat refine S.seq ?_); refine S.cond rfl (fun h1 => ?_) (fun h1 => ?_) <;> (try first | refine S.skip ?_ | refine S.exit ?_))
  · skip
    ((repeat refine S.seq ?_); refine S.region (L.go (T := tt) tt_ok rfl rfl ?sd59 ?_); (try (case sd59 => (repeat' ((first | first | exact trivial | exact zA | with_reducible refine zI ?_ ?_ | exact zB | exact zC | exact zD | exact zE | rfl | exact zN rfl | omega | assumption | (simp; done) | (simp [splice]; done) | (simp; omega) | (unfold fits; omega) | (unfold fits; simp_all; omega) | (simp_all; omega) | (simp_all; done) | intro _ | exact zI ?_ ?_ | intro _))))); try (refine L.nil ?_))
    (((repeat refine S.seq ?_); refine S.ret ?_); refine E.retP (T := tt) tt_ok rfl rfl (by (repeat' ((first | first | exact trivial | exact zA | with_reducible refine zI ?_ ?_ | exact zB | exact zC | exact zD | exact zE | rfl | exact zN rfl | omega | assumption | (simp; done) | (simp [splice]; done) | (simp; omega) | (unfold fits; omega) | (unfold fits; simp_all; omega) | (simp_all; omega) | (simp_all; done) | intro _ | exact zI ?_ ?_ | intro _)))) (Imp.of_eq ?_))
    rw [mayA]
    rw [show (decide ((l.length : Int) < 1) || decide ((l.length : Int) > 1024)) = true from h1]
    rfl
  have h1n : (decide ((l.length : Int) < 1) || decide ((l.length : Int) > 1024)) = false := h1
  have h1o := h1n
  simp only [Bool.or_eq_false_iff, decide_eq_false_iff_not] at h1o
  ((repeat refine S.seq ?_); refine S.region (L.go (T := tt) tt_ok rfl rfl ?sd60 ?_); (try (case sd60 => (repeat' ((first | first | exact trivial | exact zA | with_reducible refine zI ?_ ?_ | exact zB | exact zC | exact zD | exact zE | rfl | exact zN rfl | omega | assumption | (simp; done) | (simp [splice]; done) | (simp; omega) | (unfold fits; omega) | (unfold fits; simp_all; omega) | (simp_all; omega) | (simp_all; done) | intro _ | exact zI ?_ ?_ | intro _))))); try (refine L.nil ?_))
  repeat refine S.seq ?_
  refine S.block (S.loop (ι := { k : Nat // k ≤ l.length ∧ fitA l k = true }) (fun k => [(0, arcs l), (13, arcs l), (14, .v (.int .i64 (l.length : Int))), (15, .v (.int .i64 k.1))])
    (fun k => []) (fun k => l.length - k.1) ?_ ?_)
  · refine fun a w h => ⟨⟨0, Nat.zero_le _, ?_⟩, h.weak (by (repeat' (first | exact True.intro | exact Imp.refl _ | refine ⟨?_, ?_⟩))) (by (repeat (first | exact List.nil_sublist _ | refine List.Sublist.cons_cons _ ?_ | refine List.Sublist.cons _ ?_)))⟩
    rfl
  rintro ⟨k, hk, ik⟩
  dsimp only at hk ik ⊢
  ((repeat refine S.seq ?_); refine S.region (L.go (T := tt) tt_ok rfl rfl ?sd61 ?_); (try (case sd61 => (repeat' ((first | first | exact trivial | exact zA | with_reducible refine zI ?_ ?_ | exact zB | exact zC | exact zD | exact zE | rfl | exact zN rfl | omega | assumption | (simp; done) | (simp [splice]; done) | (simp; omega) | (unfold fits; omega) | (unfold fits; simp_all; omega) | (simp_all; omega) | (simp_all; done) | intro _ | exact zI ?_ ?_ | intro _))))); try (refine L.nil ?_))
  ((repeat refine S.seq ?_); refine S.cond rfl (fun h2 => ?_) (fun h2 => ?_) <;> (try first | refine S.skip ?_ | refine S.exit ?_))
  · have h2 := of_dec h2
    have h2n : k < l.length := by omega
    repeat refine S.seq ?_
    refine S.block ?_
    ((repeat refine S.seq ?_); refine S.region (L.go (T := tt) tt_ok rfl rfl ?sd62 ?_); (try (case sd62 => (repeat' ((first | first | exact trivial | exact zA | with_reducible refine zI ?_ ?_ | exact zB | exact zC | exact zD | exact zE | rfl | exact zN rfl | omega | assumption | (simp; done) | (simp [splice]; done) | (simp; omega) | (unfold fits; omega) | (unfold fits; simp_all; omega) | (simp_all; omega) | (simp_all; done) | intro _ | exact zI ?_ ?_ | intro _))))); try (refine L.nil ?_))
    refine L.alloc (T := tt) 4 tt_ok rfl rfl rfl rfl rfl fun b4 => ?_
    (refine L.go (T := tt) tt_ok rfl rfl ?sd98 ?_; (try (case sd98 => (repeat' ((first | first | exact trivial | exact zA | with_reducible refine zI ?_ ?_ | exact zB | exact zC | exact zD | exact zE | rfl | exact zN rfl | omega | assumption | (simp; done) | (simp [splice]; done) | (simp; omega) | (unfold fits; omega) | (unfold fits; simp_all; omega) | (simp_all; omega) | (simp_all; done) | intro _ | exact zI ?_ ?_ | intro _))))); try (refine L.nil ?_))
    (refine L.store (T := tt) tt_ok rfl rfl rfl rfl rfl rfl ?sd103 ?_; (try (case sd103 => (repeat' ((first | first | exact trivial | exact zA | with_reducible refine zI ?_ ?_ | exact zB | exact zC | exact zD | exact zE | rfl | exact zN rfl | omega | assumption | (simp; done) | (simp [splice]; done) | (simp; omega) | (unfold fits; omega) | (unfold fits; simp_all; omega) | (simp_all; omega) | (simp_all; done) | intro _ | exact zI ?_ ?_ | intro _))))))
    refine L.nil ?_
    repeat refine S.seq ?_
    refine S.draw [(1, [4]), (5, [4]), (19, [4])] mixed ?_
    (refine H.ts (T := tt) [0, 1, 2, 3, 4, 5, 6, 7, 8, 9, 10, 11, 12, 13, 14, 15, 16, 17, 18, 19, 20, 21, 22] tt_ok (by kernel_rfl) (by kernel_rfl) (by kernel_rfl) (by intro ch a a' w h; obtain ⟨_, _, _, _, _, h, _⟩ := h; cases h) rfl ?sd104 ?_; (try (case sd104 => (repeat' ((first | first | exact trivial | exact zA | with_reducible refine zI ?_ ?_ | exact zB | exact zC | exact zD | exact zE | rfl | exact zN rfl | omega | assumption | (simp; done) | (simp [splice]; done) | (simp; omega) | (unfold fits; omega) | (unfold fits; simp_all; omega) | (simp_all; omega) | (simp_all; done) | intro _ | exact zI ?_ ?_ | intro _))))))
    refine H.done (by kernel_rfl) ?_
    ((repeat refine S.seq ?_); refine S.cond rfl (fun h3 => ?_) (fun h3 => ?_) <;> (try first | refine S.skip ?_ | refine S.exit ?_))
    · skip
      ((repeat refine S.seq ?_); refine S.region (L.go (T := tt) tt_ok rfl rfl ?sd63 ?_); (try (case sd63 => (repeat' ((first | first | exact trivial | exact zA | with_reducible refine zI ?_ ?_ | exact zB | exact zC | exact zD | exact zE | rfl | exact zN rfl | omega | assumption | (simp; done) | (simp [splice]; done) | (simp; omega) | (unfold fits; omega) | (unfold fits; simp_all; omega) | (simp_all; omega) | (simp_all; done) | intro _ | exact zI ?_ ?_ | intro _))))); try (refine L.nil ?_))
      (((repeat refine S.seq ?_); refine S.ret ?_); refine E.retP (T := tt) tt_ok rfl rfl (by (repeat' ((first | first | exact trivial | exact zA | with_reducible refine zI ?_ ?_ | exact zB | exact zC | exact zD | exact zE | rfl | exact zN rfl | omega | assumption | (simp; done) | (simp [splice]; done) | (simp; omega) | (unfold fits; omega) | (unfold fits; simp_all; omega) | (simp_all; omega) | (simp_all; done) | intro _ | exact zI ?_ ?_ | intro _)))) (Imp.of_eq ?_))
      have hb : badA l k = true := by
        rw [← h3]
        unfold badA
        rw [← subn]
        rfl
      rw [mayA, fitA_bad h2n hb, Bool.and_false]
      rfl
    have hb : badA l k = false := by
      rw [← h3]
      unfold badA
      rw [← subn]
      rfl
    ((repeat refine S.seq ?_); refine S.region (L.go (T := tt) tt_ok rfl rfl ?sd64 ?_); (try (case sd64 => (repeat' ((first | first | exact trivial | exact zA | with_reducible refine zI ?_ ?_ | exact zB | exact zC | exact zD | exact zE | rfl | exact zN rfl | omega | assumption | (simp; done) | (simp [splice]; done) | (simp; omega) | (unfold fits; omega) | (unfold fits; simp_all; omega) | (simp_all; omega) | (simp_all; done) | intro _ | exact zI ?_ ?_ | intro _))))); try (refine L.nil ?_))
    refine fun a w hR => ⟨⟨k + 1, by omega, ?_⟩, by simp only; omega, hR.weak (by (repeat' (first | exact True.intro | exact Imp.refl _ | refine ⟨?_, ?_⟩))) (by (repeat (first | exact List.nil_sublist _ | refine List.Sublist.cons_cons _ ?_ | refine List.Sublist.cons _ ?_)))⟩
    exact fitA_succ ik hb
  · have h2 := of_dec' h2
    have hk0 : k = l.length := by omega
    subst hk0
    ((repeat refine S.seq ?_); refine S.region (L.go (T := tt) tt_ok rfl rfl ?sd65 ?_); (try (case sd65 => (repeat' ((first | first | exact trivial | exact zA | with_reducible refine zI ?_ ?_ | exact zB | exact zC | exact zD | exact zE | rfl | exact zN rfl | omega | assumption | (simp; done) | (simp [splice]; done) | (simp; omega) | (unfold fits; omega) | (unfold fits; simp_all; omega) | (simp_all; omega) | (simp_all; done) | intro _ | exact zI ?_ ?_ | intro _))))); try (refine L.nil ?_))
    (((repeat refine S.seq ?_); refine S.ret ?_); refine E.retP (T := tt) tt_ok rfl rfl (by (repeat' ((first | first | exact trivial | exact zA | with_reducible refine zI ?_ ?_ | exact zB | exact zC | exact zD | exact zE | rfl | exact zN rfl | omega | assumption | (simp; done) | (simp [splice]; done) | (simp; omega) | (unfold fits; omega) | (unfold fits; simp_all; omega) | (simp_all; omega) | (simp_all; done) | intro _ | exact zI ?_ ?_ | intro _)))) (Imp.of_eq ?_))
    rw [mayA, h1n, ik]
    rfl

theorem place_p (l : List Arc) (p : Int) (m : MayA l) : PFn Tryd.prog 49 [arcs l, .v (.int .u32 p)] (.v (.int .i64 (placeA l p))) := by
  refine FnC.intro Tryd.func49 rfl Tryd.ntmps49 rfl ?_; intro off w0
  ((repeat refine S.seq ?_); refine S.region (L.go (T := tt) tt_ok rfl rfl ?sd66 ?_); (try (case sd66 => (repeat' ((first | first | exact trivial | exact zA | with_reducible refine zI ?_ ?_ | exact zB | exact zC | exact zD | exact zE | rfl | exact zN rfl | omega | assumption | (simp; done) | (simp [splice]; done) | (simp; omega) | (unfold fits; omega) | (unfold fits; simp_all; omega) | (simp_all; omega) | (simp_all; done) | intro _ | exact zI ?_ ?_ | intro _))))); try (refine L.nil ?_))
  repeat refine S.seq ?_
  refine S.scopeE 0 (ι := { k : Nat × Nat // k.1 ≤ k.2 ∧ k.2 ≤ l.length ∧ (∀ i, i < k.1 → (l.getD i default).at0 ≤ p) ∧ ∀ i, k.2 ≤ i → i < l.length → ¬ (l.getD i default).at0 ≤ p }) (fun k => [(0, arcs l), (1, .v (.int .u32 p)), (5, .v (.int .i64 k.1.1)), (6, .v (.int .i64 k.1.2))])
    (fun k => []) (fun k => k.1.2 - k.1.1) rfl ?_ ?_
  · rintro ⟨⟨lo, hi⟩, hk, hk2, i1, i2⟩ J hJ
    dsimp only at hk hk2 i1 i2 hJ ⊢
    have m1 := m.one
    have m2 := m.most
    ((repeat refine S.seq ?_); refine S.region (L.go (T := tt) tt_ok rfl rfl ?sd67 ?_); (try (case sd67 => (repeat' ((first | first | exact trivial | exact zA | with_reducible refine zI ?_ ?_ | exact zB | exact zC | exact zD | exact zE | rfl | exact zN rfl | omega | assumption | (simp; done) | (simp [splice]; done) | (simp; omega) | (unfold fits; omega) | (unfold fits; simp_all; omega) | (simp_all; omega) | (simp_all; done) | intro _ | exact zI ?_ ?_ | intro _))))); try (refine L.nil ?_))
    ((repeat refine S.seq ?_); refine S.cond rfl (fun h1 => ?_) (fun h1 => ?_) <;> (try first | refine S.skip ?_ | refine S.exit ?_))
    · have h1n : lo < hi := by
        simp only [decide_eq_true_eq] at h1
        omega
      have htd : ((lo : Int) + (hi : Int)).tdiv 2 = (((lo + hi) / 2 : Nat) : Int) := by
        rw [Int.tdiv_eq_ediv_of_nonneg (by omega)]; rfl
      have hft : fits (((lo : Int) + (hi : Int)).tdiv 2) := by rw [htd]; unfold fits; omega
      ((repeat refine S.seq ?_); refine S.region (L.go (T := tt) tt_ok rfl rfl ?sd68 ?_); (try (case sd68 => (repeat' ((first | first | exact trivial | exact zA | with_reducible refine zI ?_ ?_ | exact zB | exact zC | exact zD | exact zE | rfl | exact zN rfl | omega | assumption | (simp; done) | (simp [splice]; done) | (simp; omega) | (unfold fits; omega) | (unfold fits; simp_all; omega) | (simp_all; omega) | (simp_all; done) | intro _ | exact zI ?_ ?_ | intro _))))); try (refine L.nil ?_))
      refine slotAs 7 (.v (.int .i64 (((lo + hi) / 2 : Nat) : Int))) rfl (Imp.of_eq (by rw [htd])) ?_
      obtain ⟨q, hq⟩ : ∃ q, q = (lo + hi) / 2 := ⟨_, rfl⟩
      rw [← hq]
      ((repeat refine S.seq ?_); refine S.region (L.go (T := tt) tt_ok rfl rfl ?sd69 ?_); (try (case sd69 => (repeat' ((first | first | exact trivial | exact zA | with_reducible refine zI ?_ ?_ | exact zB | exact zC | exact zD | exact zE | rfl | exact zN rfl | omega | assumption | (simp; done) | (simp [splice]; done) | (simp; omega) | (unfold fits; omega) | (unfold fits; simp_all; omega) | (simp_all; omega) | (simp_all; done) | intro _ | exact zI ?_ ?_ | intro _))))); try (refine L.nil ?_))
      refine S.cut (ι := { k : Nat × Nat // (k.1 ≤ k.2 ∧ k.2 ≤ l.length ∧ (∀ i, i < k.1 → (l.getD i default).at0 ≤ p) ∧ ∀ i, k.2 ≤ i → i < l.length → ¬ (l.getD i default).at0 ≤ p) ∧ k.2 - k.1 < hi - lo }) (fun k => [(0, arcs l), (1, .v (.int .u32 p)), (5, .v (.int .i64 k.1.1)), (6, .v (.int .i64 k.1.2))]) (fun _ => []) ?_ ?_
      · ((repeat refine S.seq ?_); refine S.cond rfl (fun h2 => ?_) (fun h2 => ?_) <;> (try first | refine S.skip ?_ | refine S.exit ?_))
        · have h2n : (l.getD q default).at0 ≤ p := of_dec h2
          ((repeat refine S.seq ?_); refine S.region (L.go (T := tt) tt_ok rfl rfl ?sd70 ?_); (try (case sd70 => (repeat' ((first | first | exact trivial | exact zA | with_reducible refine zI ?_ ?_ | exact zB | exact zC | exact zD | exact zE | rfl | exact zN rfl | omega | assumption | (simp; done) | (simp [splice]; done) | (simp; omega) | (unfold fits; omega) | (unfold fits; simp_all; omega) | (simp_all; omega) | (simp_all; done) | intro _ | exact zI ?_ ?_ | intro _))))); try (refine L.nil ?_))
          exact fun a w hR => ⟨⟨(q + 1, hi), ⟨by omega, hk2, fun i hi' => by
            rcases Nat.lt_or_eq_of_le (Nat.le_of_lt_succ hi') with e | e
            · have := m.up i q e (by omega)
              omega
            · rw [e]; exact h2n, i2⟩, by dsimp only; omega⟩, hR.weak (by (repeat' (first | exact True.intro | exact Imp.refl _ | refine ⟨?_, ?_⟩))) (by (repeat (first | exact List.nil_sublist _ | refine List.Sublist.cons_cons _ ?_ | refine List.Sublist.cons _ ?_)))⟩
        · have h2n : ¬ (l.getD q default).at0 ≤ p := of_dec' h2
          ((repeat refine S.seq ?_); refine S.region (L.go (T := tt) tt_ok rfl rfl ?sd71 ?_); (try (case sd71 => (repeat' ((first | first | exact trivial | exact zA | with_reducible refine zI ?_ ?_ | exact zB | exact zC | exact zD | exact zE | rfl | exact zN rfl | omega | assumption | (simp; done) | (simp [splice]; done) | (simp; omega) | (unfold fits; omega) | (unfold fits; simp_all; omega) | (simp_all; omega) | (simp_all; done) | intro _ | exact zI ?_ ?_ | intro _))))); try (refine L.nil ?_))
          exact fun a w hR => ⟨⟨(lo, q), ⟨by omega, by omega, i1, fun i hi' hl => by
            rcases Nat.lt_or_eq_of_le hi' with e | e
            · have := m.up q i e hl
              omega
            · rw [← e]; exact h2n⟩, by dsimp only; omega⟩, hR.weak (by (repeat' (first | exact True.intro | exact Imp.refl _ | refine ⟨?_, ?_⟩))) (by (repeat (first | exact List.nil_sublist _ | refine List.Sublist.cons_cons _ ?_ | refine List.Sublist.cons _ ?_)))⟩
      rintro ⟨⟨x, y⟩, hxy, hlt⟩
      dsimp only at hxy hlt ⊢
      repeat refine S.seq ?_
      refine S.goto ?_
      exact fun a w hR => ⟨rfl, hJ a w ⟨(x, y), hxy⟩ hlt (hR.weak (by (repeat' (first | exact True.intro | exact Imp.refl _ | refine ⟨?_, ?_⟩))) (by (repeat (first | exact List.nil_sublist _ | refine List.Sublist.cons_cons _ ?_ | refine List.Sublist.cons _ ?_))))⟩
    have hlh : lo = hi := by
      simp only [decide_eq_false_iff_not] at h1
      omega
    subst hlh
    ((repeat refine S.seq ?_); refine S.region (L.go (T := tt) tt_ok rfl rfl ?sd72 ?_); (try (case sd72 => (repeat' ((first | first | exact trivial | exact zA | with_reducible refine zI ?_ ?_ | exact zB | exact zC | exact zD | exact zE | rfl | exact zN rfl | omega | assumption | (simp; done) | (simp [splice]; done) | (simp; omega) | (unfold fits; omega) | (unfold fits; simp_all; omega) | (simp_all; omega) | (simp_all; done) | intro _ | exact zI ?_ ?_ | intro _))))); try (refine L.nil ?_))
    (((repeat refine S.seq ?_); refine S.ret ?_); refine E.retP (T := tt) tt_ok rfl rfl (by (repeat' ((first | first | exact trivial | exact zA | with_reducible refine zI ?_ ?_ | exact zB | exact zC | exact zD | exact zE | rfl | exact zN rfl | omega | assumption | (simp; done) | (simp [splice]; done) | (simp; omega) | (unfold fits; omega) | (unfold fits; simp_all; omega) | (simp_all; omega) | (simp_all; done) | intro _ | exact zI ?_ ?_ | intro _)))) (Imp.of_eq ?_))
    have hpl := plcTo_lo i1 i2 l.length (Nat.le_refl _) (by omega)
    have hplace : ((lo : Int) + l.length - 1).tmod l.length = ((placeA l p : Nat) : Int) := by
      rw [placeA, hpl, Int.tmod_eq_emod_of_nonneg (by omega)]
      split
      · rename_i e
        subst e
        rw [Int.emod_eq_of_lt (by omega) (by omega)]
        omega
      · rw [show (lo : Int) + l.length - 1 = (lo : Int) - 1 + l.length by omega, Int.add_emod_right, Int.emod_eq_of_lt (by omega) (by omega)]
        omega
    rw [hplace]
    rfl
  · intro hp
    ((repeat refine S.seq ?_); refine S.region (L.go (T := tt) tt_ok rfl rfl ?sd73 ?_); (try (case sd73 => (repeat' ((first | first | exact trivial | exact zA | with_reducible refine zI ?_ ?_ | exact zB | exact zC | exact zD | exact zE | rfl | exact zN rfl | omega | assumption | (simp; done) | (simp [splice]; done) | (simp; omega) | (unfold fits; omega) | (unfold fits; simp_all; omega) | (simp_all; omega) | (simp_all; done) | intro _ | exact zI ?_ ?_ | intro _))))); try (refine L.nil ?_))
    repeat refine S.seq ?_
    refine S.label ?_
    exact fun a w hR => hp ⟨(0, l.length), Nat.zero_le _, Nat.le_refl _, fun i hi => absurd hi (Nat.not_lt_zero i), fun i h1 h2 => absurd h1 (Nat.not_le.2 h2)⟩ a w (hR.weak (by (repeat' (first | exact True.intro | exact Imp.refl _ | refine ⟨?_, ?_⟩))) (by (repeat (first | exact List.nil_sublist _ | refine List.Sublist.cons_cons _ ?_ | refine List.Sublist.cons _ ?_))))

theorem owner_p (l : List Arc) (p : Int) : PFn Tryd.prog 20 [arcs l, .v (.int .u32 p)] (.v (.int .i64 (ownerA l p))) := by
  refine FnC.intro Tryd.func20 rfl Tryd.ntmps20 rfl ?_; intro off w0
  ((repeat refine S.seq ?_); refine S.region (L.go (T := tt) tt_ok rfl rfl ?sd74 ?_); (try (case sd74 => (repeat' ((first | first | exact trivial | exact zA | with_reducible refine zI ?_ ?_ | exact zB | exact zC | exact zD | exact zE | rfl | exact zN rfl | omega | assumption | (simp; done) | (simp [splice]; done) | (simp; omega) | (unfold fits; omega) | (unfold fits; simp_all; omega) | (simp_all; omega) | (simp_all; done) | intro _ | exact zI ?_ ?_ | intro _))))); try (refine L.nil ?_))
  ((repeat refine S.seq ?_); refine S.region (L.go (T := tt) tt_ok rfl rfl ?sd75 ?_); (try (case sd75 => (repeat' ((first | first | exact trivial | exact zA | with_reducible refine zI ?_ ?_ | exact zB | exact zC | exact zD | exact zE | rfl | exact zN rfl | omega | assumption | (simp; done) | (simp [splice]; done) | (simp; omega) | (unfold fits; omega) | (unfold fits; simp_all; omega) | (simp_all; omega) | (simp_all; done) | intro _ | exact zI ?_ ?_ | intro _))))); try (refine L.nil ?_))
  refine L.callP rfl rfl rfl rfl rfl rfl rfl ⟨trivial, by (repeat' ((first | first | exact trivial | exact zA | with_reducible refine zI ?_ ?_ | exact zB | exact zC | exact zD | exact zE | rfl | exact zN rfl | omega | assumption | (simp; done) | (simp [splice]; done) | (simp; omega) | (unfold fits; omega) | (unfold fits; simp_all; omega) | (simp_all; omega) | (simp_all; done) | intro _ | exact zI ?_ ?_ | intro _)))⟩ rfl (Imps.refl _) (ringmay_p l) ?_
  (refine L.go (T := tt) tt_ok rfl rfl ?sd99 ?_; (try (case sd99 => (repeat' ((first | first | exact trivial | exact zA | with_reducible refine zI ?_ ?_ | exact zB | exact zC | exact zD | exact zE | rfl | exact zN rfl | omega | assumption | (simp; done) | (simp [splice]; done) | (simp; omega) | (unfold fits; omega) | (unfold fits; simp_all; omega) | (simp_all; omega) | (simp_all; done) | intro _ | exact zI ?_ ?_ | intro _))))); try (refine L.nil ?_))
  ((repeat refine S.seq ?_); refine S.cond rfl (fun h1 => ?_) (fun h1 => ?_) <;> (try first | refine S.skip ?_ | refine S.exit ?_))
  · skip
    ((repeat refine S.seq ?_); refine S.region (L.go (T := tt) tt_ok rfl rfl ?sd76 ?_); (try (case sd76 => (repeat' ((first | first | exact trivial | exact zA | with_reducible refine zI ?_ ?_ | exact zB | exact zC | exact zD | exact zE | rfl | exact zN rfl | omega | assumption | (simp; done) | (simp [splice]; done) | (simp; omega) | (unfold fits; omega) | (unfold fits; simp_all; omega) | (simp_all; omega) | (simp_all; done) | intro _ | exact zI ?_ ?_ | intro _))))); try (refine L.nil ?_))
    (((repeat refine S.seq ?_); refine S.ret ?_); refine E.retP (T := tt) tt_ok rfl rfl (by (repeat' ((first | first | exact trivial | exact zA | with_reducible refine zI ?_ ?_ | exact zB | exact zC | exact zD | exact zE | rfl | exact zN rfl | omega | assumption | (simp; done) | (simp [splice]; done) | (simp; omega) | (unfold fits; omega) | (unfold fits; simp_all; omega) | (simp_all; omega) | (simp_all; done) | intro _ | exact zI ?_ ?_ | intro _)))) (Imp.of_eq ?_))
    rw [ownerA, if_neg (by simpa using h1)]
    rfl
  have h1n : mayA l = true := by simpa using h1
  have m := mayA_of h1n
  have hpl := plcTo_lt p m.one l.length (Nat.le_refl _)
  have hpl2 : placeA l p < l.length := hpl
  ((repeat refine S.seq ?_); refine S.region (L.go (T := tt) tt_ok rfl rfl ?sd77 ?_); (try (case sd77 => (repeat' ((first | first | exact trivial | exact zA | with_reducible refine zI ?_ ?_ | exact zB | exact zC | exact zD | exact zE | rfl | exact zN rfl | omega | assumption | (simp; done) | (simp [splice]; done) | (simp; omega) | (unfold fits; omega) | (unfold fits; simp_all; omega) | (simp_all; omega) | (simp_all; done) | intro _ | exact zI ?_ ?_ | intro _))))); try (refine L.nil ?_))
  refine L.callP rfl rfl rfl rfl rfl rfl rfl ⟨trivial, by (repeat' ((first | first | exact trivial | exact zA | with_reducible refine zI ?_ ?_ | exact zB | exact zC | exact zD | exact zE | rfl | exact zN rfl | omega | assumption | (simp; done) | (simp [splice]; done) | (simp; omega) | (unfold fits; omega) | (unfold fits; simp_all; omega) | (simp_all; omega) | (simp_all; done) | intro _ | exact zI ?_ ?_ | intro _)))⟩ rfl (Imps.refl _) (place_p l p m) ?_
  (refine L.go (T := tt) tt_ok rfl rfl ?sd100 ?_; (try (case sd100 => (repeat' ((first | first | exact trivial | exact zA | with_reducible refine zI ?_ ?_ | exact zB | exact zC | exact zD | exact zE | rfl | exact zN rfl | omega | assumption | (simp; done) | (simp [splice]; done) | (simp; omega) | (unfold fits; omega) | (unfold fits; simp_all; omega) | (simp_all; omega) | (simp_all; done) | intro _ | exact zI ?_ ?_ | intro _))))); try (refine L.nil ?_))
  (((repeat refine S.seq ?_); refine S.ret ?_); refine E.retP (T := tt) tt_ok rfl rfl (by (repeat' ((first | first | exact trivial | exact zA | with_reducible refine zI ?_ ?_ | exact zB | exact zC | exact zD | exact zE | rfl | exact zN rfl | omega | assumption | (simp; done) | (simp [splice]; done) | (simp; omega) | (unfold fits; omega) | (unfold fits; simp_all; omega) | (simp_all; omega) | (simp_all; done) | intro _ | exact zI ?_ ?_ | intro _)))) (Imp.of_eq ?_))
  rw [ownerA, if_pos h1n]
  rfl

theorem rmayarcs_p (l : List Arc) : PFn Tryd.prog 22 [arcs l] (.v (.bool (mayA l))) := by
  refine FnC.intro Tryd.func22 rfl Tryd.ntmps22 rfl ?_; intro off w0
  ((repeat refine S.seq ?_); refine S.region (L.go (T := tt) tt_ok rfl rfl ?sd78 ?_); (try (case sd78 => (repeat' ((first | first | exact trivial | exact zA | with_reducible refine zI ?_ ?_ | exact zB | exact zC | exact zD | exact zE | rfl | exact zN rfl | omega | assumption | (simp; done) | (simp [splice]; done) | (simp; omega) | (unfold fits; omega) | (unfold fits; simp_all; omega) | (simp_all; omega) | (simp_all; done) | intro _ | exact zI ?_ ?_ | intro _))))); try (refine L.nil ?_))
  ((repeat refine S.seq ?_); refine S.region (L.go (T := tt) tt_ok rfl rfl ?sd79 ?_); (try (case sd79 => (repeat' ((first | first | exact trivial | exact zA | with_reducible refine zI ?_ ?_ | exact zB | exact zC | exact zD | exact zE | rfl | exact zN rfl | omega | assumption | (simp; done) | (simp [splice]; done) | (simp; omega) | (unfold fits; omega) | (unfold fits; simp_all; omega) | (simp_all; omega) | (simp_all; done) | intro _ | exact zI ?_ ?_ | intro _))))); try (refine L.nil ?_))
  ((repeat refine S.seq ?_); refine S.cond rfl (fun h1 => ?_) (fun h1 => ?_) <;> (try first | refine S.skip ?_ | refine S.exit ?_))
  · skip
    ((repeat refine S.seq ?_); refine S.region (L.go (T := tt) tt_ok rfl rfl ?sd80 ?_); (try (case sd80 => (repeat' ((first | first | exact trivial | exact zA | with_reducible refine zI ?_ ?_ | exact zB | exact zC | exact zD | exact zE | rfl | exact zN rfl | omega | assumption | (simp; done) | (simp [splice]; done) | (simp; omega) | (unfold fits; omega) | (unfold fits; simp_all; omega) | (simp_all; omega) | (simp_all; done) | intro _ | exact zI ?_ ?_ | intro _))))); try (refine L.nil ?_))
    (((repeat refine S.seq ?_); refine S.ret ?_); refine E.retP (T := tt) tt_ok rfl rfl (by (repeat' ((first | first | exact trivial | exact zA | with_reducible refine zI ?_ ?_ | exact zB | exact zC | exact zD | exact zE | rfl | exact zN rfl | omega | assumption | (simp; done) | (simp [splice]; done) | (simp; omega) | (unfold fits; omega) | (unfold fits; simp_all; omega) | (simp_all; omega) | (simp_all; done) | intro _ | exact zI ?_ ?_ | intro _)))) (Imp.of_eq ?_))
    rw [mayA]
    rw [show (decide ((l.length : Int) < 1) || decide ((l.length : Int) > 1024)) = true from h1]
    rfl
  have h1n : (decide ((l.length : Int) < 1) || decide ((l.length : Int) > 1024)) = false := h1
  have h1o := h1n
  simp only [Bool.or_eq_false_iff, decide_eq_false_iff_not] at h1o
  ((repeat refine S.seq ?_); refine S.region (L.go (T := tt) tt_ok rfl rfl ?sd81 ?_); (try (case sd81 => (repeat' ((first | first | exact trivial | exact zA | with_reducible refine zI ?_ ?_ | exact zB | exact zC | exact zD | exact zE | rfl | exact zN rfl | omega | assumption | (simp; done) | (simp [splice]; done) | (simp; omega) | (unfold fits; omega) | (unfold fits; simp_all; omega) | (simp_all; omega) | (simp_all; done) | intro _ | exact zI ?_ ?_ | intro _))))); try (refine L.nil ?_))
  repeat refine S.seq ?_
  refine S.block (S.loop (ι := { k : Nat // k ≤ l.length ∧ fitA l k = true }) (fun k => [(0, arcs l), (3, .v (.int .i64 k.1))])
    (fun k => []) (fun k => l.length - k.1) ?_ ?_)
  · refine fun a w h => ⟨⟨0, Nat.zero_le _, ?_⟩, h.weak (by (repeat' (first | exact True.intro | exact Imp.refl _ | refine ⟨?_, ?_⟩))) (by (repeat (first | exact List.nil_sublist _ | refine List.Sublist.cons_cons _ ?_ | refine List.Sublist.cons _ ?_)))⟩
    rfl
  rintro ⟨k, hk, ik⟩
  dsimp only at hk ik ⊢
  ((repeat refine S.seq ?_); refine S.region (L.go (T := tt) tt_ok rfl rfl ?sd82 ?_); (try (case sd82 => (repeat' ((first | first | exact trivial | exact zA | with_reducible refine zI ?_ ?_ | exact zB | exact zC | exact zD | exact zE | rfl | exact zN rfl | omega | assumption | (simp; done) | (simp [splice]; done) | (simp; omega) | (unfold fits; omega) | (unfold fits; simp_all; omega) | (simp_all; omega) | (simp_all; done) | intro _ | exact zI ?_ ?_ | intro _))))); try (refine L.nil ?_))
  ((repeat refine S.seq ?_); refine S.cond rfl (fun h2 => ?_) (fun h2 => ?_) <;> (try first | refine S.skip ?_ | refine S.exit ?_))
  · have h2 := of_dec h2
    have h2n : k < l.length := by omega
    repeat refine S.seq ?_
    refine S.block ?_
    repeat refine S.seq ?_
    refine S.draw [] mixed ?_
    (refine H.ts (T := tt) [0, 1, 2, 3, 4, 5, 6, 7, 8, 9, 10, 11, 12, 13, 14, 15, 16, 17, 18, 19, 20, 21, 22, 23, 24, 25, 26, 27, 28, 29, 30, 31] tt_ok (by kernel_rfl) (by kernel_rfl) (by kernel_rfl) (by intro ch a a' w h; obtain ⟨_, _, _, _, _, h, _⟩ := h; cases h) rfl ?sd105 ?_; (try (case sd105 => (repeat' ((first | first | exact trivial | exact zA | with_reducible refine zI ?_ ?_ | exact zB | exact zC | exact zD | exact zE | rfl | exact zN rfl | omega | assumption | (simp; done) | (simp [splice]; done) | (simp; omega) | (unfold fits; omega) | (unfold fits; simp_all; omega) | (simp_all; omega) | (simp_all; done) | intro _ | exact zI ?_ ?_ | intro _))))))
    refine H.done (by kernel_rfl) ?_
    ((repeat refine S.seq ?_); refine S.cond rfl (fun h3 => ?_) (fun h3 => ?_) <;> (try first | refine S.skip ?_ | refine S.exit ?_))
    · skip
      ((repeat refine S.seq ?_); refine S.region (L.go (T := tt) tt_ok rfl rfl ?sd83 ?_); (try (case sd83 => (repeat' ((first | first | exact trivial | exact zA | with_reducible refine zI ?_ ?_ | exact zB | exact zC | exact zD | exact zE | rfl | exact zN rfl | omega | assumption | (simp; done) | (simp [splice]; done) | (simp; omega) | (unfold fits; omega) | (unfold fits; simp_all; omega) | (simp_all; omega) | (simp_all; done) | intro _ | exact zI ?_ ?_ | intro _))))); try (refine L.nil ?_))
      (((repeat refine S.seq ?_); refine S.ret ?_); refine E.retP (T := tt) tt_ok rfl rfl (by (repeat' ((first | first | exact trivial | exact zA | with_reducible refine zI ?_ ?_ | exact zB | exact zC | exact zD | exact zE | rfl | exact zN rfl | omega | assumption | (simp; done) | (simp [splice]; done) | (simp; omega) | (unfold fits; omega) | (unfold fits; simp_all; omega) | (simp_all; omega) | (simp_all; done) | intro _ | exact zI ?_ ?_ | intro _)))) (Imp.of_eq ?_))
      have hb : badA l k = true := by
        rw [← h3]
        unfold badA
        rw [← subn]
        rfl
      rw [mayA, fitA_bad h2n hb, Bool.and_false]
      rfl
    have hb : badA l k = false := by
      rw [← h3]
      unfold badA
      rw [← subn]
      rfl
    ((repeat refine S.seq ?_); refine S.region (L.go (T := tt) tt_ok rfl rfl ?sd84 ?_); (try (case sd84 => (repeat' ((first | first | exact trivial | exact zA | with_reducible refine zI ?_ ?_ | exact zB | exact zC | exact zD | exact zE | rfl | exact zN rfl | omega | assumption | (simp; done) | (simp [splice]; done) | (simp; omega) | (unfold fits; omega) | (unfold fits; simp_all; omega) | (simp_all; omega) | (simp_all; done) | intro _ | exact zI ?_ ?_ | intro _))))); try (refine L.nil ?_))
    refine fun a w hR => ⟨⟨k + 1, by omega, ?_⟩, by simp only; omega, hR.weak (by (repeat' (first | exact True.intro | exact Imp.refl _ | refine ⟨?_, ?_⟩))) (by (repeat (first | exact List.nil_sublist _ | refine List.Sublist.cons_cons _ ?_ | refine List.Sublist.cons _ ?_)))⟩
    exact fitA_succ ik hb
  · have h2 := of_dec' h2
    have hk0 : k = l.length := by omega
    subst hk0
    ((repeat refine S.seq ?_); refine S.region (L.go (T := tt) tt_ok rfl rfl ?sd85 ?_); (try (case sd85 => (repeat' ((first | first | exact trivial | exact zA | with_reducible refine zI ?_ ?_ | exact zB | exact zC | exact zD | exact zE | rfl | exact zN rfl | omega | assumption | (simp; done) | (simp [splice]; done) | (simp; omega) | (unfold fits; omega) | (unfold fits; simp_all; omega) | (simp_all; omega) | (simp_all; done) | intro _ | exact zI ?_ ?_ | intro _))))); try (refine L.nil ?_))
    (((repeat refine S.seq ?_); refine S.ret ?_); refine E.retP (T := tt) tt_ok rfl rfl (by (repeat' ((first | first | exact trivial | exact zA | with_reducible refine zI ?_ ?_ | exact zB | exact zC | exact zD | exact zE | rfl | exact zN rfl | omega | assumption | (simp; done) | (simp [splice]; done) | (simp; omega) | (unfold fits; omega) | (unfold fits; simp_all; omega) | (simp_all; omega) | (simp_all; done) | intro _ | exact zI ?_ ?_ | intro _)))) (Imp.of_eq ?_))
    rw [mayA, h1n, ik]
    rfl

theorem rplace_p (l : List Arc) (p : Int) (m : MayA l) : PFn Tryd.prog 52 [arcs l, .v (.int .u32 p)] (.v (.int .i64 (placeA l p))) := by
  have m1 := m.one
  have m2 := m.most
  refine FnC.intro Tryd.func52 rfl Tryd.ntmps52 rfl ?_; intro off w0
  ((repeat refine S.seq ?_); refine S.region (L.go (T := tt) tt_ok rfl rfl ?sd86 ?_); (try (case sd86 => (repeat' ((first | first | exact trivial | exact zA | with_reducible refine zI ?_ ?_ | exact zB | exact zC | exact zD | exact zE | rfl | exact zN rfl | omega | assumption | (simp; done) | (simp [splice]; done) | (simp; omega) | (unfold fits; omega) | (unfold fits; simp_all; omega) | (simp_all; omega) | (simp_all; done) | intro _ | exact zI ?_ ?_ | intro _))))); try (refine L.nil ?_))
  ((repeat refine S.seq ?_); refine S.region (L.go (T := tt) tt_ok rfl rfl ?sd87 ?_); (try (case sd87 => (repeat' ((first | first | exact trivial | exact zA | with_reducible refine zI ?_ ?_ | exact zB | exact zC | exact zD | exact zE | rfl | exact zN rfl | omega | assumption | (simp; done) | (simp [splice]; done) | (simp; omega) | (unfold fits; omega) | (unfold fits; simp_all; omega) | (simp_all; omega) | (simp_all; done) | intro _ | exact zI ?_ ?_ | intro _))))); try (refine L.nil ?_))
  refine slotAs 5 (.v (.int .i64 ((plcTo l p 0 : Nat) : Int))) rfl (Imp.of_eq (by rw [plcTo, show ((l.length - 1 : Nat) : Int) = (l.length : Int) - 1 by omega])) ?_
  ((repeat refine S.seq ?_); refine S.region (L.go (T := tt) tt_ok rfl rfl ?sd88 ?_); (try (case sd88 => (repeat' ((first | first | exact trivial | exact zA | with_reducible refine zI ?_ ?_ | exact zB | exact zC | exact zD | exact zE | rfl | exact zN rfl | omega | assumption | (simp; done) | (simp [splice]; done) | (simp; omega) | (unfold fits; omega) | (unfold fits; simp_all; omega) | (simp_all; omega) | (simp_all; done) | intro _ | exact zI ?_ ?_ | intro _))))); try (refine L.nil ?_))
  repeat refine S.seq ?_
  refine S.block (S.loop (ι := { k : Nat // k ≤ l.length }) (fun k => [(0, arcs l), (1, .v (.int .u32 p)), (5, .v (.int .i64 ((plcTo l p k.1 : Nat) : Int))), (6, .v (.int .i64 k.1))])
    (fun k => []) (fun k => l.length - k.1) ?_ ?_)
  · exact fun a w h => ⟨⟨0, Nat.zero_le _⟩, h.weak (by (repeat' (first | exact True.intro | exact Imp.refl _ | refine ⟨?_, ?_⟩))) (by (repeat (first | exact List.nil_sublist _ | refine List.Sublist.cons_cons _ ?_ | refine List.Sublist.cons _ ?_)))⟩
  rintro ⟨k, hk⟩
  dsimp only
  ((repeat refine S.seq ?_); refine S.region (L.go (T := tt) tt_ok rfl rfl ?sd89 ?_); (try (case sd89 => (repeat' ((first | first | exact trivial | exact zA | with_reducible refine zI ?_ ?_ | exact zB | exact zC | exact zD | exact zE | rfl | exact zN rfl | omega | assumption | (simp; done) | (simp [splice]; done) | (simp; omega) | (unfold fits; omega) | (unfold fits; simp_all; omega) | (simp_all; omega) | (simp_all; done) | intro _ | exact zI ?_ ?_ | intro _))))); try (refine L.nil ?_))
  ((repeat refine S.seq ?_); refine S.cond rfl (fun h1 => ?_) (fun h1 => ?_) <;> (try first | refine S.skip ?_ | refine S.exit ?_))
  · have h1 := of_dec h1
    repeat refine S.seq ?_
    refine S.block ?_
    ((repeat refine S.seq ?_); refine S.region (L.go (T := tt) tt_ok rfl rfl ?sd90 ?_); (try (case sd90 => (repeat' ((first | first | exact trivial | exact zA | with_reducible refine zI ?_ ?_ | exact zB | exact zC | exact zD | exact zE | rfl | exact zN rfl | omega | assumption | (simp; done) | (simp [splice]; done) | (simp; omega) | (unfold fits; omega) | (unfold fits; simp_all; omega) | (simp_all; omega) | (simp_all; done) | intro _ | exact zI ?_ ?_ | intro _))))); try (refine L.nil ?_))
    refine S.cut (ι := Unit) (fun _ => [(0, arcs l), (1, .v (.int .u32 p)), (5, .v (.int .i64 ((plcTo l p (k + 1) : Nat) : Int))), (6, .v (.int .i64 k))]) (fun _ => []) ?_ ?_
    · ((repeat refine S.seq ?_); refine S.cond rfl (fun h2 => ?_) (fun h2 => ?_) <;> (try first | refine S.skip ?_ | refine S.exit ?_))
      · skip
        ((repeat refine S.seq ?_); refine S.region (L.go (T := tt) tt_ok rfl rfl ?sd91 ?_); (try (case sd91 => (repeat' ((first | first | exact trivial | exact zA | with_reducible refine zI ?_ ?_ | exact zB | exact zC | exact zD | exact zE | rfl | exact zN rfl | omega | assumption | (simp; done) | (simp [splice]; done) | (simp; omega) | (unfold fits; omega) | (unfold fits; simp_all; omega) | (simp_all; omega) | (simp_all; done) | intro _ | exact zI ?_ ?_ | intro _))))); try (refine L.nil ?_))
        refine slotAs 5 (.v (.int .i64 ((plcTo l p (k + 1) : Nat) : Int))) rfl (Imp.of_eq (by rw [plcTo, if_pos (show (l.getD k default).at0 ≤ p from of_dec h2)])) ?_
        exact fun a w hR => ⟨(), hR.weak (by (repeat' (first | exact True.intro | exact Imp.refl _ | refine ⟨?_, ?_⟩))) (by (repeat (first | exact List.nil_sublist _ | refine List.Sublist.cons_cons _ ?_ | refine List.Sublist.cons _ ?_)))⟩
      · skip
        refine slotAs 5 (.v (.int .i64 ((plcTo l p (k + 1) : Nat) : Int))) rfl (Imp.of_eq (by rw [plcTo, if_neg (show ¬ (l.getD k default).at0 ≤ p from of_dec' h2)])) ?_
        exact fun a w hR => ⟨(), hR.weak (by (repeat' (first | exact True.intro | exact Imp.refl _ | refine ⟨?_, ?_⟩))) (by (repeat (first | exact List.nil_sublist _ | refine List.Sublist.cons_cons _ ?_ | refine List.Sublist.cons _ ?_)))⟩
    rintro ⟨⟩
    ((repeat refine S.seq ?_); refine S.region (L.go (T := tt) tt_ok rfl rfl ?sd92 ?_); (try (case sd92 => (repeat' ((first | first | exact trivial | exact zA | with_reducible refine zI ?_ ?_ | exact zB | exact zC | exact zD | exact zE | rfl | exact zN rfl | omega | assumption | (simp; done) | (simp [splice]; done) | (simp; omega) | (unfold fits; omega) | (unfold fits; simp_all; omega) | (simp_all; omega) | (simp_all; done) | intro _ | exact zI ?_ ?_ | intro _))))); try (refine L.nil ?_))
    exact fun a w hR => ⟨⟨k + 1, by omega⟩, by simp only; omega, hR.weak (by (repeat' (first | exact True.intro | exact Imp.refl _ | refine ⟨?_, ?_⟩))) (by (repeat (first | exact List.nil_sublist _ | refine List.Sublist.cons_cons _ ?_ | refine List.Sublist.cons _ ?_)))⟩
  · have h1 := of_dec' h1
    have hk0 : k = l.length := by omega
    subst hk0
    -- HOLE 3
    ((repeat refine S.seq ?_); refine S.region (L.go (T := tt) tt_ok rfl rfl ?sd93 ?_); (try (case sd93 => (repeat' ((first | first | exact trivial | exact zA | with_reducible refine zI ?_ ?_ | exact zB | exact zC | exact zD | exact zE | rfl | exact zN rfl | omega | assumption | (simp; done) | (simp [splice]; done) | (simp; omega) | (unfold fits; omega) | (unfold fits; simp_all; omega) | (simp_all; omega) | (simp_all; done) | intro _ | exact zI ?_ ?_ | intro _))))); try (refine L.nil ?_))
    (((repeat refine S.seq ?_); refine S.ret ?_); refine E.retP (T := tt) tt_ok rfl rfl (by (repeat' ((first | first | exact trivial | exact zA | with_reducible refine zI ?_ ?_ | exact zB | exact zC | exact zD | exact zE | rfl | exact zN rfl | omega | assumption | (simp; done) | (simp [splice]; done) | (simp; omega) | (unfold fits; omega) | (unfold fits; simp_all; omega) | (simp_all; omega) | (simp_all; done) | intro _ | exact zI ?_ ?_ | intro _)))) (Imp.of_eq ?_))
    rfl
    -- HOLE 4

theorem rowner_p (l : List Arc) (p : Int) : PFn Tryd.prog 23 [arcs l, .v (.int .u32 p)] (.v (.int .i64 (ownerA l p))) := by
  refine FnC.intro Tryd.func23 rfl Tryd.ntmps23 rfl ?_; intro off w0
  ((repeat refine S.seq ?_); refine S.region (L.go (T := tt) tt_ok rfl rfl ?sd94 ?_); (try (case sd94 => (repeat' ((first | first | exact trivial | exact zA | with_reducible refine zI ?_ ?_ | exact zB | exact zC | exact zD | exact zE | rfl | exact zN rfl | omega | assumption | (simp; done) | (simp [splice]; done) | (simp; omega) | (unfold fits; omega) | (unfold fits; simp_all; omega) | (simp_all; omega) | (simp_all; done) | intro _ | exact zI ?_ ?_ | intro _))))); try (refine L.nil ?_))
  ((repeat refine S.seq ?_); refine S.region (L.go (T := tt) tt_ok rfl rfl ?sd95 ?_); (try (case sd95 => (repeat' ((first | first | exact trivial | exact zA | with_reducible refine zI ?_ ?_ | exact zB | exact zC | exact zD | exact zE | rfl | exact zN rfl | omega | assumption | (simp; done) | (simp [splice]; done) | (simp; omega) | (unfold fits; omega) | (unfold fits; simp_all; omega) | (simp_all; omega) | (simp_all; done) | intro _ | exact zI ?_ ?_ | intro _))))); try (refine L.nil ?_))
  refine L.callP rfl rfl rfl rfl rfl rfl rfl ⟨trivial, by (repeat' ((first | first | exact trivial | exact zA | with_reducible refine zI ?_ ?_ | exact zB | exact zC | exact zD | exact zE | rfl | exact zN rfl | omega | assumption | (simp; done) | (simp [splice]; done) | (simp; omega) | (unfold fits; omega) | (unfold fits; simp_all; omega) | (simp_all; omega) | (simp_all; done) | intro _ | exact zI ?_ ?_ | intro _)))⟩ rfl (Imps.refl _) (rmayarcs_p l) ?_
  (refine L.go (T := tt) tt_ok rfl rfl ?sd101 ?_; (try (case sd101 => (repeat' ((first | first | exact trivial | exact zA | with_reducible refine zI ?_ ?_ | exact zB | exact zC | exact zD | exact zE | rfl | exact zN rfl | omega | assumption | (simp; done) | (simp [splice]; done) | (simp; omega) | (unfold fits; omega) | (unfold fits; simp_all; omega) | (simp_all; omega) | (simp_all; done) | intro _ | exact zI ?_ ?_ | intro _))))); try (refine L.nil ?_))
  ((repeat refine S.seq ?_); refine S.cond rfl (fun h1 => ?_) (fun h1 => ?_) <;> (try first | refine S.skip ?_ | refine S.exit ?_))
  · skip
    ((repeat refine S.seq ?_); refine S.region (L.go (T := tt) tt_ok rfl rfl ?sd96 ?_); (try (case sd96 => (repeat' ((first | first | exact trivial | exact zA | with_reducible refine zI ?_ ?_ | exact zB | exact zC | exact zD | exact zE | rfl | exact zN rfl | omega | assumption | (simp; done) | (simp [splice]; done) | (simp; omega) | (unfold fits; omega) | (unfold fits; simp_all; omega) | (simp_all; omega) | (simp_all; done) | intro _ | exact zI ?_ ?_ | intro _))))); try (refine L.nil ?_))
    (((repeat refine S.seq ?_); refine S.ret ?_); refine E.retP (T := tt) tt_ok rfl rfl (by (repeat' ((first | first | exact trivial | exact zA | with_reducible refine zI ?_ ?_ | exact zB | exact zC | exact zD | exact zE | rfl | exact zN rfl | omega | assumption | (simp; done) | (simp [splice]; done) | (simp; omega) | (unfold fits; omega) | (unfold fits; simp_all; omega) | (simp_all; omega) | (simp_all; done) | intro _ | exact zI ?_ ?_ | intro _)))) (Imp.of_eq ?_))
    rw [ownerA, if_neg (by simpa using h1)]
    rfl
  have h1n : mayA l = true := by simpa using h1
  have m := mayA_of h1n
  have hpl := plcTo_lt p m.one l.length (Nat.le_refl _)
  have hpl2 : placeA l p < l.length := hpl
  ((repeat refine S.seq ?_); refine S.region (L.go (T := tt) tt_ok rfl rfl ?sd97 ?_); (try (case sd97 => (repeat' ((first | first | exact trivial | exact zA | with_reducible refine zI ?_ ?_ | exact zB | exact zC | exact zD | exact zE | rfl | exact zN rfl | omega | assumption | (simp; done) | (simp [splice]; done) | (simp; omega) | (unfold fits; omega) | (unfold fits; simp_all; omega) | (simp_all; omega) | (simp_all; done) | intro _ | exact zI ?_ ?_ | intro _))))); try (refine L.nil ?_))
  refine L.callP rfl rfl rfl rfl rfl rfl rfl ⟨trivial, by (repeat' ((first | first | exact trivial | exact zA | with_reducible refine zI ?_ ?_ | exact zB | exact zC | exact zD | exact zE | rfl | exact zN rfl | omega | assumption | (simp; done) | (simp [splice]; done) | (simp; omega) | (unfold fits; omega) | (unfold fits; simp_all; omega) | (simp_all; omega) | (simp_all; done) | intro _ | exact zI ?_ ?_ | intro _)))⟩ rfl (Imps.refl _) (rplace_p l p m) ?_
  (refine L.go (T := tt) tt_ok rfl rfl ?sd102 ?_; (try (case sd102 => (repeat' ((first | first | exact trivial | exact zA | with_reducible refine zI ?_ ?_ | exact zB | exact zC | exact zD | exact zE | rfl | exact zN rfl | omega | assumption | (simp; done) | (simp [splice]; done) | (simp; omega) | (unfold fits; omega) | (unfold fits; simp_all; omega) | (simp_all; omega) | (simp_all; done) | intro _ | exact zI ?_ ?_ | intro _))))); try (refine L.nil ?_))
  (((repeat refine S.seq ?_); refine S.ret ?_); refine E.retP (T := tt) tt_ok rfl rfl (by (repeat' ((first | first | exact trivial | exact zA | with_reducible refine zI ?_ ?_ | exact zB | exact zC | exact zD | exact zE | rfl | exact zN rfl | omega | assumption | (simp; done) | (simp [splice]; done) | (simp; omega) | (unfold fits; omega) | (unfold fits; simp_all; omega) | (simp_all; omega) | (simp_all; done) | intro _ | exact zI ?_ ?_ | intro _)))) (Imp.of_eq ?_))
  rw [ownerA, if_pos h1n]
  rfl

end Go.Proofs.YtlgdjmmjconbfaaDoor

/- Arcs, in plain words. -/
namespace Go.Proofs.YtlgdjmmjconbfaaDoor
set_option linter.unusedVariables false
set_option linter.unusedSimpArgs false
set_option maxHeartbeats 8000000
open Go.RowKit

def hd : List Arc → Int → Int
  | [], E => E
  | b :: _, _ => b.at0
def shr : List Arc → Int → Int → Int
  | [], _, _ => 0
  | a :: t, E, s => (if a.shard = s then hd t E - a.at0 else 0) + shr t E s
def wids : List Arc → Int → Int
  | [], _ => 0
  | a :: t, E => (hd t E - a.at0) + wids t E
def own : List Arc → Int → Int → Int
  | [], _, _ => -1
  | a :: t, E, p => if p < hd t E then a.shard else own t E p
def ups : List Arc → Int → Prop
  | [], _ => True
  | a :: t, E => a.at0 < hd t E ∧ ups t E
def hvE (a : Arc) (n s o : Int) : List Arc := if a.shard = s ∧ n - a.at0 ≥ 2 then [⟨a.at0 + (n - a.at0) / 2, o⟩] else []
def hv : List Arc → Int → Int → Int → List Arc
  | [], _, _, _ => []
  | a :: t, E, s, o => a :: (hvE a (hd t E) s o ++ hv t E s o)
theorem hd_hv (l : List Arc) (E s o : Int) : hd (hv l E s o) E = hd l E := by cases l <;> rfl
theorem wids_eq : ∀ (l : List Arc) (E : Int), wids l E = E - hd l E
  | [], E => by simp [wids, hd]
  | a :: t, E => by rw [wids, wids_eq t E]; show _ = E - a.at0; omega
theorem ups_hv : ∀ (l : List Arc) (E s o : Int), ups l E → ups (hv l E s o) E
  | [], _, _, _, _ => trivial
  | a :: t, E, s, o, h => by
    have ih := ups_hv t E s o h.2
    have h1 := h.1
    have e := hd_hv t E s o
    rw [hv, hvE]
    split
    · rename_i hc
      refine ⟨?_, ?_, ih⟩
      · show a.at0 < a.at0 + (hd t E - a.at0) / 2
        omega
      · show a.at0 + (hd t E - a.at0) / 2 < hd (hv t E s o) E
        rw [e]
        omega
    · refine ⟨?_, ih⟩
      show a.at0 < hd (hv t E s o) E
      rw [e]
      exact h1
theorem shr_hv : ∀ (l : List Arc) (E s o : Int), s ≠ o → shr (hv l E s o) E s + shr (hv l E s o) E o = shr l E s + shr l E o
  | [], _, _, _, _ => rfl
  | a :: t, E, s, o, hso => by
    have ih := shr_hv t E s o hso
    have e := hd_hv t E s o
    rw [hv, hvE]
    split
    · rename_i hc
      have hao : a.shard ≠ o := fun h => hso (hc.1.symm.trans h)
      show ((if a.shard = s then _ else 0) + ((if o = s then _ else 0) + shr (hv t E s o) E s)) + ((if a.shard = o then _ else 0) + ((if o = o then _ else 0) + shr (hv t E s o) E o)) = ((if a.shard = s then _ else 0) + shr t E s) + ((if a.shard = o then _ else 0) + shr t E o)
      rw [if_pos hc.1, if_neg (fun h => hso h.symm), if_neg hao, if_pos rfl, if_pos hc.1, if_neg hao]
      show (a.at0 + (hd t E - a.at0) / 2 - a.at0 + (0 + _)) + (0 + (hd (hv t E s o) E - (a.at0 + (hd t E - a.at0) / 2) + _)) = _
      rw [e]
      omega
    · show ((if a.shard = s then hd (hv t E s o) E - a.at0 else 0) + shr (hv t E s o) E s) + ((if a.shard = o then hd (hv t E s o) E - a.at0 else 0) + shr (hv t E s o) E o) = ((if a.shard = s then _ else 0) + shr t E s) + ((if a.shard = o then _ else 0) + shr t E o)
      rw [e]
      omega
theorem shr_hv_else : ∀ (l : List Arc) (E s o x : Int), x ≠ s → x ≠ o → shr (hv l E s o) E x = shr l E x
  | [], _, _, _, _, _, _ => rfl
  | a :: t, E, s, o, x, h1, h2 => by
    have ih := shr_hv_else t E s o x h1 h2
    have e := hd_hv t E s o
    rw [hv, hvE]
    split
    · rename_i hc
      have hax : a.shard ≠ x := fun h => h1 (h.symm.trans hc.1)
      show (if a.shard = x then _ else 0) + ((if o = x then _ else 0) + shr (hv t E s o) E x) = (if a.shard = x then _ else 0) + shr t E x
      rw [if_neg hax, if_neg hax, if_neg (fun h => h2 h.symm), ih]
      omega
    · show (if a.shard = x then hd (hv t E s o) E - a.at0 else 0) + shr (hv t E s o) E x = (if a.shard = x then _ else 0) + shr t E x
      rw [e, ih]
def cnt (l : List Arc) (s : Int) : Int := ((l.filter fun a => a.shard == s).length : Int)
theorem cnt_cons (a : Arc) (t : List Arc) (s : Int) : cnt (a :: t) s = (if a.shard = s then 1 else 0) + cnt t s := by
  unfold cnt
  rw [List.filter_cons]
  by_cases h : a.shard = s
  · rw [if_pos (by simpa using h), if_pos h, List.length_cons]; omega
  · rw [if_neg (by simpa using h), if_neg h]; omega
theorem shr_bal : ∀ (l : List Arc) (E s o : Int), s ≠ o → ups l E → shr (hv l E s o) E o - shr l E o ≤ shr (hv l E s o) E s + cnt l s ∧ shr (hv l E s o) E s ≤ shr (hv l E s o) E o - shr l E o + cnt l s
  | [], _, _, _, _, _ => by simp [hv, shr, cnt]
  | a :: t, E, s, o, hso, hu => by
    have ih := shr_bal t E s o hso hu.2
    have hu1 := hu.1
    have e := hd_hv t E s o
    have hso' : ¬ o = s := fun h => hso h.symm
    rw [cnt_cons, hv, hvE]
    split
    · rename_i hc
      have hao : a.shard ≠ o := fun h => hso (hc.1.symm.trans h)
      show (((if a.shard = o then _ else 0) + ((if o = o then _ else 0) + shr (hv t E s o) E o)) - ((if a.shard = o then _ else 0) + shr t E o) ≤ ((if a.shard = s then _ else 0) + ((if o = s then _ else 0) + shr (hv t E s o) E s)) + _) ∧ (((if a.shard = s then _ else 0) + ((if o = s then _ else 0) + shr (hv t E s o) E s)) ≤ ((if a.shard = o then _ else 0) + ((if o = o then _ else 0) + shr (hv t E s o) E o)) - ((if a.shard = o then _ else 0) + shr t E o) + _)
      simp only [if_pos hc.1, if_neg hso', if_neg hao, if_true]
      show (0 + (hd (hv t E s o) E - (a.at0 + (hd t E - a.at0) / 2) + _) - (0 + _) ≤ (a.at0 + (hd t E - a.at0) / 2 - a.at0 + (0 + _)) + _) ∧ ((a.at0 + (hd t E - a.at0) / 2 - a.at0 + (0 + _)) ≤ 0 + (hd (hv t E s o) E - (a.at0 + (hd t E - a.at0) / 2) + _) - (0 + _) + _)
      rw [e]
      omega
    · rename_i hc
      show ((if a.shard = o then hd (hv t E s o) E - a.at0 else 0) + shr (hv t E s o) E o) - ((if a.shard = o then _ else 0) + shr t E o) ≤ ((if a.shard = s then hd (hv t E s o) E - a.at0 else 0) + shr (hv t E s o) E s) + _ ∧ ((if a.shard = s then hd (hv t E s o) E - a.at0 else 0) + shr (hv t E s o) E s) ≤ ((if a.shard = o then hd (hv t E s o) E - a.at0 else 0) + shr (hv t E s o) E o) - ((if a.shard = o then _ else 0) + shr t E o) + _
      rw [e]
      have hw : a.shard = s → hd t E - a.at0 < 2 := fun h => by
        have := fun h2 => hc ⟨h, h2⟩
        omega
      by_cases hs : a.shard = s
      · have hao : a.shard ≠ o := fun h => hso (hs.symm.trans h)
        have := hw hs
        simp only [if_pos hs, if_neg hao]
        omega
      · simp only [if_neg hs]
        omega
theorem own_hv : ∀ (l : List Arc) (E s o p : Int), p < E → own (hv l E s o) E p = own l E p ∨ own l E p = s ∧ own (hv l E s o) E p = o
  | [], _, _, _, _, _ => .inl rfl
  | a :: t, E, s, o, p, hp => by
    have ih := own_hv t E s o p hp
    have e := hd_hv t E s o
    rw [hv, hvE]
    split
    · rename_i hc
      have hl : own (a :: t) E p = if p < hd t E then a.shard else own t E p := rfl
      have hr : own (a :: ([⟨a.at0 + (hd t E - a.at0) / 2, o⟩] ++ hv t E s o)) E p = if p < a.at0 + (hd t E - a.at0) / 2 then a.shard else if p < hd (hv t E s o) E then o else own (hv t E s o) E p := rfl
      rw [hl, hr, e]
      have h2 := hc.2
      by_cases h1 : p < a.at0 + (hd t E - a.at0) / 2
      · rw [if_pos h1, if_pos (show p < hd t E by omega)]
        exact .inl rfl
      · rw [if_neg h1]
        by_cases h3 : p < hd t E
        · rw [if_pos h3, if_pos h3]
          exact .inr ⟨hc.1, rfl⟩
        · rw [if_neg h3, if_neg h3]
          exact ih
    · have hl : own (a :: t) E p = if p < hd t E then a.shard else own t E p := rfl
      have hr : own (a :: ([] ++ hv t E s o)) E p = if p < hd (hv t E s o) E then a.shard else own (hv t E s o) E p := rfl
      rw [hl, hr, e]
      by_cases h3 : p < hd t E
      · rw [if_pos h3, if_pos h3]
        exact .inl rfl
      · rw [if_neg h3, if_neg h3]
        exact ih
end Go.Proofs.YtlgdjmmjconbfaaDoor

/- Arcs by places, and in plain words. -/
namespace Go.Proofs.YtlgdjmmjconbfaaDoor
set_option linter.unusedVariables false
set_option linter.unusedSimpArgs false
set_option maxHeartbeats 8000000
open Go.RowKit

def inc (l : List Arc) : Prop := l.Pairwise fun a b => a.at0 < b.at0
structure Fit (l : List Arc) : Prop where
  may : MayA l
  fit : ∀ a ∈ l, 0 ≤ a.at0 ∧ a.at0 < 4294967296
theorem Fit.inc {l : List Arc} (h : Fit l) : inc l := List.pairwise_iff_getElem.2 fun i j hi hj hij => by
  have := h.may.up i j hij hj
  rwa [getD_get hi, getD_get hj] at this
def E0 (l : List Arc) : Int := (l.getD 0 default).at0 + 4294967296
theorem ups_of : ∀ {l : List Arc} {E : Int}, inc l → (∀ a ∈ l, a.at0 < E) → ups l E
  | [], _, _, _ => trivial
  | a :: t, E, h, hE => by
    have h' := List.pairwise_cons.1 h
    refine ⟨?_, ups_of h'.2 fun x hx => hE x (List.mem_cons_of_mem _ hx)⟩
    cases t with
    | nil => exact hE a List.mem_cons_self
    | cons b t => exact h'.1 b List.mem_cons_self
theorem ups_lt : ∀ {l : List Arc} {E : Int}, ups l E → hd l E ≤ E ∧ ∀ a ∈ l, hd l E ≤ a.at0 ∧ a.at0 < E
  | [], E, _ => ⟨Int.le_refl _, by simp⟩
  | a :: t, E, h => by
    have ih := ups_lt h.2
    have h1 := h.1
    refine ⟨by show a.at0 ≤ E; omega, fun x hx => ?_⟩
    show a.at0 ≤ x.at0 ∧ _
    rcases List.mem_cons.1 hx with rfl | hx
    · omega
    · have := ih.2 x hx
      omega
theorem inc_of : ∀ {l : List Arc} {E : Int}, ups l E → inc l
  | [], _, _ => List.Pairwise.nil
  | a :: t, E, h => List.pairwise_cons.2 ⟨fun b hb => by
      have := (ups_lt h.2).2 b hb
      have := h.1
      omega, inc_of h.2⟩
theorem Fit.e0 {l : List Arc} (h : Fit l) : 4294967296 ≤ E0 l ∧ hd l (E0 l) = E0 l - 4294967296 ∧ ∀ a ∈ l, a.at0 < E0 l := by
  have h1 := h.may.one
  cases l with
  | nil => simp at h1
  | cons b t =>
    have := h.fit b List.mem_cons_self
    have e : E0 (b :: t) = b.at0 + 4294967296 := rfl
    rw [e]
    exact ⟨by omega, by show b.at0 = _; omega, fun a ha => by have := h.fit a ha; omega⟩
theorem Fit.ups {l : List Arc} (h : Fit l) : ups l (E0 l) := ups_of h.inc h.e0.2.2

/-- An arc's width. -/
def widA (l : List Arc) (k : Nat) : Int := if l.length = 1 then 4294967296 else wayF (l.getD k default).at0 (l.getD ((k + 1) % l.length) default).at0
theorem way_eq (a b : Int) : wayF a b = (b - a) % 4294967296 := rfl
theorem hd_drop {l : List Arc} {k : Nat} (E : Int) : hd (l.drop k) E = if k < l.length then (l.getD k default).at0 else E := by
  split
  · rename_i h
    rw [List.drop_eq_getElem_cons h, getD_get h]
    rfl
  · rw [List.drop_eq_nil_of_le (by omega)]
    rfl
theorem widA_eq {l : List Arc} (h : Fit l) {k : Nat} (hk : k < l.length) : widA l k = hd (l.drop (k + 1)) (E0 l) - (l.getD k default).at0 := by
  have f : ∀ i, i < l.length → 0 ≤ (l.getD i default).at0 ∧ (l.getD i default).at0 < 4294967296 := fun i hi => h.fit _ (by rw [getD_get hi]; exact List.getElem_mem _)
  rw [widA, hd_drop]
  by_cases h1 : l.length = 1
  · rw [if_pos h1, if_neg (by omega), E0]
    obtain rfl : k = 0 := by omega
    omega
  · rw [if_neg h1, way_eq]
    have fk := f k hk
    by_cases h2 : k + 1 < l.length
    · rw [if_pos h2, Nat.mod_eq_of_lt h2]
      have := h.may.up k (k + 1) (by omega) h2
      have := f (k + 1) h2
      omega
    · have e : k + 1 = l.length := by omega
      rw [if_neg h2, e, Nat.mod_self, E0]
      have := h.may.up 0 k (by omega) hk
      have := f 0 (by omega)
      omega
def shareTo (l : List Arc) (s : Int) : Nat → Int
  | 0 => 0
  | k + 1 => shareTo l s k + if (l.getD k default).shard = s then widA l k else 0
def shareA (l : List Arc) (s : Int) : Int := if mayA l then shareTo l s l.length else 0
theorem shareTo_eq {l : List Arc} (h : Fit l) (s : Int) : ∀ k, k ≤ l.length → shareTo l s k + shr (l.drop k) (E0 l) s = shr l (E0 l) s
  | 0, _ => by rw [shareTo]; simp
  | k + 1, hk => by
    have ih := shareTo_eq h s k (by omega)
    rw [List.drop_eq_getElem_cons (show k < l.length by omega), shr] at ih
    rw [shareTo, widA_eq h (by omega), getD_get (show k < l.length by omega)]
    omega
theorem shareA_eq {l : List Arc} (h : Fit l) (hm : mayA l = true) (s : Int) : shareA l s = shr l (E0 l) s := by
  have := shareTo_eq h s l.length (Nat.le_refl _)
  rw [List.drop_length, shr] at this
  rw [shareA, if_pos hm]
  omega

/-- Owners. -/
theorem own_at : ∀ {l : List Arc} {E p : Int} {lo : Nat}, 1 ≤ lo → lo ≤ l.length → (∀ i, i < lo → (l.getD i default).at0 ≤ p) → (∀ i, lo ≤ i → i < l.length → p < (l.getD i default).at0) → p < E → own l E p = (l.getD (lo - 1) default).shard
  | [], _, _, lo, h1, h2, _, _, _ => by simp at h2; omega
  | a :: t, E, p, 1, h1, h2, h3, h4, h5 => by
    have : p < hd t E := by
      cases t with
      | nil => exact h5
      | cons b t => exact h4 1 (by omega) (by simp)
    rw [own, if_pos this]
    rfl
  | a :: t, E, p, lo + 2, h1, h2, h3, h4, h5 => by
    have hl : lo + 1 ≤ t.length := by simpa using h2
    have : ¬ p < hd t E := by
      cases t with
      | nil => simp at hl
      | cons b t => have := h3 1 (by omega); exact Int.not_lt.2 this
    rw [own, if_neg this, own_at (lo := lo + 1) (by omega) hl (fun i hi => h3 (i + 1) (by omega)) (fun i hi hil => h4 (i + 1) (by omega) (by simpa using hil)) h5]
    rfl
theorem ex_lo : ∀ {l : List Arc} (p : Int), inc l → ∃ lo, lo ≤ l.length ∧ (∀ i, i < lo → (l.getD i default).at0 ≤ p) ∧ ∀ i, lo ≤ i → i < l.length → p < (l.getD i default).at0
  | [], _, _ => ⟨0, by simp, by simp, by simp⟩
  | a :: t, p, h => by
    have h' := List.pairwise_cons.1 h
    by_cases ha : a.at0 ≤ p
    · obtain ⟨lo, h1, h2, h3⟩ := ex_lo p h'.2
      refine ⟨lo + 1, by simpa using h1, fun i hi => ?_, fun i hi hil => ?_⟩
      · cases i with
        | zero => exact ha
        | succ i => exact h2 i (by omega)
      · cases i with
        | zero => omega
        | succ i => exact h3 i (by omega) (by simpa using hil)
    · refine ⟨0, Nat.zero_le _, by simp, fun i _ hil => ?_⟩
      cases i with
      | zero => exact Int.not_le.1 ha
      | succ i =>
        have hil : i < t.length := by simpa using hil
        have := h'.1 t[i] (List.getElem_mem _)
        show p < (t.getD i default).at0
        rw [getD_get hil]
        omega
def lift (l : List Arc) (p : Int) : Int := if p < (l.getD 0 default).at0 then p + 4294967296 else p
theorem owner_eq {l : List Arc} (h : Fit l) (hm : mayA l = true) {p : Int} (p0 : 0 ≤ p) (p1 : p < 4294967296) : ownerA l p = own l (E0 l) (lift l p) ∧ lift l p < E0 l ∧ hd l (E0 l) ≤ lift l p := by
  obtain ⟨lo, h1, h2, h3⟩ := ex_lo p h.inc
  have hl := plcTo_lo h2 (fun i hi hil => Int.not_le.2 (h3 i hi hil)) l.length (Nat.le_refl _) h1
  have hone := h.may.one
  have he := h.e0
  have f0 := h.fit _ (show l.getD 0 default ∈ l by rw [getD_get (show 0 < l.length by omega)]; exact List.getElem_mem _)
  have e : E0 l = (l.getD 0 default).at0 + 4294967296 := rfl
  rw [ownerA, if_pos hm, placeA, hl, lift]
  by_cases hz : lo = 0
  · subst hz
    have h0 := h3 0 (by omega) (by omega)
    rw [if_pos rfl, if_pos h0]
    refine ⟨(own_at (lo := l.length) hone (Nat.le_refl _) (fun i hi => ?_) (fun i hi hil => by omega) (by omega)).symm, by omega, by omega⟩
    have := h.fit _ (show l.getD i default ∈ l by rw [getD_get hi]; exact List.getElem_mem _)
    omega
  · have h0 := h2 0 (by omega)
    rw [if_neg hz, if_neg (by omega)]
    exact ⟨(own_at (by omega) h1 h2 h3 (by omega)).symm, by omega, by omega⟩
end Go.Proofs.YtlgdjmmjconbfaaDoor

/- A halved ring. -/
namespace Go.Proofs.YtlgdjmmjconbfaaDoor
set_option linter.unusedVariables false
set_option linter.unusedSimpArgs false
set_option maxHeartbeats 8000000
open Go.RowKit

theorem mayA_to {l : List Arc} (h : MayA l) : mayA l = true := by
  have h1 := h.one
  have h2 := h.most
  unfold mayA fitA
  rw [Bool.and_eq_true, Bool.not_eq_true', Bool.or_eq_false_iff, decide_eq_false_iff_not, decide_eq_false_iff_not, List.all_eq_true]
  refine ⟨⟨by omega, by omega⟩, fun i hi => ?_⟩
  have hi := List.mem_range.1 hi
  have hs := h.shard i hi
  simp only [badA, Bool.not_eq_true', Bool.or_eq_false_iff, Bool.and_eq_false_iff, decide_eq_false_iff_not]
  refine ⟨by omega, ?_⟩
  by_cases h0 : i = 0
  · exact .inl (by omega)
  · have := h.up (i - 1) i (by omega) hi
    exact .inr (by omega)
theorem may_to {l : List Arc} (h1 : 1 ≤ l.length) (h2 : l.length ≤ 1024) (hs : ∀ a ∈ l, 0 ≤ a.shard ∧ a.shard < 16) (hi : inc l) : MayA l :=
  ⟨h1, h2, fun i hi => hs _ (by rw [getD_get hi]; exact List.getElem_mem _), fun i j hij hj => by
    have := List.pairwise_iff_getElem.1 hi i j (by omega) hj hij
    rwa [getD_get (by omega), getD_get hj]⟩
theorem inc_eq {l m : List Arc} (h1 : inc l) (h2 : inc m) (hp : l.Perm m) : l = m :=
  hp.eq_of_pairwise (le := fun a b : Arc => a.at0 < b.at0) (fun a b _ _ x y => absurd (Int.lt_trans x y) (Int.lt_irrefl _)) h1 h2
theorem inc_split : ∀ {h : List Arc} (M : Int), inc h → h = h.filter (fun a => decide (a.at0 < M)) ++ h.filter (fun a => decide (¬ a.at0 < M))
  | [], _, _ => rfl
  | a :: t, M, h => by
    have h' := List.pairwise_cons.1 h
    have ih := inc_split M h'.2
    by_cases ha : a.at0 < M
    · rw [List.filter_cons_of_pos (by simpa using ha), List.filter_cons_of_neg (by simpa using ha), List.cons_append, ← ih]
    · have hn : t.filter (fun a => decide (a.at0 < M)) = [] := List.filter_eq_nil_iff.2 fun x hx => by
        have := h'.1 x hx
        simp only [decide_eq_true_eq]
        omega
      rw [List.filter_cons_of_neg (by simpa using ha), List.filter_cons_of_pos (by simpa using ha), hn, List.nil_append]
      rw [hn, List.nil_append] at ih
      rw [← ih]
theorem own_app : ∀ {X Y : List Arc} {E p : Int}, X ≠ [] → ups (X ++ Y) E → own (X ++ Y) E p = if p < hd Y E then own X (hd Y E) p else own Y E p
  | [], _, _, _, h, _ => absurd rfl h
  | [a], Y, E, p, _, _ => by
    show (if p < hd Y E then a.shard else own Y E p) = if p < hd Y E then (if p < hd Y E then a.shard else own [] _ p) else _
    by_cases h : p < hd Y E
    · rw [if_pos h, if_pos h, if_pos h]
    · rw [if_neg h, if_neg h]
  | a :: b :: t, Y, E, p, _, hu => by
    have ih := own_app (X := b :: t) (Y := Y) (E := E) (p := p) (by simp) hu.2
    have hb : b.at0 < hd Y E := by
      have h2 := hu.2
      have hl := ups_lt h2
      cases Y with
      | nil => exact (hl.2 b (by simp)).2
      | cons y Y =>
        have hi := inc_of h2
        have hi : List.Pairwise (fun a b : Arc => a.at0 < b.at0) (b :: (t ++ y :: Y)) := hi
        exact (List.pairwise_cons.1 hi).1 y (by simp)
    have e1 : own (a :: b :: t ++ Y) E p = if p < b.at0 then a.shard else own (b :: t ++ Y) E p := rfl
    have e2 : own (a :: b :: t) (hd Y E) p = if p < b.at0 then a.shard else own (b :: t) (hd Y E) p := rfl
    rw [e1, e2, ih]
    by_cases h1 : p < b.at0
    · rw [if_pos h1, if_pos (show p < hd Y E by omega), if_pos h1]
    · rw [if_neg h1, if_neg h1]
theorem hd_app (t Y : List Arc) (E : Int) : hd (t ++ Y) E = hd t (hd Y E) := by cases t <;> rfl
theorem shr_app : ∀ (X Y : List Arc) (E s : Int), shr (X ++ Y) E s = shr X (hd Y E) s + shr Y E s
  | [], Y, E, s => by simp [shr]
  | a :: t, Y, E, s => by
    rw [List.cons_append, shr, shr, shr_app t Y E s, hd_app]
    omega
def wrap (a : Arc) : Arc := ⟨a.at0 - 4294967296, a.shard⟩
theorem hd_wrap (Y : List Arc) (E : Int) : hd (Y.map wrap) (E - 4294967296) = hd Y E - 4294967296 := by cases Y <;> rfl
theorem shr_wrap : ∀ (Y : List Arc) (E s : Int), shr (Y.map wrap) (E - 4294967296) s = shr Y E s
  | [], _, _ => rfl
  | a :: t, E, s => by
    rw [List.map_cons, shr, shr, shr_wrap t E s, hd_wrap]
    show (if a.shard = s then hd t E - 4294967296 - (a.at0 - 4294967296) else 0) + _ = _
    rw [show hd t E - 4294967296 - (a.at0 - 4294967296) = hd t E - a.at0 by omega]
theorem own_wrap : ∀ (Y : List Arc) (E p : Int), own (Y.map wrap) (E - 4294967296) p = own Y E (p + 4294967296)
  | [], _, _ => rfl
  | a :: t, E, p => by
    rw [List.map_cons, own, own, own_wrap t E p, hd_wrap]
    show (if p < hd t E - 4294967296 then a.shard else _) = _
    by_cases h : p < hd t E - 4294967296
    · rw [if_pos h, if_pos (by omega)]
    · rw [if_neg h, if_neg (by omega)]

/-- What goes over the end stands ahead. -/
def rot (h : List Arc) : List Arc := (h.filter fun a => decide (¬ a.at0 < 4294967296)).map wrap ++ h.filter fun a => decide (a.at0 < 4294967296)
structure Turn (h : List Arc) (E : Int) : Prop where
  ups : ups h E
  e1 : hd h E = E - 4294967296
  e2 : 0 ≤ hd h E
  e3 : hd h E < 4294967296
theorem Turn.parts {h : List Arc} {E : Int} (t : Turn h E) : ∃ X Y, h = X ++ Y ∧ rot h = Y.map wrap ++ X ∧ X ≠ [] ∧ (∀ a ∈ X, E - 4294967296 ≤ a.at0 ∧ a.at0 < 4294967296) ∧ (∀ a ∈ Y, 4294967296 ≤ a.at0 ∧ a.at0 < E) := by
  have hl := ups_lt t.ups
  have e1 := t.e1
  have e3 := t.e3
  refine ⟨_, _, inc_split 4294967296 (inc_of t.ups), rfl, ?_, fun a ha => ?_, fun a ha => ?_⟩
  · cases h with
    | nil => have h1 : hd [] E = E := rfl; omega
    | cons b t' =>
      have h1 : hd (b :: t') E = b.at0 := rfl
      rw [List.filter_cons_of_pos (by simp only [decide_eq_true_eq]; omega)]
      simp
  · obtain ⟨h1, h2⟩ := List.mem_filter.1 ha
    have := hl.2 a h1
    simp only [decide_eq_true_eq] at h2
    omega
  · obtain ⟨h1, h2⟩ := List.mem_filter.1 ha
    have := hl.2 a h1
    simp only [decide_eq_true_eq] at h2
    omega
theorem inc_wrap {Y : List Arc} (h : inc Y) : inc (Y.map wrap) := List.pairwise_map.2 (h.imp fun {a b} hab => by
  show a.at0 - 4294967296 < b.at0 - 4294967296
  omega)
theorem rot_facts {h : List Arc} {E : Int} (t : Turn h E) : inc (rot h) ∧ (∀ a ∈ rot h, 0 ≤ a.at0 ∧ a.at0 < 4294967296) ∧ (rot h).length = h.length ∧ (∀ a ∈ rot h, ∃ b ∈ h, a.shard = b.shard) ∧ (∀ s, shr (rot h) (E0 (rot h)) s = shr h E s) ∧
    ∀ p, 0 ≤ p → p < 4294967296 → own (rot h) (E0 (rot h)) (lift (rot h) p) = own h E (if p < hd h E then p + 4294967296 else p) := by
  obtain ⟨X, Y, hh, hr, hX, x1, y1⟩ := t.parts
  have hu := t.ups
  have e1 := t.e1
  have e2 := t.e2
  have e3 := t.e3
  have hi := inc_of hu
  rw [hh] at hi
  have hi := List.pairwise_append.1 hi
  obtain ⟨c, X', rfl⟩ : ∃ c X', X = c :: X' := by
    cases X with
    | nil => exact absurd rfl hX
    | cons c X' => exact ⟨c, X', rfl⟩
  have hc : c.at0 = E - 4294967296 := by
    rw [hh] at e1
    exact e1
  rw [hr]
  refine ⟨?_, ?_, ?_, ?_, ?_, ?_⟩
  · refine List.pairwise_append.2 ⟨inc_wrap hi.2.1, hi.1, fun a ha b hb => ?_⟩
    obtain ⟨z, hz, rfl⟩ := List.mem_map.1 ha
    have h1 := y1 z hz
    have h2 := x1 b hb
    show z.at0 - 4294967296 < b.at0
    omega
  · intro a ha
    rcases List.mem_append.1 ha with ha | ha
    · obtain ⟨z, hz, rfl⟩ := List.mem_map.1 ha
      have h1 := y1 z hz
      show 0 ≤ z.at0 - 4294967296 ∧ z.at0 - 4294967296 < 4294967296
      omega
    · have := x1 a ha
      omega
  · rw [hh]
    simp only [List.length_append, List.length_map]
    omega
  · intro a ha
    rcases List.mem_append.1 ha with ha | ha
    · obtain ⟨z, hz, rfl⟩ := List.mem_map.1 ha
      exact ⟨z, by rw [hh]; exact List.mem_append_right _ hz, rfl⟩
    · exact ⟨a, by rw [hh]; exact List.mem_append_left _ ha, rfl⟩
  · intro s
    cases Y with
    | nil =>
      have e : E0 (c :: X') = E := by show c.at0 + 4294967296 = E; omega
      rw [hh, List.append_nil]
      show shr (c :: X') (E0 (c :: X')) s = _
      rw [e]
    | cons y Y =>
      have hy := y1 y List.mem_cons_self
      have e : E0 ((y :: Y).map wrap ++ c :: X') = y.at0 := by show y.at0 - 4294967296 + 4294967296 = _; omega
      have ec : hd (c :: X') y.at0 = E - 4294967296 := hc
      rw [e, hh, shr_app, shr_app, ec, shr_wrap]
      show _ = shr (c :: X') y.at0 s + _
      omega
  · intro p p0 p1
    have hd1 : hd h E = E - 4294967296 := e1
    rw [hd1]
    cases Y with
    | nil =>
      have e : E0 (c :: X') = E := by show c.at0 + 4294967296 = E; omega
      have el : lift (c :: X') p = if p < E - 4294967296 then p + 4294967296 else p := by rw [← hc]; rfl
      rw [hh, List.append_nil]
      show own (c :: X') (E0 (c :: X')) (lift (c :: X') p) = _
      rw [e, el]
    | cons y Y =>
      have hy := y1 y List.mem_cons_self
      have e : E0 ((y :: Y).map wrap ++ c :: X') = y.at0 := by show y.at0 - 4294967296 + 4294967296 = _; omega
      have el : lift ((y :: Y).map wrap ++ c :: X') p = if p < y.at0 - 4294967296 then p + 4294967296 else p := rfl
      have ec : hd (c :: X') y.at0 = E - 4294967296 := hc
      have hu2 : ups ((y :: Y).map wrap ++ c :: X') y.at0 := ups_of (List.pairwise_append.2 ⟨inc_wrap hi.2.1, hi.1, fun a ha b hb => by
          obtain ⟨z, hz, rfl⟩ := List.mem_map.1 ha
          have h1 := y1 z hz
          have h2 := x1 b hb
          show z.at0 - 4294967296 < b.at0
          omega⟩) (fun a ha => by
        rcases List.mem_append.1 ha with ha | ha
        · obtain ⟨z, hz, rfl⟩ := List.mem_map.1 ha
          have h1 := y1 z hz
          show z.at0 - 4294967296 < y.at0
          omega
        · exact hi.2.2 a ha y List.mem_cons_self)
      rw [e, el, own_app (by simp) hu2, ec, own_wrap, hh, own_app (by simp) (by rw [← hh]; exact hu)]
      show _ = if _ < y.at0 then own (c :: X') y.at0 _ else own (y :: Y) E _
      by_cases h1 : p < y.at0 - 4294967296
      · rw [if_pos h1, if_neg (by omega), if_pos (show p < E - 4294967296 by omega), if_pos (by omega)]
      · rw [if_neg h1]
        by_cases h2 : p < E - 4294967296
        · rw [if_pos h2, if_pos h2, if_neg (by omega)]
        · rw [if_neg h2, if_neg h2, if_pos (by omega)]
end Go.Proofs.YtlgdjmmjconbfaaDoor

/- Halving, in plain words. -/
namespace Go.Proofs.YtlgdjmmjconbfaaDoor
set_option linter.unusedVariables false
set_option linter.unusedSimpArgs false
set_option maxHeartbeats 8000000
open Go.RowKit

def hvS (l : List Arc) (s o : Int) : List Arc := rot (hv l (E0 l) s o)
theorem hv_len : ∀ (l : List Arc) (E s o : Int), l.length ≤ (hv l E s o).length ∧ (hv l E s o).length ≤ 2 * l.length
  | [], _, _, _ => by simp [hv]
  | a :: t, E, s, o => by
    have ih := hv_len t E s o
    rw [hv, hvE]
    split <;> simp only [List.length_cons, List.length_append, List.length_nil] <;> omega
theorem hv_shard : ∀ (l : List Arc) (E s o : Int), ∀ a ∈ hv l E s o, a.shard = o ∨ a ∈ l
  | [], _, _, _, a, h => by cases h
  | b :: t, E, s, o, a, h => by
    rw [hv] at h
    rcases List.mem_cons.1 h with rfl | h
    · exact .inr List.mem_cons_self
    rcases List.mem_append.1 h with h | h
    · unfold hvE at h
      split at h
      · rw [List.mem_singleton.1 h]
        exact .inl rfl
      · cases h
    · exact (hv_shard t E s o a h).imp id (List.mem_cons_of_mem _)
theorem Fit.turn {l : List Arc} (h : Fit l) (s o : Int) : Turn (hv l (E0 l) s o) (E0 l) := by
  have he := h.e0
  have h1 := h.may.one
  have f0 := h.fit _ (show l.getD 0 default ∈ l by rw [getD_get (show 0 < l.length by omega)]; exact List.getElem_mem _)
  have e : E0 l = (l.getD 0 default).at0 + 4294967296 := rfl
  exact ⟨ups_hv _ _ _ _ h.ups, by rw [hd_hv]; exact he.2.1, by rw [hd_hv]; omega, by rw [hd_hv]; omega⟩
theorem hvS_fit {l : List Arc} (h : Fit l) {s o : Int} (o0 : 0 ≤ o) (o1 : o < 16) (hl : 2 * l.length ≤ 1024) : Fit (hvS l s o) := by
  obtain ⟨r1, r2, r3, r4, -, -⟩ := rot_facts (h.turn s o)
  have hn := hv_len l (E0 l) s o
  have h1 := h.may.one
  refine ⟨may_to (by unfold hvS; omega) (by unfold hvS; omega) (fun a ha => ?_) r1, r2⟩
  obtain ⟨b, hb, e⟩ := r4 a ha
  rw [e]
  rcases hv_shard _ _ _ _ b hb with h2 | h2
  · omega
  · obtain ⟨i, hi, rfl⟩ := List.mem_iff_getElem.1 h2
    have := h.may.shard i hi
    rwa [getD_get hi] at this
theorem hvS_share {l : List Arc} (h : Fit l) {s o : Int} (o0 : 0 ≤ o) (o1 : o < 16) (hl : 2 * l.length ≤ 1024) (x : Int) : shareA (hvS l s o) x = shr (hv l (E0 l) s o) (E0 l) x := by
  have hf := hvS_fit h (s := s) o0 o1 hl
  rw [shareA_eq hf (mayA_to hf.may)]
  exact (rot_facts (h.turn s o)).2.2.2.2.1 x
theorem hvS_owner {l : List Arc} (h : Fit l) {s o : Int} (o0 : 0 ≤ o) (o1 : o < 16) (hl : 2 * l.length ≤ 1024) {p : Int} (p0 : 0 ≤ p) (p1 : p < 4294967296) :
    ownerA (hvS l s o) p = ownerA l p ∨ ownerA l p = s ∧ ownerA (hvS l s o) p = o := by
  have hf := hvS_fit h (s := s) o0 o1 hl
  obtain ⟨a1, -, -⟩ := owner_eq hf (mayA_to hf.may) p0 p1
  obtain ⟨b1, b2, b3⟩ := owner_eq h (mayA_to h.may) p0 p1
  have c := (rot_facts (h.turn s o)).2.2.2.2.2 p p0 p1
  have e : (if p < hd (hv l (E0 l) s o) (E0 l) then p + 4294967296 else p) = lift l p := by
    rw [hd_hv, h.e0.2.1, lift]
    have : E0 l - 4294967296 = (l.getD 0 default).at0 := by unfold E0; omega
    rw [this]
  rw [e] at c
  rw [a1, b1]
  unfold hvS
  rw [c]
  exact own_hv l (E0 l) s o (lift l p) b2

/-- The new arcs, one by one. -/
def exE (l : List Arc) (s o : Int) (k : Nat) : List Arc := if (l.getD k default).shard = s ∧ widA l k ≥ 2 then [⟨((l.getD k default).at0 + widA l k / 2) % 4294967296, o⟩] else []
def exTo (l : List Arc) (s o : Int) : Nat → List Arc
  | 0 => []
  | k + 1 => exTo l s o k ++ exE l s o k
def exR : List Arc → Int → Int → Int → List Arc
  | [], _, _, _ => []
  | a :: t, E, s, o => hvE a (hd t E) s o ++ exR t E s o
def low32 (a : Arc) : Arc := if a.at0 < 4294967296 then a else wrap a
theorem hv_perm : ∀ (l : List Arc) (E s o : Int), (hv l E s o).Perm (l ++ exR l E s o)
  | [], _, _, _ => List.Perm.refl _
  | a :: t, E, s, o => by
    have ih := hv_perm t E s o
    rw [hv, exR, List.cons_append]
    refine List.Perm.cons _ ((List.Perm.append_left _ ih).trans ?_)
    rw [← List.append_assoc, ← List.append_assoc]
    exact List.Perm.append_right _ List.perm_append_comm
theorem rot_perm : ∀ (h : List Arc), (rot h).Perm (h.map low32)
  | [] => List.Perm.refl _
  | a :: t => by
    have ih := rot_perm t
    unfold rot at ih ⊢
    rw [List.map_cons, low32]
    by_cases ha : a.at0 < 4294967296
    · rw [List.filter_cons_of_neg (by simpa using ha), List.filter_cons_of_pos (by simpa using ha), if_pos ha]
      exact List.perm_middle.trans (List.Perm.cons _ ih)
    · rw [List.filter_cons_of_pos (by simpa using ha), List.filter_cons_of_neg (by simpa using ha), if_neg ha]
      exact List.Perm.cons _ ih
theorem exTo_eq {l : List Arc} (h : Fit l) (s o : Int) : ∀ k, k ≤ l.length → exTo l s o k ++ (exR (l.drop k) (E0 l) s o).map low32 = (exR l (E0 l) s o).map low32
  | 0, _ => by rw [exTo]; simp
  | k + 1, hk => by
    have ih := exTo_eq h s o k (by omega)
    have hk' : k < l.length := by omega
    rw [List.drop_eq_getElem_cons hk', exR, List.map_append] at ih
    rw [← ih, exTo, List.append_assoc]
    congr 2
    have hw := widA_eq h hk'
    have hu := h.ups
    have f := h.fit _ (show l.getD k default ∈ l by rw [getD_get hk']; exact List.getElem_mem _)
    have he := h.e0
    have hhd : hd (l.drop (k + 1)) (E0 l) ≤ E0 l := by
      rw [hd_drop]
      split
      · rename_i h2
        have := he.2.2 _ (show l.getD (k + 1) default ∈ l by rw [getD_get h2]; exact List.getElem_mem _)
        omega
      · exact Int.le_refl _
    have f0 := h.fit _ (show l.getD 0 default ∈ l by rw [getD_get (show 0 < l.length by omega)]; exact List.getElem_mem _)
    have e : E0 l = (l.getD 0 default).at0 + 4294967296 := rfl
    rw [exE, hvE, ← getD_get hk', ← hw]
    split
    · rename_i hc
      have hq : (l.getD k default).at0 + widA l k / 2 < E0 l := by omega
      show [_] = [low32 _]
      unfold low32
      by_cases h3 : (l.getD k default).at0 + widA l k / 2 < 4294967296
      · rw [if_pos h3, Int.emod_eq_of_lt (by omega) h3]
      · rw [if_neg h3]
        exact congrArg (fun z => [(⟨z, o⟩ : Arc)]) (show ((l.getD k default).at0 + widA l k / 2) % 4294967296 = (l.getD k default).at0 + widA l k / 2 - 4294967296 by omega)
    · rfl
theorem hvS_perm {l : List Arc} (h : Fit l) (s o : Int) : (hvS l s o).Perm (l ++ exTo l s o l.length) := by
  have h1 := exTo_eq h s o l.length (Nat.le_refl _)
  rw [List.drop_length, exR, List.map_nil, List.append_nil] at h1
  have h2 : l.map low32 = l := by
    rw [List.map_congr_left (g := id) fun a ha => ?_, List.map_id]
    rw [low32, if_pos (h.fit a ha).2]
    rfl
  refine (rot_perm _).trans (((hv_perm l (E0 l) s o).map low32).trans ?_)
  rw [List.map_append, h2, h1]
end Go.Proofs.YtlgdjmmjconbfaaDoor

/- Widths and shares, walked. -/
namespace Go.Proofs.YtlgdjmmjconbfaaDoor
set_option linter.unusedVariables false
set_option linter.unusedSimpArgs false
set_option maxHeartbeats 8000000
open Go.RowKit
set_option maxRecDepth 4000

theorem tmod_nat (k n : Nat) : ((k : Int) + 1).tmod n = (((k + 1) % n : Nat) : Int) := by
  rw [Int.tmod_eq_emod_of_nonneg (by omega)]
  rfl
theorem u64_u32 (a b : Int) : IntKind.u64.wrap (wayF a b) = wayF a b := by
  have e : ∀ z, IntKind.u64.wrap z = z % 18446744073709551616 := fun _ => rfl
  rw [e, way_eq]
  omega
theorem width_p (l : List Arc) (k : Nat) (hk : k < l.length) (hl : l.length ≤ 1024) : PFn Tryd.prog 48 [arcs l, .v (.int .i64 k)] (.v (.int .u64 (widA l k))) := by
  have hm : (k + 1) % l.length < l.length := Nat.mod_lt _ (by omega)
  have ht := tmod_nat k l.length
  refine FnC.intro Tryd.func48 rfl Tryd.ntmps48 rfl ?_; intro off w0
  ((repeat refine S.seq ?_); refine S.region (L.go (T := tt) tt_ok rfl rfl ?sd106 ?_); (try (case sd106 => (repeat' ((first | first | exact trivial | exact zA | with_reducible refine zI ?_ ?_ | exact zB | exact zC | exact zD | exact zE | rfl | exact zN rfl | omega | assumption | (simp; done) | (simp [splice]; done) | (simp; omega) | (unfold fits; omega) | (unfold fits; simp_all; omega) | (simp_all; omega) | (simp_all; done) | intro _ | exact zI ?_ ?_ | intro _))))); try (refine L.nil ?_))
  ((repeat refine S.seq ?_); refine S.region (L.go (T := tt) tt_ok rfl rfl ?sd107 ?_); (try (case sd107 => (repeat' ((first | first | exact trivial | exact zA | with_reducible refine zI ?_ ?_ | exact zB | exact zC | exact zD | exact zE | rfl | exact zN rfl | omega | assumption | (simp; done) | (simp [splice]; done) | (simp; omega) | (unfold fits; omega) | (unfold fits; simp_all; omega) | (simp_all; omega) | (simp_all; done) | intro _ | exact zI ?_ ?_ | intro _))))); try (refine L.nil ?_))
  ((repeat refine S.seq ?_); refine S.cond rfl (fun h1 => ?_) (fun h1 => ?_) <;> (try first | refine S.skip ?_ | refine S.exit ?_))
  · have h1 : l.length = 1 := by have := eq_of_beq h1; omega
    ((repeat refine S.seq ?_); refine S.region (L.go (T := tt) tt_ok rfl rfl ?sd108 ?_); (try (case sd108 => (repeat' ((first | first | exact trivial | exact zA | with_reducible refine zI ?_ ?_ | exact zB | exact zC | exact zD | exact zE | rfl | exact zN rfl | omega | assumption | (simp; done) | (simp [splice]; done) | (simp; omega) | (unfold fits; omega) | (unfold fits; simp_all; omega) | (simp_all; omega) | (simp_all; done) | intro _ | exact zI ?_ ?_ | intro _))))); try (refine L.nil ?_))
    (((repeat refine S.seq ?_); refine S.ret ?_); refine E.retP (T := tt) tt_ok rfl rfl (by (repeat' ((first | first | exact trivial | exact zA | with_reducible refine zI ?_ ?_ | exact zB | exact zC | exact zD | exact zE | rfl | exact zN rfl | omega | assumption | (simp; done) | (simp [splice]; done) | (simp; omega) | (unfold fits; omega) | (unfold fits; simp_all; omega) | (simp_all; omega) | (simp_all; done) | intro _ | exact zI ?_ ?_ | intro _)))) (Imp.of_eq ?_))
    rw [widA, if_pos h1]
    rfl
  have h1 : ¬ l.length = 1 := by have := beq_eq_false_iff_ne.1 h1; omega
  repeat refine S.seq ?_
  refine S.draw [] mixed ?_
  (refine H.ts (T := tt) [0, 1, 2, 3, 4, 5, 6, 7, 8, 9] tt_ok (by kernel_rfl) (by kernel_rfl) (by kernel_rfl) (by intro ch a a' w h; obtain ⟨_, _, _, _, _, h, _⟩ := h; cases h) rfl ?sd133 ?_; (try (case sd133 => (repeat' ((first | first | exact trivial | exact zA | with_reducible refine zI ?_ ?_ | exact zB | exact zC | exact zD | exact zE | rfl | exact zN rfl | omega | assumption | (simp; done) | (simp [splice]; done) | (simp; omega) | (unfold fits; omega) | (unfold fits; simp_all; omega) | (simp_all; omega) | (simp_all; done) | intro _ | exact zI ?_ ?_ | intro _))))))
  (refine H.ts (T := tt) [10] tt_ok (by kernel_rfl) (by kernel_rfl) (by kernel_rfl) (by intro ch a a' w h; obtain ⟨_, _, _, _, _, h, _⟩ := h; cases h) rfl ?sd134 ?_; (try (case sd134 => (repeat' ((first | first | exact trivial | exact zA | with_reducible refine zI ?_ ?_ | exact zB | exact zC | exact zD | exact zE | rfl | exact zN rfl | omega | assumption | (simp; done) | (simp [splice]; done) | (simp; omega) | (unfold fits; omega) | (unfold fits; simp_all; omega) | (simp_all; omega) | (simp_all; done) | intro _ | exact zI ?_ ?_ | intro _))))))
  refine H.tell 18 (.v (.int .i64 (((k + 1) % l.length : Nat) : Int))) rfl (Imp.of_eq (by rw [← ht])) ?_
  (refine H.ts (T := tt) [11, 12, 13] tt_ok (by kernel_rfl) (by kernel_rfl) (by kernel_rfl) (by intro ch a a' w h; obtain ⟨_, _, _, _, _, h, _⟩ := h; cases h) rfl ?sd135 ?_; (try (case sd135 => (repeat' ((first | first | exact trivial | exact zA | with_reducible refine zI ?_ ?_ | exact zB | exact zC | exact zD | exact zE | rfl | exact zN rfl | omega | assumption | (simp; done) | (simp [splice]; done) | (simp; omega) | (unfold fits; omega) | (unfold fits; simp_all; omega) | (simp_all; omega) | (simp_all; done) | intro _ | exact zI ?_ ?_ | intro _))))))
  refine H.callP 14 rfl (by kernel_rfl) (by kernel_rfl) rfl rfl rfl rfl rfl rfl rfl ⟨trivial, by (repeat' ((first | first | exact trivial | exact zA | with_reducible refine zI ?_ ?_ | exact zB | exact zC | exact zD | exact zE | rfl | exact zN rfl | omega | assumption | (simp; done) | (simp [splice]; done) | (simp; omega) | (unfold fits; omega) | (unfold fits; simp_all; omega) | (simp_all; omega) | (simp_all; done) | intro _ | exact zI ?_ ?_ | intro _)))⟩ rfl (by exact Imps.refl _) ((way_p (l.getD k default).at0 (l.getD ((k + 1) % l.length) default).at0)) ?_
  (refine H.ts (T := tt) [15, 16] tt_ok (by kernel_rfl) (by kernel_rfl) (by kernel_rfl) (by intro ch a a' w h; obtain ⟨_, _, _, _, _, h, _⟩ := h; cases h) rfl ?sd136 ?_; (try (case sd136 => (repeat' ((first | first | exact trivial | exact zA | with_reducible refine zI ?_ ?_ | exact zB | exact zC | exact zD | exact zE | rfl | exact zN rfl | omega | assumption | (simp; done) | (simp [splice]; done) | (simp; omega) | (unfold fits; omega) | (unfold fits; simp_all; omega) | (simp_all; omega) | (simp_all; done) | intro _ | exact zI ?_ ?_ | intro _))))))
  refine H.done (by kernel_rfl) ?_
  (((repeat refine S.seq ?_); refine S.ret ?_); refine E.retP (T := tt) tt_ok rfl rfl (by (repeat' ((first | first | exact trivial | exact zA | with_reducible refine zI ?_ ?_ | exact zB | exact zC | exact zD | exact zE | rfl | exact zN rfl | omega | assumption | (simp; done) | (simp [splice]; done) | (simp; omega) | (unfold fits; omega) | (unfold fits; simp_all; omega) | (simp_all; omega) | (simp_all; done) | intro _ | exact zI ?_ ?_ | intro _)))) (Imp.of_eq ?_))
  rw [widA, if_neg h1, u64_u32]
  rfl

def widthA (l : List Arc) (k : Int) : Int := if (!mayA l || decide (k < 0) || decide (k ≥ l.length)) = true then 0 else widA l k.toNat
theorem bigwidth_p (l : List Arc) (k : Int) : PFn Tryd.prog 18 [arcs l, .v (.int .i64 k)] (.v (.int .u64 (widthA l k))) := by
  refine FnC.intro Tryd.func18 rfl Tryd.ntmps18 rfl ?_; intro off w0
  ((repeat refine S.seq ?_); refine S.region (L.go (T := tt) tt_ok rfl rfl ?sd109 ?_); (try (case sd109 => (repeat' ((first | first | exact trivial | exact zA | with_reducible refine zI ?_ ?_ | exact zB | exact zC | exact zD | exact zE | rfl | exact zN rfl | omega | assumption | (simp; done) | (simp [splice]; done) | (simp; omega) | (unfold fits; omega) | (unfold fits; simp_all; omega) | (simp_all; omega) | (simp_all; done) | intro _ | exact zI ?_ ?_ | intro _))))); try (refine L.nil ?_))
  ((repeat refine S.seq ?_); refine S.region (L.go (T := tt) tt_ok rfl rfl ?sd110 ?_); (try (case sd110 => (repeat' ((first | first | exact trivial | exact zA | with_reducible refine zI ?_ ?_ | exact zB | exact zC | exact zD | exact zE | rfl | exact zN rfl | omega | assumption | (simp; done) | (simp [splice]; done) | (simp; omega) | (unfold fits; omega) | (unfold fits; simp_all; omega) | (simp_all; omega) | (simp_all; done) | intro _ | exact zI ?_ ?_ | intro _))))); try (refine L.nil ?_))
  refine L.callP rfl rfl rfl rfl rfl rfl rfl ⟨trivial, by (repeat' ((first | first | exact trivial | exact zA | with_reducible refine zI ?_ ?_ | exact zB | exact zC | exact zD | exact zE | rfl | exact zN rfl | omega | assumption | (simp; done) | (simp [splice]; done) | (simp; omega) | (unfold fits; omega) | (unfold fits; simp_all; omega) | (simp_all; omega) | (simp_all; done) | intro _ | exact zI ?_ ?_ | intro _)))⟩ rfl (Imps.refl _) (ringmay_p l) ?_
  (refine L.go (T := tt) tt_ok rfl rfl ?sd126 ?_; (try (case sd126 => (repeat' ((first | first | exact trivial | exact zA | with_reducible refine zI ?_ ?_ | exact zB | exact zC | exact zD | exact zE | rfl | exact zN rfl | omega | assumption | (simp; done) | (simp [splice]; done) | (simp; omega) | (unfold fits; omega) | (unfold fits; simp_all; omega) | (simp_all; omega) | (simp_all; done) | intro _ | exact zI ?_ ?_ | intro _))))); try (refine L.nil ?_))
  ((repeat refine S.seq ?_); refine S.cond rfl (fun h1 => ?_) (fun h1 => ?_) <;> (try first | refine S.skip ?_ | refine S.exit ?_))
  · ((repeat refine S.seq ?_); refine S.region (L.go (T := tt) tt_ok rfl rfl ?sd111 ?_); (try (case sd111 => (repeat' ((first | first | exact trivial | exact zA | with_reducible refine zI ?_ ?_ | exact zB | exact zC | exact zD | exact zE | rfl | exact zN rfl | omega | assumption | (simp; done) | (simp [splice]; done) | (simp; omega) | (unfold fits; omega) | (unfold fits; simp_all; omega) | (simp_all; omega) | (simp_all; done) | intro _ | exact zI ?_ ?_ | intro _))))); try (refine L.nil ?_))
    (((repeat refine S.seq ?_); refine S.ret ?_); refine E.retP (T := tt) tt_ok rfl rfl (by (repeat' ((first | first | exact trivial | exact zA | with_reducible refine zI ?_ ?_ | exact zB | exact zC | exact zD | exact zE | rfl | exact zN rfl | omega | assumption | (simp; done) | (simp [splice]; done) | (simp; omega) | (unfold fits; omega) | (unfold fits; simp_all; omega) | (simp_all; omega) | (simp_all; done) | intro _ | exact zI ?_ ?_ | intro _)))) (Imp.of_eq ?_))
    rw [widthA, if_pos h1]
    rfl
  have h2 : mayA l = true ∧ 0 ≤ k ∧ k < l.length := by
    simp only [Bool.or_eq_false_iff, decide_eq_false_iff_not, Bool.not_eq_false'] at h1
    exact ⟨h1.1.1, by omega, by omega⟩
  have hm := mayA_of h2.1
  obtain ⟨j, hj⟩ : ∃ j, j = k.toNat := ⟨_, rfl⟩
  have hjv : k = (j : Int) := by omega
  ((repeat refine S.seq ?_); refine S.region (L.go (T := tt) tt_ok rfl rfl ?sd112 ?_); (try (case sd112 => (repeat' ((first | first | exact trivial | exact zA | with_reducible refine zI ?_ ?_ | exact zB | exact zC | exact zD | exact zE | rfl | exact zN rfl | omega | assumption | (simp; done) | (simp [splice]; done) | (simp; omega) | (unfold fits; omega) | (unfold fits; simp_all; omega) | (simp_all; omega) | (simp_all; done) | intro _ | exact zI ?_ ?_ | intro _))))); try (refine L.nil ?_))
  refine slotAs 19 (.v (.int .i64 j)) rfl (Imp.of_eq (by rw [hjv])) ?_
  refine L.callP rfl rfl rfl rfl rfl rfl rfl ⟨trivial, by (repeat' ((first | first | exact trivial | exact zA | with_reducible refine zI ?_ ?_ | exact zB | exact zC | exact zD | exact zE | rfl | exact zN rfl | omega | assumption | (simp; done) | (simp [splice]; done) | (simp; omega) | (unfold fits; omega) | (unfold fits; simp_all; omega) | (simp_all; omega) | (simp_all; done) | intro _ | exact zI ?_ ?_ | intro _)))⟩ rfl (Imps.refl _) (width_p l j (by omega) hm.most) ?_
  (refine L.go (T := tt) tt_ok rfl rfl ?sd127 ?_; (try (case sd127 => (repeat' ((first | first | exact trivial | exact zA | with_reducible refine zI ?_ ?_ | exact zB | exact zC | exact zD | exact zE | rfl | exact zN rfl | omega | assumption | (simp; done) | (simp [splice]; done) | (simp; omega) | (unfold fits; omega) | (unfold fits; simp_all; omega) | (simp_all; omega) | (simp_all; done) | intro _ | exact zI ?_ ?_ | intro _))))); try (refine L.nil ?_))
  (((repeat refine S.seq ?_); refine S.ret ?_); refine E.retP (T := tt) tt_ok rfl rfl (by (repeat' ((first | first | exact trivial | exact zA | with_reducible refine zI ?_ ?_ | exact zB | exact zC | exact zD | exact zE | rfl | exact zN rfl | omega | assumption | (simp; done) | (simp [splice]; done) | (simp; omega) | (unfold fits; omega) | (unfold fits; simp_all; omega) | (simp_all; omega) | (simp_all; done) | intro _ | exact zI ?_ ?_ | intro _)))) (Imp.of_eq ?_))
  rw [widthA, if_neg (by rw [h1]; decide), hj]
  rfl

theorem widA_le (l : List Arc) (k : Nat) : 0 ≤ widA l k ∧ widA l k ≤ 4294967296 := by
  unfold widA
  split
  · decide
  · rw [way_eq]; omega
theorem shareTo_le (l : List Arc) (s : Int) : ∀ k : Nat, 0 ≤ shareTo l s k ∧ shareTo l s k ≤ 4294967296 * k
  | 0 => by simp [shareTo]
  | k + 1 => by
    have ih := shareTo_le l s k
    have hw := widA_le l k
    rw [shareTo]
    split <;> omega
theorem u64_id {z : Int} (h0 : 0 ≤ z) (h1 : z < 18446744073709551616) : IntKind.u64.wrap z = z := by
  have e : IntKind.u64.wrap z = z % 18446744073709551616 := rfl
  omega
theorem share_p (l : List Arc) (s : Int) : PFn Tryd.prog 19 [arcs l, .v (.int .i64 s)] (.v (.int .u64 (shareA l s))) := by
  refine FnC.intro Tryd.func19 rfl Tryd.ntmps19 rfl ?_; intro off w0
  ((repeat refine S.seq ?_); refine S.region (L.go (T := tt) tt_ok rfl rfl ?sd113 ?_); (try (case sd113 => (repeat' ((first | first | exact trivial | exact zA | with_reducible refine zI ?_ ?_ | exact zB | exact zC | exact zD | exact zE | rfl | exact zN rfl | omega | assumption | (simp; done) | (simp [splice]; done) | (simp; omega) | (unfold fits; omega) | (unfold fits; simp_all; omega) | (simp_all; omega) | (simp_all; done) | intro _ | exact zI ?_ ?_ | intro _))))); try (refine L.nil ?_))
  ((repeat refine S.seq ?_); refine S.region (L.go (T := tt) tt_ok rfl rfl ?sd114 ?_); (try (case sd114 => (repeat' ((first | first | exact trivial | exact zA | with_reducible refine zI ?_ ?_ | exact zB | exact zC | exact zD | exact zE | rfl | exact zN rfl | omega | assumption | (simp; done) | (simp [splice]; done) | (simp; omega) | (unfold fits; omega) | (unfold fits; simp_all; omega) | (simp_all; omega) | (simp_all; done) | intro _ | exact zI ?_ ?_ | intro _))))); try (refine L.nil ?_))
  refine L.callP rfl rfl rfl rfl rfl rfl rfl ⟨trivial, by (repeat' ((first | first | exact trivial | exact zA | with_reducible refine zI ?_ ?_ | exact zB | exact zC | exact zD | exact zE | rfl | exact zN rfl | omega | assumption | (simp; done) | (simp [splice]; done) | (simp; omega) | (unfold fits; omega) | (unfold fits; simp_all; omega) | (simp_all; omega) | (simp_all; done) | intro _ | exact zI ?_ ?_ | intro _)))⟩ rfl (Imps.refl _) (ringmay_p l) ?_
  (refine L.go (T := tt) tt_ok rfl rfl ?sd128 ?_; (try (case sd128 => (repeat' ((first | first | exact trivial | exact zA | with_reducible refine zI ?_ ?_ | exact zB | exact zC | exact zD | exact zE | rfl | exact zN rfl | omega | assumption | (simp; done) | (simp [splice]; done) | (simp; omega) | (unfold fits; omega) | (unfold fits; simp_all; omega) | (simp_all; omega) | (simp_all; done) | intro _ | exact zI ?_ ?_ | intro _))))); try (refine L.nil ?_))
  ((repeat refine S.seq ?_); refine S.cond rfl (fun h1 => ?_) (fun h1 => ?_) <;> (try first | refine S.skip ?_ | refine S.exit ?_))
  · ((repeat refine S.seq ?_); refine S.region (L.go (T := tt) tt_ok rfl rfl ?sd115 ?_); (try (case sd115 => (repeat' ((first | first | exact trivial | exact zA | with_reducible refine zI ?_ ?_ | exact zB | exact zC | exact zD | exact zE | rfl | exact zN rfl | omega | assumption | (simp; done) | (simp [splice]; done) | (simp; omega) | (unfold fits; omega) | (unfold fits; simp_all; omega) | (simp_all; omega) | (simp_all; done) | intro _ | exact zI ?_ ?_ | intro _))))); try (refine L.nil ?_))
    (((repeat refine S.seq ?_); refine S.ret ?_); refine E.retP (T := tt) tt_ok rfl rfl (by (repeat' ((first | first | exact trivial | exact zA | with_reducible refine zI ?_ ?_ | exact zB | exact zC | exact zD | exact zE | rfl | exact zN rfl | omega | assumption | (simp; done) | (simp [splice]; done) | (simp; omega) | (unfold fits; omega) | (unfold fits; simp_all; omega) | (simp_all; omega) | (simp_all; done) | intro _ | exact zI ?_ ?_ | intro _)))) (Imp.of_eq ?_))
    rw [shareA, if_neg (by simpa using h1)]
    rfl
  have h2 : mayA l = true := by simpa using h1
  have hm := mayA_of h2
  have hmost := hm.most
  rw [shareA, if_pos h2]
  ((repeat refine S.seq ?_); refine S.region (L.go (T := tt) tt_ok rfl rfl ?sd116 ?_); (try (case sd116 => (repeat' ((first | first | exact trivial | exact zA | with_reducible refine zI ?_ ?_ | exact zB | exact zC | exact zD | exact zE | rfl | exact zN rfl | omega | assumption | (simp; done) | (simp [splice]; done) | (simp; omega) | (unfold fits; omega) | (unfold fits; simp_all; omega) | (simp_all; omega) | (simp_all; done) | intro _ | exact zI ?_ ?_ | intro _))))); try (refine L.nil ?_))
  ((repeat refine S.seq ?_); refine S.region (L.go (T := tt) tt_ok rfl rfl ?sd117 ?_); (try (case sd117 => (repeat' ((first | first | exact trivial | exact zA | with_reducible refine zI ?_ ?_ | exact zB | exact zC | exact zD | exact zE | rfl | exact zN rfl | omega | assumption | (simp; done) | (simp [splice]; done) | (simp; omega) | (unfold fits; omega) | (unfold fits; simp_all; omega) | (simp_all; omega) | (simp_all; done) | intro _ | exact zI ?_ ?_ | intro _))))); try (refine L.nil ?_))
  repeat refine S.seq ?_
  refine S.block (S.loop (ι := { k : Nat // k ≤ l.length }) (fun k => [(0, arcs l), (1, .v (.int .i64 s)), (5, .v (.int .u64 (shareTo l s k.1))), (11, arcs l), (12, .v (.int .i64 l.length)), (13, .v (.int .i64 k.1))]) (fun _ => []) (fun k => l.length - k.1) ?_ ?_)
  · exact fun a w h => ⟨⟨0, Nat.zero_le _⟩, h.weakP (by (repeat' (first | exact True.intro | exact Imp.refl _ | refine ⟨?_, ?_⟩))) (by (repeat (first | exact Sub.refl _ | refine Sub.pick (by first | exact p0 | exact pS p0 | exact pS (pS p0) | exact pS (pS (pS p0)) | exact pS (pS (pS (pS p0))) | exact pS (pS (pS (pS (pS p0))))) ?_)))⟩
  rintro ⟨k, hk⟩
  dsimp only
  have hs := shareTo_le l s k
  have hw := widA_le l k
  ((repeat refine S.seq ?_); refine S.region (L.go (T := tt) tt_ok rfl rfl ?sd118 ?_); (try (case sd118 => (repeat' ((first | first | exact trivial | exact zA | with_reducible refine zI ?_ ?_ | exact zB | exact zC | exact zD | exact zE | rfl | exact zN rfl | omega | assumption | (simp; done) | (simp [splice]; done) | (simp; omega) | (unfold fits; omega) | (unfold fits; simp_all; omega) | (simp_all; omega) | (simp_all; done) | intro _ | exact zI ?_ ?_ | intro _))))); try (refine L.nil ?_))
  ((repeat refine S.seq ?_); refine S.cond rfl (fun hc => ?_) (fun hc => ?_) <;> (try first | refine S.skip ?_ | refine S.exit ?_))
  · have hk' : k < l.length := by have := of_dec hc; omega
    repeat refine S.seq ?_
    refine S.block ?_
    repeat refine S.seq ?_
    refine S.region ?_
    (refine L.go (T := tt) tt_ok rfl rfl ?sd129 ?_; (try (case sd129 => (repeat' ((first | first | exact trivial | exact zA | with_reducible refine zI ?_ ?_ | exact zB | exact zC | exact zD | exact zE | rfl | exact zN rfl | omega | assumption | (simp; done) | (simp [splice]; done) | (simp; omega) | (unfold fits; omega) | (unfold fits; simp_all; omega) | (simp_all; omega) | (simp_all; done) | intro _ | exact zI ?_ ?_ | intro _))))); try (refine L.nil ?_))
    refine L.alloc (T := tt) 7 tt_ok rfl rfl rfl rfl rfl fun b7 => ?_
    (refine L.go (T := tt) tt_ok rfl rfl ?sd130 ?_; (try (case sd130 => (repeat' ((first | first | exact trivial | exact zA | with_reducible refine zI ?_ ?_ | exact zB | exact zC | exact zD | exact zE | rfl | exact zN rfl | omega | assumption | (simp; done) | (simp [splice]; done) | (simp; omega) | (unfold fits; omega) | (unfold fits; simp_all; omega) | (simp_all; omega) | (simp_all; done) | intro _ | exact zI ?_ ?_ | intro _))))); try (refine L.nil ?_))
    (refine L.store (T := tt) tt_ok rfl rfl rfl rfl rfl rfl ?sd132 ?_; (try (case sd132 => (repeat' ((first | first | exact trivial | exact zA | with_reducible refine zI ?_ ?_ | exact zB | exact zC | exact zD | exact zE | rfl | exact zN rfl | omega | assumption | (simp; done) | (simp [splice]; done) | (simp; omega) | (unfold fits; omega) | (unfold fits; simp_all; omega) | (simp_all; omega) | (simp_all; done) | intro _ | exact zI ?_ ?_ | intro _))))))
    refine L.nil ?_
    ((repeat refine S.seq ?_); refine S.region (L.go (T := tt) tt_ok rfl rfl ?sd119 ?_); (try (case sd119 => (repeat' ((first | first | exact trivial | exact zA | with_reducible refine zI ?_ ?_ | exact zB | exact zC | exact zD | exact zE | rfl | exact zN rfl | omega | assumption | (simp; done) | (simp [splice]; done) | (simp; omega) | (unfold fits; omega) | (unfold fits; simp_all; omega) | (simp_all; omega) | (simp_all; done) | intro _ | exact zI ?_ ?_ | intro _))))); try (refine L.nil ?_))
    ((repeat refine S.seq ?_); refine S.cond rfl (fun h3 => ?_) (fun h3 => ?_) <;> (try first | refine S.skip ?_ | refine S.exit ?_))
    · have h3 : (l.getD k default).shard = s := eq_of_beq h3
      ((repeat refine S.seq ?_); refine S.region (L.go (T := tt) tt_ok rfl rfl ?sd120 ?_); (try (case sd120 => (repeat' ((first | first | exact trivial | exact zA | with_reducible refine zI ?_ ?_ | exact zB | exact zC | exact zD | exact zE | rfl | exact zN rfl | omega | assumption | (simp; done) | (simp [splice]; done) | (simp; omega) | (unfold fits; omega) | (unfold fits; simp_all; omega) | (simp_all; omega) | (simp_all; done) | intro _ | exact zI ?_ ?_ | intro _))))); try (refine L.nil ?_))
      refine L.callP rfl rfl rfl rfl rfl rfl rfl ⟨trivial, by (repeat' ((first | first | exact trivial | exact zA | with_reducible refine zI ?_ ?_ | exact zB | exact zC | exact zD | exact zE | rfl | exact zN rfl | omega | assumption | (simp; done) | (simp [splice]; done) | (simp; omega) | (unfold fits; omega) | (unfold fits; simp_all; omega) | (simp_all; omega) | (simp_all; done) | intro _ | exact zI ?_ ?_ | intro _)))⟩ rfl (Imps.refl _) (width_p l k hk' hmost) ?_
      (refine L.go (T := tt) tt_ok rfl rfl ?sd131 ?_; (try (case sd131 => (repeat' ((first | first | exact trivial | exact zA | with_reducible refine zI ?_ ?_ | exact zB | exact zC | exact zD | exact zE | rfl | exact zN rfl | omega | assumption | (simp; done) | (simp [splice]; done) | (simp; omega) | (unfold fits; omega) | (unfold fits; simp_all; omega) | (simp_all; omega) | (simp_all; done) | intro _ | exact zI ?_ ?_ | intro _))))); try (refine L.nil ?_))
      refine slotAs 5 (.v (.int .u64 (shareTo l s (k + 1)))) rfl (Imp.of_eq (by rw [shareTo, if_pos h3, u64_id (by omega) (by omega)])) ?_
      ((repeat refine S.seq ?_); refine S.region (L.go (T := tt) tt_ok rfl rfl ?sd121 ?_); (try (case sd121 => (repeat' ((first | first | exact trivial | exact zA | with_reducible refine zI ?_ ?_ | exact zB | exact zC | exact zD | exact zE | rfl | exact zN rfl | omega | assumption | (simp; done) | (simp [splice]; done) | (simp; omega) | (unfold fits; omega) | (unfold fits; simp_all; omega) | (simp_all; omega) | (simp_all; done) | intro _ | exact zI ?_ ?_ | intro _))))); try (refine L.nil ?_))
      exact fun a w hR => ⟨⟨k + 1, hk'⟩, by show l.length - (k + 1) < l.length - k; omega, hR.weakP (by (repeat' (first | exact True.intro | exact Imp.refl _ | refine ⟨?_, ?_⟩))) (by (repeat (first | exact Sub.refl _ | refine Sub.pick (by first | exact p0 | exact pS p0 | exact pS (pS p0) | exact pS (pS (pS p0)) | exact pS (pS (pS (pS p0))) | exact pS (pS (pS (pS (pS p0))))) ?_)))⟩
    have h3 : ¬ (l.getD k default).shard = s := beq_eq_false_iff_ne.1 h3
    refine slotAs 5 (.v (.int .u64 (shareTo l s (k + 1)))) rfl (Imp.of_eq (by rw [shareTo, if_neg h3, Int.add_zero])) ?_
    ((repeat refine S.seq ?_); refine S.region (L.go (T := tt) tt_ok rfl rfl ?sd122 ?_); (try (case sd122 => (repeat' ((first | first | exact trivial | exact zA | with_reducible refine zI ?_ ?_ | exact zB | exact zC | exact zD | exact zE | rfl | exact zN rfl | omega | assumption | (simp; done) | (simp [splice]; done) | (simp; omega) | (unfold fits; omega) | (unfold fits; simp_all; omega) | (simp_all; omega) | (simp_all; done) | intro _ | exact zI ?_ ?_ | intro _))))); try (refine L.nil ?_))
    exact fun a w hR => ⟨⟨k + 1, hk'⟩, by show l.length - (k + 1) < l.length - k; omega, hR.weakP (by (repeat' (first | exact True.intro | exact Imp.refl _ | refine ⟨?_, ?_⟩))) (by (repeat (first | exact Sub.refl _ | refine Sub.pick (by first | exact p0 | exact pS p0 | exact pS (pS p0) | exact pS (pS (pS p0)) | exact pS (pS (pS (pS p0))) | exact pS (pS (pS (pS (pS p0))))) ?_)))⟩
  have hk' : k = l.length := by have := of_dec' hc; omega
  subst hk'
  ((repeat refine S.seq ?_); refine S.region (L.go (T := tt) tt_ok rfl rfl ?sd123 ?_); (try (case sd123 => (repeat' ((first | first | exact trivial | exact zA | with_reducible refine zI ?_ ?_ | exact zB | exact zC | exact zD | exact zE | rfl | exact zN rfl | omega | assumption | (simp; done) | (simp [splice]; done) | (simp; omega) | (unfold fits; omega) | (unfold fits; simp_all; omega) | (simp_all; omega) | (simp_all; done) | intro _ | exact zI ?_ ?_ | intro _))))); try (refine L.nil ?_))
  (((repeat refine S.seq ?_); refine S.ret ?_); refine E.retP (T := tt) tt_ok rfl rfl (by (repeat' ((first | first | exact trivial | exact zA | with_reducible refine zI ?_ ?_ | exact zB | exact zC | exact zD | exact zE | rfl | exact zN rfl | omega | assumption | (simp; done) | (simp [splice]; done) | (simp; omega) | (unfold fits; omega) | (unfold fits; simp_all; omega) | (simp_all; omega) | (simp_all; done) | intro _ | exact zI ?_ ?_ | intro _)))) (Imp.of_eq ?_))
  rfl
theorem few_p (l : List Arc) : PFn Tryd.prog 16 [arcs l] (.v (.bool (decide ((l.length : Int) ≤ 60)))) := by
  refine FnC.intro Tryd.func16 rfl Tryd.ntmps16 rfl ?_; intro off w0
  ((repeat refine S.seq ?_); refine S.region (L.go (T := tt) tt_ok rfl rfl ?sd124 ?_); (try (case sd124 => (repeat' ((first | first | exact trivial | exact zA | with_reducible refine zI ?_ ?_ | exact zB | exact zC | exact zD | exact zE | rfl | exact zN rfl | omega | assumption | (simp; done) | (simp [splice]; done) | (simp; omega) | (unfold fits; omega) | (unfold fits; simp_all; omega) | (simp_all; omega) | (simp_all; done) | intro _ | exact zI ?_ ?_ | intro _))))); try (refine L.nil ?_))
  ((repeat refine S.seq ?_); refine S.region (L.go (T := tt) tt_ok rfl rfl ?sd125 ?_); (try (case sd125 => (repeat' ((first | first | exact trivial | exact zA | with_reducible refine zI ?_ ?_ | exact zB | exact zC | exact zD | exact zE | rfl | exact zN rfl | omega | assumption | (simp; done) | (simp [splice]; done) | (simp; omega) | (unfold fits; omega) | (unfold fits; simp_all; omega) | (simp_all; omega) | (simp_all; done) | intro _ | exact zI ?_ ?_ | intro _))))); try (refine L.nil ?_))
  (((repeat refine S.seq ?_); refine S.ret ?_); refine E.retP (T := tt) tt_ok rfl rfl (by (repeat' ((first | first | exact trivial | exact zA | with_reducible refine zI ?_ ?_ | exact zB | exact zC | exact zD | exact zE | rfl | exact zN rfl | omega | assumption | (simp; done) | (simp [splice]; done) | (simp; omega) | (unfold fits; omega) | (unfold fits; simp_all; omega) | (simp_all; omega) | (simp_all; done) | intro _ | exact zI ?_ ?_ | intro _)))) (Imp.of_eq ?_))
  rfl
end Go.Proofs.YtlgdjmmjconbfaaDoor

/- Widths, shares, sameness at the reference. -/
namespace Go.Proofs.YtlgdjmmjconbfaaDoor
set_option linter.unusedVariables false
set_option linter.unusedSimpArgs false
set_option maxHeartbeats 8000000
open Go.RowKit
set_option maxRecDepth 4000

theorem rwidth_p (l : List Arc) (k : Int) : PFn Tryd.prog 24 [arcs l, .v (.int .i64 k)] (.v (.int .u64 (widthA l k))) := by
  refine FnC.intro Tryd.func24 rfl Tryd.ntmps24 rfl ?_; intro off w0
  ((repeat refine S.seq ?_); refine S.region (L.go (T := tt) tt_ok rfl rfl ?sd137 ?_); (try (case sd137 => (repeat' ((first | first | exact trivial | exact zA | with_reducible refine zI ?_ ?_ | exact zB | exact zC | exact zD | exact zE | rfl | exact zN rfl | omega | assumption | (simp; done) | (simp [splice]; done) | (simp; omega) | (unfold fits; omega) | (unfold fits; simp_all; omega) | (simp_all; omega) | (simp_all; done) | intro _ | exact zI ?_ ?_ | intro _))))); try (refine L.nil ?_))
  ((repeat refine S.seq ?_); refine S.region (L.go (T := tt) tt_ok rfl rfl ?sd138 ?_); (try (case sd138 => (repeat' ((first | first | exact trivial | exact zA | with_reducible refine zI ?_ ?_ | exact zB | exact zC | exact zD | exact zE | rfl | exact zN rfl | omega | assumption | (simp; done) | (simp [splice]; done) | (simp; omega) | (unfold fits; omega) | (unfold fits; simp_all; omega) | (simp_all; omega) | (simp_all; done) | intro _ | exact zI ?_ ?_ | intro _))))); try (refine L.nil ?_))
  refine L.callP rfl rfl rfl rfl rfl rfl rfl ⟨trivial, by (repeat' ((first | first | exact trivial | exact zA | with_reducible refine zI ?_ ?_ | exact zB | exact zC | exact zD | exact zE | rfl | exact zN rfl | omega | assumption | (simp; done) | (simp [splice]; done) | (simp; omega) | (unfold fits; omega) | (unfold fits; simp_all; omega) | (simp_all; omega) | (simp_all; done) | intro _ | exact zI ?_ ?_ | intro _)))⟩ rfl (Imps.refl _) (rmayarcs_p l) ?_
  (refine L.go (T := tt) tt_ok rfl rfl ?sd151 ?_; (try (case sd151 => (repeat' ((first | first | exact trivial | exact zA | with_reducible refine zI ?_ ?_ | exact zB | exact zC | exact zD | exact zE | rfl | exact zN rfl | omega | assumption | (simp; done) | (simp [splice]; done) | (simp; omega) | (unfold fits; omega) | (unfold fits; simp_all; omega) | (simp_all; omega) | (simp_all; done) | intro _ | exact zI ?_ ?_ | intro _))))); try (refine L.nil ?_))
  ((repeat refine S.seq ?_); refine S.cond rfl (fun h1 => ?_) (fun h1 => ?_) <;> (try first | refine S.skip ?_ | refine S.exit ?_))
  · ((repeat refine S.seq ?_); refine S.region (L.go (T := tt) tt_ok rfl rfl ?sd139 ?_); (try (case sd139 => (repeat' ((first | first | exact trivial | exact zA | with_reducible refine zI ?_ ?_ | exact zB | exact zC | exact zD | exact zE | rfl | exact zN rfl | omega | assumption | (simp; done) | (simp [splice]; done) | (simp; omega) | (unfold fits; omega) | (unfold fits; simp_all; omega) | (simp_all; omega) | (simp_all; done) | intro _ | exact zI ?_ ?_ | intro _))))); try (refine L.nil ?_))
    (((repeat refine S.seq ?_); refine S.ret ?_); refine E.retP (T := tt) tt_ok rfl rfl (by (repeat' ((first | first | exact trivial | exact zA | with_reducible refine zI ?_ ?_ | exact zB | exact zC | exact zD | exact zE | rfl | exact zN rfl | omega | assumption | (simp; done) | (simp [splice]; done) | (simp; omega) | (unfold fits; omega) | (unfold fits; simp_all; omega) | (simp_all; omega) | (simp_all; done) | intro _ | exact zI ?_ ?_ | intro _)))) (Imp.of_eq ?_))
    rw [widthA, if_pos h1]
    rfl
  have h2 : mayA l = true ∧ 0 ≤ k ∧ k < l.length := by
    simp only [Bool.or_eq_false_iff, decide_eq_false_iff_not, Bool.not_eq_false'] at h1
    exact ⟨h1.1.1, by omega, by omega⟩
  have hm := mayA_of h2.1
  have hmost := hm.most
  obtain ⟨j, hj⟩ : ∃ j, j = k.toNat := ⟨_, rfl⟩
  have hjv : k = (j : Int) := by omega
  rw [widthA, if_neg (by rw [h1]; decide), ← hj]
  have hk : j < l.length := by omega
  clear h1 h2
  subst hjv
  have hmod : (j + 1) % l.length < l.length := Nat.mod_lt _ (by omega)
  have ht := tmod_nat j l.length
  ((repeat refine S.seq ?_); refine S.region (L.go (T := tt) tt_ok rfl rfl ?sd140 ?_); (try (case sd140 => (repeat' ((first | first | exact trivial | exact zA | with_reducible refine zI ?_ ?_ | exact zB | exact zC | exact zD | exact zE | rfl | exact zN rfl | omega | assumption | (simp; done) | (simp [splice]; done) | (simp; omega) | (unfold fits; omega) | (unfold fits; simp_all; omega) | (simp_all; omega) | (simp_all; done) | intro _ | exact zI ?_ ?_ | intro _))))); try (refine L.nil ?_))
  ((repeat refine S.seq ?_); refine S.cond rfl (fun h1 => ?_) (fun h1 => ?_) <;> (try first | refine S.skip ?_ | refine S.exit ?_))
  · have h1 : l.length = 1 := by have := eq_of_beq h1; omega
    ((repeat refine S.seq ?_); refine S.region (L.go (T := tt) tt_ok rfl rfl ?sd141 ?_); (try (case sd141 => (repeat' ((first | first | exact trivial | exact zA | with_reducible refine zI ?_ ?_ | exact zB | exact zC | exact zD | exact zE | rfl | exact zN rfl | omega | assumption | (simp; done) | (simp [splice]; done) | (simp; omega) | (unfold fits; omega) | (unfold fits; simp_all; omega) | (simp_all; omega) | (simp_all; done) | intro _ | exact zI ?_ ?_ | intro _))))); try (refine L.nil ?_))
    (((repeat refine S.seq ?_); refine S.ret ?_); refine E.retP (T := tt) tt_ok rfl rfl (by (repeat' ((first | first | exact trivial | exact zA | with_reducible refine zI ?_ ?_ | exact zB | exact zC | exact zD | exact zE | rfl | exact zN rfl | omega | assumption | (simp; done) | (simp [splice]; done) | (simp; omega) | (unfold fits; omega) | (unfold fits; simp_all; omega) | (simp_all; omega) | (simp_all; done) | intro _ | exact zI ?_ ?_ | intro _)))) (Imp.of_eq ?_))
    rw [widA, if_pos h1]
    rfl
  have h1 : ¬ l.length = 1 := by have := beq_eq_false_iff_ne.1 h1; omega
  repeat refine S.seq ?_
  refine S.draw [] mixed ?_
  (refine H.ts (T := tt) [0, 1, 2, 3, 4] tt_ok (by kernel_rfl) (by kernel_rfl) (by kernel_rfl) (by intro ch a a' w h; obtain ⟨_, _, _, _, _, h, _⟩ := h; cases h) rfl ?sd154 ?_; (try (case sd154 => (repeat' ((first | first | exact trivial | exact zA | with_reducible refine zI ?_ ?_ | exact zB | exact zC | exact zD | exact zE | rfl | exact zN rfl | omega | assumption | (simp; done) | (simp [splice]; done) | (simp; omega) | (unfold fits; omega) | (unfold fits; simp_all; omega) | (simp_all; omega) | (simp_all; done) | intro _ | exact zI ?_ ?_ | intro _))))))
  (refine H.ts (T := tt) [5] tt_ok (by kernel_rfl) (by kernel_rfl) (by kernel_rfl) (by intro ch a a' w h; obtain ⟨_, _, _, _, _, h, _⟩ := h; cases h) rfl ?sd155 ?_; (try (case sd155 => (repeat' ((first | first | exact trivial | exact zA | with_reducible refine zI ?_ ?_ | exact zB | exact zC | exact zD | exact zE | rfl | exact zN rfl | omega | assumption | (simp; done) | (simp [splice]; done) | (simp; omega) | (unfold fits; omega) | (unfold fits; simp_all; omega) | (simp_all; omega) | (simp_all; done) | intro _ | exact zI ?_ ?_ | intro _))))))
  refine H.tell 26 (.v (.int .i64 (((j + 1) % l.length : Nat) : Int))) rfl (Imp.of_eq (by rw [← ht])) ?_
  (refine H.ts (T := tt) [6, 7, 8, 9, 10, 11, 12, 13, 14, 15, 16] tt_ok (by kernel_rfl) (by kernel_rfl) (by kernel_rfl) (by intro ch a a' w h; obtain ⟨_, _, _, _, _, h, _⟩ := h; cases h) rfl ?sd156 ?_; (try (case sd156 => (repeat' ((first | first | exact trivial | exact zA | with_reducible refine zI ?_ ?_ | exact zB | exact zC | exact zD | exact zE | rfl | exact zN rfl | omega | assumption | (simp; done) | (simp [splice]; done) | (simp; omega) | (unfold fits; omega) | (unfold fits; simp_all; omega) | (simp_all; omega) | (simp_all; done) | intro _ | exact zI ?_ ?_ | intro _))))))
  refine H.done (by kernel_rfl) ?_
  (((repeat refine S.seq ?_); refine S.ret ?_); refine E.retP (T := tt) tt_ok rfl rfl (by (repeat' ((first | first | exact trivial | exact zA | with_reducible refine zI ?_ ?_ | exact zB | exact zC | exact zD | exact zE | rfl | exact zN rfl | omega | assumption | (simp; done) | (simp [splice]; done) | (simp; omega) | (unfold fits; omega) | (unfold fits; simp_all; omega) | (simp_all; omega) | (simp_all; done) | intro _ | exact zI ?_ ?_ | intro _)))) (Imp.of_eq ?_))
  rw [widA, if_neg h1]
  exact congrArg (fun z => AV.v (.int .u64 z)) (u64_u32 _ _)

theorem rshare_p (l : List Arc) (s : Int) : PFn Tryd.prog 25 [arcs l, .v (.int .i64 s)] (.v (.int .u64 (shareA l s))) := by
  refine FnC.intro Tryd.func25 rfl Tryd.ntmps25 rfl ?_; intro off w0
  refine lenAt (sz := 2) (n := l.length) (g := gOf Arc.cells l) 0 rfl fun hn => ?_
  ((repeat refine S.seq ?_); refine S.region (L.go (T := tt) tt_ok rfl rfl ?sd142 ?_); (try (case sd142 => (repeat' ((first | first | exact trivial | exact zA | with_reducible refine zI ?_ ?_ | exact zB | exact zC | exact zD | exact zE | rfl | exact zN rfl | omega | assumption | (simp; done) | (simp [splice]; done) | (simp; omega) | (unfold fits; omega) | (unfold fits; simp_all; omega) | (simp_all; omega) | (simp_all; done) | intro _ | exact zI ?_ ?_ | intro _))))); try (refine L.nil ?_))
  ((repeat refine S.seq ?_); refine S.region (L.go (T := tt) tt_ok rfl rfl ?sd143 ?_); (try (case sd143 => (repeat' ((first | first | exact trivial | exact zA | with_reducible refine zI ?_ ?_ | exact zB | exact zC | exact zD | exact zE | rfl | exact zN rfl | omega | assumption | (simp; done) | (simp [splice]; done) | (simp; omega) | (unfold fits; omega) | (unfold fits; simp_all; omega) | (simp_all; omega) | (simp_all; done) | intro _ | exact zI ?_ ?_ | intro _))))); try (refine L.nil ?_))
  ((repeat refine S.seq ?_); refine S.region (L.go (T := tt) tt_ok rfl rfl ?sd144 ?_); (try (case sd144 => (repeat' ((first | first | exact trivial | exact zA | with_reducible refine zI ?_ ?_ | exact zB | exact zC | exact zD | exact zE | rfl | exact zN rfl | omega | assumption | (simp; done) | (simp [splice]; done) | (simp; omega) | (unfold fits; omega) | (unfold fits; simp_all; omega) | (simp_all; omega) | (simp_all; done) | intro _ | exact zI ?_ ?_ | intro _))))); try (refine L.nil ?_))
  repeat refine S.seq ?_
  refine S.block (S.loop (ι := { k : Nat // k ≤ l.length ∧ (1 ≤ k → mayA l = true) }) (fun k => [(0, arcs l), (1, .v (.int .i64 s)), (5, .v (.int .u64 (shareTo l s k.1))), (6, .v (.int .i64 k.1))]) (fun _ => []) (fun k => l.length - k.1) ?_ ?_)
  · exact fun a w h => ⟨⟨0, Nat.zero_le _, fun h => absurd h (by decide)⟩, h.weakP (by (repeat' (first | exact True.intro | exact Imp.refl _ | refine ⟨?_, ?_⟩))) (by (repeat (first | exact Sub.refl _ | refine Sub.pick (by first | exact p0 | exact pS p0 | exact pS (pS p0) | exact pS (pS (pS p0)) | exact pS (pS (pS (pS p0))) | exact pS (pS (pS (pS (pS p0))))) ?_)))⟩
  rintro ⟨k, hk, hkm⟩
  dsimp only
  have hs := shareTo_le l s k
  have hw := widA_le l k
  ((repeat refine S.seq ?_); refine S.region (L.go (T := tt) tt_ok rfl rfl ?sd145 ?_); (try (case sd145 => (repeat' ((first | first | exact trivial | exact zA | with_reducible refine zI ?_ ?_ | exact zB | exact zC | exact zD | exact zE | rfl | exact zN rfl | omega | assumption | (simp; done) | (simp [splice]; done) | (simp; omega) | (unfold fits; omega) | (unfold fits; simp_all; omega) | (simp_all; omega) | (simp_all; done) | intro _ | exact zI ?_ ?_ | intro _))))); try (refine L.nil ?_))
  refine L.callG rfl rfl rfl rfl rfl rfl rfl (fun hb => ⟨trivial, hb, trivial⟩) rfl (by exact Imps.refl [arcs l]) (fun _ => rmayarcs_p l) ?_
  (refine L.go (T := tt) tt_ok rfl rfl ?sd152 ?_; (try (case sd152 => (repeat' ((first | first | exact trivial | exact zA | with_reducible refine zI ?_ ?_ | exact zB | exact zC | exact zD | exact zE | rfl | exact zN rfl | omega | assumption | (simp; done) | (simp [splice]; done) | (simp; omega) | (unfold fits; omega) | (unfold fits; simp_all; omega) | (simp_all; omega) | (simp_all; done) | intro _ | exact zI ?_ ?_ | intro _))))); try (refine L.nil ?_))
  ((repeat refine S.seq ?_); refine S.cond rfl (fun hc => ?_) (fun hc => ?_) <;> (try first | refine S.skip ?_ | refine S.exit ?_))
  · have hc' : k < l.length ∧ mayA l = true := by
      simp only [Bool.and_eq_true, decide_eq_true_eq] at hc
      exact ⟨by omega, hc.2⟩
    have hm := mayA_of hc'.2
    have hmost := hm.most
    have hwk : widthA l k = widA l k := by
      rw [widthA, if_neg (by
        rw [hc'.2, decide_eq_false (show ¬ (k : Int) < 0 by omega), decide_eq_false (show ¬ (k : Int) ≥ l.length by omega)]
        decide)]
      rfl
    repeat refine S.seq ?_
    refine S.block ?_
    ((repeat refine S.seq ?_); refine S.region (L.go (T := tt) tt_ok rfl rfl ?sd146 ?_); (try (case sd146 => (repeat' ((first | first | exact trivial | exact zA | with_reducible refine zI ?_ ?_ | exact zB | exact zC | exact zD | exact zE | rfl | exact zN rfl | omega | assumption | (simp; done) | (simp [splice]; done) | (simp; omega) | (unfold fits; omega) | (unfold fits; simp_all; omega) | (simp_all; omega) | (simp_all; done) | intro _ | exact zI ?_ ?_ | intro _))))); try (refine L.nil ?_))
    ((repeat refine S.seq ?_); refine S.cond rfl (fun h3 => ?_) (fun h3 => ?_) <;> (try first | refine S.skip ?_ | refine S.exit ?_))
    · have h3 : (l.getD k default).shard = s := eq_of_beq h3
      ((repeat refine S.seq ?_); refine S.region (L.go (T := tt) tt_ok rfl rfl ?sd147 ?_); (try (case sd147 => (repeat' ((first | first | exact trivial | exact zA | with_reducible refine zI ?_ ?_ | exact zB | exact zC | exact zD | exact zE | rfl | exact zN rfl | omega | assumption | (simp; done) | (simp [splice]; done) | (simp; omega) | (unfold fits; omega) | (unfold fits; simp_all; omega) | (simp_all; omega) | (simp_all; done) | intro _ | exact zI ?_ ?_ | intro _))))); try (refine L.nil ?_))
      refine L.callP rfl rfl rfl rfl rfl rfl rfl ⟨trivial, by (repeat' ((first | first | exact trivial | exact zA | with_reducible refine zI ?_ ?_ | exact zB | exact zC | exact zD | exact zE | rfl | exact zN rfl | omega | assumption | (simp; done) | (simp [splice]; done) | (simp; omega) | (unfold fits; omega) | (unfold fits; simp_all; omega) | (simp_all; omega) | (simp_all; done) | intro _ | exact zI ?_ ?_ | intro _)))⟩ rfl (Imps.refl _) (rwidth_p l k) ?_
      rw [hwk]
      (refine L.go (T := tt) tt_ok rfl rfl ?sd153 ?_; (try (case sd153 => (repeat' ((first | first | exact trivial | exact zA | with_reducible refine zI ?_ ?_ | exact zB | exact zC | exact zD | exact zE | rfl | exact zN rfl | omega | assumption | (simp; done) | (simp [splice]; done) | (simp; omega) | (unfold fits; omega) | (unfold fits; simp_all; omega) | (simp_all; omega) | (simp_all; done) | intro _ | exact zI ?_ ?_ | intro _))))); try (refine L.nil ?_))
      refine slotAs 5 (.v (.int .u64 (shareTo l s (k + 1)))) rfl (Imp.of_eq (by rw [shareTo, if_pos h3, u64_id (by omega) (by omega)])) ?_
      ((repeat refine S.seq ?_); refine S.region (L.go (T := tt) tt_ok rfl rfl ?sd148 ?_); (try (case sd148 => (repeat' ((first | first | exact trivial | exact zA | with_reducible refine zI ?_ ?_ | exact zB | exact zC | exact zD | exact zE | rfl | exact zN rfl | omega | assumption | (simp; done) | (simp [splice]; done) | (simp; omega) | (unfold fits; omega) | (unfold fits; simp_all; omega) | (simp_all; omega) | (simp_all; done) | intro _ | exact zI ?_ ?_ | intro _))))); try (refine L.nil ?_))
      exact fun a w hR => ⟨⟨k + 1, hc'.1, fun _ => hc'.2⟩, by show l.length - (k + 1) < l.length - k; omega, hR.weakP (by (repeat' (first | exact True.intro | exact Imp.refl _ | refine ⟨?_, ?_⟩))) (by (repeat (first | exact Sub.refl _ | refine Sub.pick (by first | exact p0 | exact pS p0 | exact pS (pS p0) | exact pS (pS (pS p0)) | exact pS (pS (pS (pS p0))) | exact pS (pS (pS (pS (pS p0))))) ?_)))⟩
    have h3 : ¬ (l.getD k default).shard = s := beq_eq_false_iff_ne.1 h3
    refine slotAs 5 (.v (.int .u64 (shareTo l s (k + 1)))) rfl (Imp.of_eq (by rw [shareTo, if_neg h3, Int.add_zero])) ?_
    ((repeat refine S.seq ?_); refine S.region (L.go (T := tt) tt_ok rfl rfl ?sd149 ?_); (try (case sd149 => (repeat' ((first | first | exact trivial | exact zA | with_reducible refine zI ?_ ?_ | exact zB | exact zC | exact zD | exact zE | rfl | exact zN rfl | omega | assumption | (simp; done) | (simp [splice]; done) | (simp; omega) | (unfold fits; omega) | (unfold fits; simp_all; omega) | (simp_all; omega) | (simp_all; done) | intro _ | exact zI ?_ ?_ | intro _))))); try (refine L.nil ?_))
    exact fun a w hR => ⟨⟨k + 1, hc'.1, fun _ => hc'.2⟩, by show l.length - (k + 1) < l.length - k; omega, hR.weakP (by (repeat' (first | exact True.intro | exact Imp.refl _ | refine ⟨?_, ?_⟩))) (by (repeat (first | exact Sub.refl _ | refine Sub.pick (by first | exact p0 | exact pS p0 | exact pS (pS p0) | exact pS (pS (pS p0)) | exact pS (pS (pS (pS p0))) | exact pS (pS (pS (pS (pS p0))))) ?_)))⟩
  have e : shareA l s = shareTo l s k := by
    by_cases hm : mayA l = true
    · have : k = l.length := by
        rw [hm, Bool.and_true] at hc
        have := of_dec' hc
        omega
      rw [shareA, if_pos hm, this]
    · have : k = 0 := by
        rcases Nat.eq_zero_or_pos k with h | h
        · exact h
        · exact absurd (hkm h) hm
      rw [shareA, if_neg hm, this]
      rfl
  rw [e]
  ((repeat refine S.seq ?_); refine S.region (L.go (T := tt) tt_ok rfl rfl ?sd150 ?_); (try (case sd150 => (repeat' ((first | first | exact trivial | exact zA | with_reducible refine zI ?_ ?_ | exact zB | exact zC | exact zD | exact zE | rfl | exact zN rfl | omega | assumption | (simp; done) | (simp [splice]; done) | (simp; omega) | (unfold fits; omega) | (unfold fits; simp_all; omega) | (simp_all; omega) | (simp_all; done) | intro _ | exact zI ?_ ?_ | intro _))))); try (refine L.nil ?_))
  (((repeat refine S.seq ?_); refine S.ret ?_); refine E.retP (T := tt) tt_ok rfl rfl (by (repeat' ((first | first | exact trivial | exact zA | with_reducible refine zI ?_ ?_ | exact zB | exact zC | exact zD | exact zE | rfl | exact zN rfl | omega | assumption | (simp; done) | (simp [splice]; done) | (simp; omega) | (unfold fits; omega) | (unfold fits; simp_all; omega) | (simp_all; omega) | (simp_all; done) | intro _ | exact zI ?_ ?_ | intro _)))) (Imp.of_eq ?_))
  rfl
end Go.Proofs.YtlgdjmmjconbfaaDoor
