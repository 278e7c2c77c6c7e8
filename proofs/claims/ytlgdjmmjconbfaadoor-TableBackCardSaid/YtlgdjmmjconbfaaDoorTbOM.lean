/- TableBack: a table comes back from its bytes; cut off, or with a byte behind, it does not. -/
import Derived.Test.YtlgdjmmjconbfaaDoorMeI
namespace Go.Proofs.YtlgdjmmjconbfaaDoor
set_option linter.unusedVariables false
set_option linter.unusedSimpArgs false
set_option maxHeartbeats 8000000
open Go.RowKit
set_option maxRecDepth 4000

theorem fewT_p (t : Tab) : PFn Tryd.prog 32 [t.av] (.v (.bool (decide ((t.ar.length : Int) ≤ 60) && decide ((t.no.length : Int) ≤ 20)))) := by
  unfold Tab.av
  refine FnC.intro Tryd.func32 rfl Tryd.ntmps32 rfl ?_; intro off w0
  repeat refine S.seq ?_
  refine S.region ?_
  refine L.box 1 rfl rfl rfl rfl rfl trivial rfl fun b1 => ?_
  (refine L.go (T := tt) tt_ok rfl rfl ?sd1 ?_; (try (case sd1 => (repeat' ((first | first | exact trivial | exact zA | with_reducible refine zI ?_ ?_ | exact zB | exact zC | exact zD | exact zE | rfl | exact zN rfl | omega | assumption | (simp; done) | (simp [splice]; done) | (simp; omega) | (unfold fits; omega) | (unfold fits; simp_all; omega) | (simp_all; omega) | (simp_all; done) | intro _ | exact zI ?_ ?_ | intro _))))); try (refine L.nil ?_))
  unfold Tab.cells
  repeat refine S.seq ?_
  refine S.region ?_
  (refine L.go (T := tt) tt_ok rfl rfl ?sd2 ?_; (try (case sd2 => (repeat' ((first | first | exact trivial | exact zA | with_reducible refine zI ?_ ?_ | exact zB | exact zC | exact zD | exact zE | rfl | exact zN rfl | omega | assumption | (simp; done) | (simp [splice]; done) | (simp; omega) | (unfold fits; omega) | (unfold fits; simp_all; omega) | (simp_all; omega) | (simp_all; done) | intro _ | exact zI ?_ ?_ | intro _))))); try (refine L.nil ?_))
  refine L.callP rfl rfl rfl rfl rfl rfl rfl ⟨trivial, by (repeat' ((first | first | exact trivial | exact zA | with_reducible refine zI ?_ ?_ | exact zB | exact zC | exact zD | exact zE | rfl | exact zN rfl | omega | assumption | (simp; done) | (simp [splice]; done) | (simp; omega) | (unfold fits; omega) | (unfold fits; simp_all; omega) | (simp_all; omega) | (simp_all; done) | intro _ | exact zI ?_ ?_ | intro _)))⟩ rfl (Imps.refl _) (few_p t.ar) ?_
  (refine L.go (T := tt) tt_ok rfl rfl ?sd3 ?_; (try (case sd3 => (repeat' ((first | first | exact trivial | exact zA | with_reducible refine zI ?_ ?_ | exact zB | exact zC | exact zD | exact zE | rfl | exact zN rfl | omega | assumption | (simp; done) | (simp [splice]; done) | (simp; omega) | (unfold fits; omega) | (unfold fits; simp_all; omega) | (simp_all; omega) | (simp_all; done) | intro _ | exact zI ?_ ?_ | intro _))))); try (refine L.nil ?_))
  (((repeat refine S.seq ?_); refine S.ret ?_); refine E.retP (T := tt) tt_ok rfl rfl (by (repeat' ((first | first | exact trivial | exact zA | with_reducible refine zI ?_ ?_ | exact zB | exact zC | exact zD | exact zE | rfl | exact zN rfl | omega | assumption | (simp; done) | (simp [splice]; done) | (simp; omega) | (unfold fits; omega) | (unfold fits; simp_all; omega) | (simp_all; omega) | (simp_all; done) | intro _ | exact zI ?_ ?_ | intro _)))) (Imp.of_eq ?_))
  rfl
theorem getF_cases (b : List UInt8) : (∃ t : Tab, mayT t = true ∧ in32 t ∧ putL t = b ∧ getF b = (t, 0)) ∨ (getF b = (⟨0, [], []⟩, 2) ∧ ∀ t : Tab, mayT t = true → in32 t → putL t ≠ b) := by
  by_cases h : ∃ t : Tab, mayT t = true ∧ in32 t ∧ putL t = b
  · obtain ⟨t, h1, h2, h3⟩ := h
    exact .inl ⟨t, h1, h2, h3, getF_ok h1 h2 h3⟩
  · have h' : ∀ t : Tab, mayT t = true → in32 t → putL t ≠ b := fun t h1 h2 h3 => h ⟨t, h1, h2, h3⟩
    exact .inr ⟨getF_err h', h'⟩
def xor8 (p c : Int) : Int := IntKind.u8.wrap ((BitVec.ofInt IntKind.u8.bits p ^^^ BitVec.ofInt IntKind.u8.bits c).toNat : Int)
theorem xor8_in (p c : Int) : 0 ≤ xor8 p c ∧ xor8 p c < 256 := by
  have e : ∀ z, IntKind.u8.wrap z = z % 256 := fun _ => rfl
  rw [xor8, e]
  omega
theorem bv8 {n : Nat} (h : n < 256) : (BitVec.ofInt 8 (n : Int)).toNat = n := by
  rw [BitVec.toNat_ofInt]
  omega
theorem xor8_self {p c : Nat} (hp : p < 256) (hc : c < 256) : xor8 p c = p ↔ c = 0 := by
  have e : ∀ z, IntKind.u8.wrap z = z % 256 := fun _ => rfl
  have h1 : xor8 p c = ((p ^^^ c : Nat) : Int) := by
    rw [xor8, e]
    show (((BitVec.ofInt 8 (p : Int)) ^^^ (BitVec.ofInt 8 (c : Int))).toNat : Int) % 256 = _
    rw [BitVec.toNat_xor, bv8 hp, bv8 hc]
    have : p ^^^ c < 2 ^ 8 := Nat.xor_lt_two_pow hp hc
    omega
  rw [h1]
  constructor
  · intro h
    have h2 : p ^^^ c = p := by omega
    have h3 := congrArg (fun z => p ^^^ z) h2
    simp only [← Nat.xor_assoc, Nat.xor_self, Nat.zero_xor] at h3
    exact h3
  · intro h
    rw [h, Nat.xor_zero]
/-- The law of what comes back. -/
structure Back (t : Tab) (k : Nat) (c : Int) (X : List UInt8) : Prop where
  cut : getF ((putL t).take k) = (⟨0, [], []⟩, 2)
  more : ∀ d : UInt8, getF (putL t ++ [d]) = (⟨0, [], []⟩, 2)
  flip : (getF X).2 ≠ 0 → (getF X).2 = 2 ∧ c ≠ 0
  same : (getF X).2 = 0 → sameT (getF X).1 t = decide (c = 0) ∧ mayA (getF X).1.ar = true
theorem mayT_ar {t : Tab} (h : mayT t = true) : mayA t.ar = true := mayA_to (mayT_of h).ar
theorem back_law {t : Tab} (hm : mayT t = true) (hr : in32 t) {k : Nat} (hk : k < (putL t).length) {c : Int} (c0 : 0 ≤ c) (c1 : c < 256) :
    Back t k c ((putL t).set k (by8 (xor8 ((((putL t).getD k default).toNat : Nat) : Int) c))) := by
  have m := mayT_of hm
  have hX : (putL t).set k (by8 (xor8 ((((putL t).getD k default).toNat : Nat) : Int) c)) = putL t ↔ c = 0 := by
    have hp := ((putL t).getD k default).toNat_lt
    have hx := xor8_in ((((putL t).getD k default).toNat : Nat) : Int) c
    have hs := xor8_self (p := ((putL t).getD k default).toNat) (c := c.toNat) hp (by omega)
    rw [show ((c.toNat : Nat) : Int) = c by omega] at hs
    have hby := by8_nat (xor8 ((((putL t).getD k default).toNat : Nat) : Int) c)
    constructor
    · intro h
      have h2 := congrArg (fun l => l.getD k default) h
      simp only [List.getD_eq_getElem?_getD, List.getElem?_set_self hk, Option.getD_some] at h2
      rw [← List.getD_eq_getElem?_getD] at h2
      rw [h2] at hby
      have := hs.1 (by rw [Int.emod_eq_of_lt hx.1 hx.2] at hby; exact hby.symm)
      omega
    · intro h
      have h1 := hs.2 (by omega)
      rw [h1] at hby ⊢
      have e : by8 ((((putL t).getD k default).toNat : Nat) : Int) = (putL t).getD k default := by
        rw [h1] at hx
        apply UInt8.toNat_inj.1
        have := by8_nat ((((putL t).getD k default).toNat : Nat) : Int)
        omega
      rw [e, getD_get hk]
      exact List.set_getElem_self hk
  refine ⟨getF_err fun u hu ru h => ?_, fun d => getF_err fun u hu ru h => ?_, fun h => ?_, fun h => ?_⟩
  · have h2 : putL u ++ (putL t).drop k = putL t ++ [] := by rw [h, List.take_append_drop, List.append_nil]
    have := (put_pre (mayT_of hu) m ru hr h2).2
    have h3 := congrArg List.length this
    rw [List.length_drop, List.length_nil] at h3
    omega
  · have h2 : putL u ++ [] = putL t ++ [d] := by rw [h, List.append_nil]
    have := (put_pre (mayT_of hu) m ru hr h2).2
    cases this
  · generalize hXX : (putL t).set k (by8 (xor8 ((((putL t).getD k default).toNat : Nat) : Int) c)) = X at *
    rcases getF_cases X with ⟨v, h1, h2, h3, h4⟩ | ⟨h1, h2⟩
    · rw [h4] at h; exact absurd rfl h
    · rw [h1]
      refine ⟨rfl, fun hc => ?_⟩
      exact h2 t hm hr (hX.2 hc).symm
  · generalize hXX : (putL t).set k (by8 (xor8 ((((putL t).getD k default).toNat : Nat) : Int) c)) = X at *
    rcases getF_cases X with ⟨v, h1, h2, h3, h4⟩ | ⟨h1, h2⟩
    · rw [h4]
      refine ⟨?_, mayT_ar h1⟩
      by_cases hc : c = 0
      · have h5 := hX.2 hc
        have : v = t := (put_pre (x := []) (y := []) (mayT_of h1) m h2 hr (by rw [List.append_nil, List.append_nil, h3, h5])).1
        show sameT v t = _
        rw [this, sameT_self, decide_eq_true hc]
      · show sameT v t = _
        rw [decide_eq_false hc]
        cases hs : sameT v t
        · rfl
        · have := sameT_eq hs
          rw [this] at h3
          exact absurd (hX.1 h3.symm) hc
    · rw [h1] at h; exact absurd h (by decide)
end Go.Proofs.YtlgdjmmjconbfaaDoor
