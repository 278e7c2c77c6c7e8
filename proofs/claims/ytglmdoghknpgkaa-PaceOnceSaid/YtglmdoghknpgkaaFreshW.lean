/- The walks of pace.Fresh and what it calls. -/
import Derived.Test.YtglmdoghknpgkaaFreshSpec
import Derived.Test.YtglmdoghknpgkaaCloneI
import Derived.Test.YtglmdoghknpgkaaInsI
namespace Go.Proofs.Ytglmdoghknpgkaa
set_option linter.unusedVariables false
set_option linter.unusedSimpArgs false
open Go.RowKit

def icv (n : Int) : List Value := [.int .i64 n]
theorem icv_len (n : Int) : (icv n).length = 1 := rfl
theorem icv_one : ∀ n, ∀ u ∈ icv n, u.oneCell' = true := by simp [icv, Value.oneCell']
theorem fl_icv (l : List Int) (j : Nat) (h : j < l.length) : (fl icv l)[j]? = some (.int .i64 l[j]) := by
  have := fl_get icv_len l j h 0 (by omega)
  rw [Nat.mul_one, Nat.add_zero] at this
  rw [this]; rfl
theorem rd_int {w : World} {A : Option Addr} {n cap : Nat} {l : List Int} (h : Rd icv w (.slice A n cap) l) (j : Nat) (hj : j < l.length) : ∃ ad, A = some ad ∧ w.cell? (ad.add j) = some (.int .i64 l[j]) := by
  obtain ⟨A', cap', hv, _, _, hn, hc⟩ := h
  cases hv
  cases A with
  | none => rw [(hn rfl).1] at hj; simp at hj
  | some ad => exact ⟨ad, rfl, hc ad rfl j _ (fl_icv l j hj)⟩
theorem add_0 (ad : Addr) : ad.add 0 = ad := by simp [Addr.add]
theorem rd_form {α : Type} {enc : α → List Value} {w : World} {v : Value} {l : List α} (h : Rd enc w v l) : ∃ A cap, v = .slice A l.length cap ∧ l.length ≤ cap ∧ cap ≤ 9223372036854775807 := by
  obtain ⟨A', cap', hv, h1, h2, _, _⟩ := h
  exact ⟨A', cap', hv, h1, h2⟩

theorem isnan (x : Int) (w : World) : Calls Try.prog 36 #[.int .i64 x] w fun e w' => e = .returned (.bool false) ∧ w = w' := by
  go_enter Try.func36, Try.ntmps36
  go_wp2
  go_ret
  exact ⟨rfl, rfl⟩
theorem isnan2 (x : Int) (w : World) : Calls Try.prog 33 #[.int .i64 x] w fun e w' => e = .returned (.bool false) ∧ w = w' := by
  go_enter Try.func33, Try.ntmps33
  go_wp2
  go_ret
  exact ⟨rfl, rfl⟩
theorem less (x y : Int) (w : World) : Calls Try.prog 32 #[.int .i64 x, .int .i64 y] w fun e w' => e = .returned (.bool (decide (x < y))) ∧ w = w' := by
  go_enter Try.func32, Try.ntmps32
  go_wp2_with (go_at_call 36; refine (isnan _ _).mono ?_; rintro e w1 ⟨rfl, rfl⟩)
  go_ret
  exact ⟨rfl, rfl⟩

def BsPost (l : List Int) (n : Int) (w : World) (e : Ending) (w' : World) : Prop :=
  e = .returned (.tuple #[.int .i64 (pos l n : Nat), .bool (decide (n ∈ l))]) ∧ w = w'

theorem bs_done {l : List Int} (hs : l.Pairwise (· < ·)) (n : Int) (i : Nat) (hi : i ≤ l.length) (h1 : ∀ j (h : j < l.length), j < i → l[j] < n) (h2 : ∀ j (h : j < l.length), i ≤ j → n ≤ l[j]) :
    pos l n = i ∧ (∀ h : i < l.length, decide (n ∈ l) = (l[i] == n)) ∧ (i = l.length → decide (n ∈ l) = false) := by
  refine ⟨pos_of n i hi h1 h2, fun h => ?_, fun h => ?_⟩
  · by_cases he : l[i] = n
    · have : n ∈ l := he ▸ List.getElem_mem h
      simp [this, he]
    · have : n ∉ l := by
        intro hn
        obtain ⟨j, hj, rfl⟩ := List.getElem_of_mem hn
        have hp := List.pairwise_iff_getElem.1 hs
        rcases Nat.lt_trichotomy i j with h3 | h3 | h3
        · have := hp i j h hj h3; have := h2 i h (Nat.le_refl _); omega
        · subst h3; exact he rfl
        · have := h1 j hj h3; omega
      simp [this, he]
  · have : n ∉ l := by
      intro hn
      obtain ⟨j, hj, rfl⟩ := List.getElem_of_mem hn
      have := h1 j hj (by omega); omega
    simp [this]

theorem bsearch (v : Value) (l : List Int) (n : Int) (w : World) (hv : Rd icv w v l) (hs : l.Pairwise (· < ·)) (hl : l.length ≤ 1000000) : Calls Try.prog 30 #[v, .int .i64 n] w (BsPost l n w) := by
  obtain ⟨A, cap, rfl, hlc, hcm⟩ := rd_form hv
  have hat := fun j hj => rd_int hv j hj
  have hdone := bs_done hs n
  replace hat := Lib.hid hat
  replace hdone := Lib.hid hdone
  have hp := List.pairwise_iff_getElem.1 hs
  replace hp := Lib.hid hp
  clear hv hs
  go_enter Try.func30, Try.ntmps30
  go_wp2
  go_loop [7, 8] (fun i j => ∃ a b : Nat, a ≤ b ∧ b ≤ l.length ∧ i = .int .i64 a ∧ j = .int .i64 b ∧ Hid (∀ j (h : j < l.length), j < a → l[j] < n) ∧ Hid (∀ j (h : j < l.length), b ≤ j → n ≤ l[j])) (fun i j => (intOf j - intOf i).toNat)
  case atStart => exact ⟨0, l.length, by omega, by omega, rfl, rfl, fun j _ h => absurd h (Nat.not_lt_zero _), fun j h h' => by omega⟩
  case round =>
    obtain ⟨a, b, hab, hb, rfl, rfl, q1, q2⟩ := hrel
    by_cases hlt : a < b
    · obtain ⟨m, hm⟩ : ∃ m, m = (a + b) / 2 := ⟨_, rfl⟩
      have hm1 : a ≤ m := by omega
      have hm2 : m < b := by omega
      obtain ⟨ad, rfl, hcell⟩ := hat.out m (by omega)
      have hdiv : ((a : Int) + (b : Int)) / 2 = (m : Int) := by omega
      have hz : (0 : Int) ≤ (a : Int) + (b : Int) := by omega
      by_cases hx : l[m] < n
      · have q3 : Hid (∀ j (h : j < l.length), j < m + 1 → l[j] < n) := fun j h hj => by
          rcases Nat.lt_or_eq_of_le (Nat.le_of_lt_succ hj) with h3 | rfl
          · have := hp.out j m h (by omega) h3; omega
          · exact hx
        generalize l[m] = x at *
        replace hm := Lib.hid hm
        go_wp2_with (go_at_call 32; refine (less _ _ _).mono ?_; rintro e w1 ⟨rfl, rfl⟩)
        go_round
        case rel => exact ⟨m + 1, b, by omega, hb, by go_num, rfl, q3, q2⟩
        case measure => simp [intOf]; omega
      · have q3 : Hid (∀ j (h : j < l.length), m ≤ j → n ≤ l[j]) := fun j h hj => by
          rcases Nat.lt_or_eq_of_le hj with h3 | rfl
          · have := hp.out m j (by omega) h h3; omega
          · omega
        generalize l[m] = x at *
        replace hm := Lib.hid hm
        go_wp2_with (go_at_call 32; refine (less _ _ _).mono ?_; rintro e w1 ⟨rfl, rfl⟩)
        go_round
        case rel => exact ⟨a, m, by omega, by omega, rfl, rfl, q1, q3⟩
        case measure => simp [intOf]; omega
    · obtain rfl : a = b := by omega
      obtain ⟨d1, d2, d3⟩ := hdone.out a hb q1.out q2.out
      by_cases hend : a < l.length
      · obtain ⟨ad, rfl, hcell⟩ := hat.out a hend
        have d4 := d2 hend
        cases heq : l[a] == n
        · have hf : BsPost l n w (.returned (.tuple #[.int .i64 a, .bool false])) w := ⟨by rw [d1, d4, heq], rfl⟩
          replace hf := Lib.hid hf
          clear d2 d3 d4 d1
          generalize l[a] = x at *
          go_wp2_with (go_at_call 33; refine (isnan2 _ _).mono ?_; rintro e w1 ⟨rfl, rfl⟩)
          go_ret2
          exact hf.out
        · have hf : BsPost l n w (.returned (.tuple #[.int .i64 a, .bool true])) w := ⟨by rw [d1, d4, heq], rfl⟩
          replace hf := Lib.hid hf
          clear d2 d3 d4 d1
          generalize l[a] = x at *
          go_wp2
          go_ret2
          exact hf.out
      · have hf : BsPost l n w (.returned (.tuple #[.int .i64 a, .bool false])) w := ⟨by rw [d1, d3 (by omega)], rfl⟩
        replace hf := Lib.hid hf
        clear d2 d3 d1
        go_wp2
        go_ret2
        exact hf.out

def Ints (l : List Int) : Prop := ∀ x ∈ l, -9223372036854775808 ≤ x ∧ x ≤ 9223372036854775807

theorem right_any (v : Value) (l : List Int) (w : World) (hv : Rd icv w v l) (hw : Ints l) (hl : l.length ≤ 1000000) : Calls Try.prog 28 #[v] w fun e w' => e = .returned (.bool (right l)) ∧ w = w' := by
  obtain ⟨A, cap, rfl, hlc, hcm⟩ := rd_form hv
  have hat := fun j hj => rd_int hv j hj
  have hno : ∀ k, k < l.length → bad l k = true → right l = false := by
    intro k hk hb
    unfold right
    have : (List.range l.length).all (fun i => !bad l i) = false := by
      rw [List.all_eq_false]
      exact ⟨k, List.mem_range.2 hk, by simp [hb]⟩
    rw [this]; rfl
  have hyes : (∀ j, j < l.length → bad l j = false) → right l = decide ((l.length : Int) ≤ 64) := by
    intro h
    unfold right
    have : (List.range l.length).all (fun i => !bad l i) = true := by
      rw [List.all_eq_true]
      intro x hx
      simp [h x (List.mem_range.1 hx)]
    rw [this, Bool.true_and]
    by_cases h : l.length ≤ 64
    · simp [h, show (l.length : Int) ≤ 64 by omega]
    · simp [h, show ¬ (l.length : Int) ≤ 64 by omega]
  replace hat := Lib.hid hat
  replace hno := Lib.hid hno
  replace hyes := Lib.hid hyes
  replace hw := Lib.hid hw
  clear hv
  go_enter Try.func28, Try.ntmps28
  go_wp2
  go_loop [7] (fun c => ∃ k : Nat, k ≤ l.length ∧ c = .int .i64 k ∧ Hid (∀ j, j < k → bad l j = false)) (fun c => l.length - (intOf c).toNat)
  case atStart => exact ⟨0, by omega, rfl, fun j h => absurd h (Nat.not_lt_zero _)⟩
  case round =>
    obtain ⟨k, hk, rfl, hb⟩ := hrel
    by_cases hlt : k < l.length
    · obtain ⟨ad, rfl, hcell⟩ := hat.out k hlt
      have hbad : bad l k = ((k == 0 && decide (l[k] < 0)) || (decide (0 < k) && decide (l[k] ≤ l.getD (k - 1) 0)) || (decide (0 < k) && decide (l[k] - 1 ≤ l.getD 0 0))) := by
        unfold bad; rw [show l.getD k 0 = l[k] by simp [List.getD, List.getElem?_eq_getElem hlt]]
      have hnext : bad l k = false → Hid (∀ j, j < k + 1 → bad l j = false) := fun h j hj => by
        rcases Nat.lt_or_eq_of_le (Nat.le_of_lt_succ hj) with h3 | rfl
        · exact hb.out j h3
        · exact h
      have hret := hno.out k hlt
      rcases Nat.eq_zero_or_pos k with rfl | hpos
      · have z1 : (((0 : Nat) : Int) == 0) = true := rfl
        have z2 : ¬ (0 : Int) < ((0 : Nat) : Int) := by omega
        rw [add_0] at hcell
        simp at hbad
        by_cases hx : l[0] < 0
        · have hr := hret (by rw [hbad]; simpa using hx)
          replace hr := Lib.hid hr
          clear hbad hnext hret
          generalize l[0] = x at *
          go_wp2
          go_ret
          exact ⟨by rw [hr.out]; rfl, rfl⟩
        · have hn := hnext (by rw [hbad]; simpa using hx)
          clear hbad hnext hret
          generalize l[0] = x at *
          go_wp2
          go_round
          case rel => exact ⟨0 + 1, by omega, by go_num, hn⟩
          case measure => simp [intOf]; omega
      · have z1 : ((k : Int) == 0) = false := by simp; omega
        have z2 : (0 : Int) < (k : Int) := by omega
        obtain ⟨ad', had', hcell1⟩ := hat.out (k - 1) (by omega)
        obtain rfl : ad = ad' := by injection had'
        obtain ⟨ad', had', hcell0⟩ := hat.out 0 (by omega)
        obtain rfl : ad = ad' := by injection had'
        rw [add_0] at hcell0
        have e1 : l.getD (k - 1) 0 = l[k - 1] := by simp [List.getD, List.getElem?_eq_getElem (show k - 1 < l.length by omega)]
        have e2 : l.getD 0 0 = l[0] := by simp [List.getD, List.getElem?_eq_getElem (show 0 < l.length by omega)]
        rw [e1, e2] at hbad
        have w1 := hw.out _ (List.getElem_mem hlt)
        have w2 := hw.out _ (List.getElem_mem (show k - 1 < l.length by omega))
        have z3 : ((k : Int) - 1).toNat = k - 1 := by omega
        have z4 : (0 : Int) ≤ (k : Int) - 1 := by omega
        have z5 : (k : Int) - 1 < (l.length : Int) := by omega
        have k0 : (k == 0) = false := by simp; omega
        have k1 : decide (0 < k) = true := by simp; omega
        rw [k0, k1] at hbad
        clear e1 e2 k0 k1 had'
        generalize l[k] = x at *
        generalize l[k - 1] = y at *
        generalize l[0] = z at *
        by_cases hx : x ≤ y
        · have hr := hret (by rw [hbad]; simp [hx])
          replace hr := Lib.hid hr
          clear hbad hnext hret
          go_wp2
          go_ret
          exact ⟨by rw [hr.out]; rfl, rfl⟩
        · by_cases hx2 : x - 1 ≤ z
          · have hr := hret (by rw [hbad]; simp [hx2])
            replace hr := Lib.hid hr
            clear hbad hnext hret
            go_wp2
            go_ret
            exact ⟨by rw [hr.out]; rfl, rfl⟩
          · have hn := hnext (by rw [hbad]; simp [hx, hx2])
            clear hbad hnext hret
            go_wp2
            go_round
            case rel => exact ⟨k + 1, by omega, by go_num, hn⟩
            case measure => simp [intOf]; omega
    · obtain rfl : k = l.length := by omega
      have hf := hyes.out hb.out
      replace hf := Lib.hid hf
      go_wp2
      go_ret
      exact ⟨by rw [hf.out]; rfl, rfl⟩

end Go.Proofs.Ytglmdoghknpgkaa
