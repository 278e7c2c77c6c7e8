/- PaceGaps: sixty-four numbers with gaps are kept, not more: the walk. -/
import Derived.Test.YtglmdoghknpgkaaPaceTold
import Derived.Test.YtglmdoghknpgkaaGapsSpec
namespace Go.Proofs.Ytglmdoghknpgkaa
set_option linter.unusedVariables false
set_option linter.unusedSimpArgs false
open Go.RowKit

set_option maxRecDepth 100000 in
set_option maxHeartbeats 4000000 in
theorem gaps_law (n : Int) (w : World) : Calls Try.prog 8 #[.int .i64 n] w fun e w' => e = .returned (.bool true) ∧ Below w.heap.size w w' := by
  have hN01 := urem n 71 (by omega)
  obtain ⟨N, hN⟩ : ∃ N : Nat, (IntKind.u64.wrap n).tmod 71 = (N : Int) := Int.eq_ofNat_of_zero_le hN01.1
  rw [hN] at hN01
  have hN1 : N < 71 := by omega
  clear hN01
  go_enter Try.func8, Try.ntmps8
  go_wp2
  go_loopw [4, 5] (fun s c wr => ∃ (j : Nat) (A : Option Addr) (cap : Nat), s = .slice A (gapsL j).length cap ∧ c = .int .i64 ((j : Int) + 1) ∧ j ≤ N ∧ Rd icv wr (.slice A (gapsL j).length cap) (gapsL j) ∧ Below w.heap.size w wr) (fun _ c _ => 100 - (intOf c).toNat)
  case atStart => exact ⟨0, none, 0, rfl, rfl, by omega, Rd.nil _ _, Below.refl _ _⟩
  case round =>
    obtain ⟨j, A, cap, rfl, rfl, hj, hrd, hb⟩ := hrel
    have hints : Ints (gapsL j) := fun x hx => by have := gaps_ints j x hx; omega
    have hgl := gaps_len j
    by_cases hlt : j < N
    · have hf := fresh_one _ (gapsL j) (2 * ((j : Int) + 1)) wr hrd hints (by omega) (by omega)
      rw [gaps_step j (by omega)] at hf
      have h3 : (j : Int) + 1 ≤ (N : Int) := by omega
      by_cases h64 : j + 1 < 64
      · rw [show decide (j + 1 < 64) = true by simpa using h64] at hf
        have h4 : (j : Int) + 1 < 64 := by omega
        replace hf := Lib.hid hf
        replace hb := Lib.hid hb
        clear hrd
        go_wp2_with (go_at_call 22; refine hf.out.mono ?_; rintro e w2 ⟨A2, c2, rfl, r2, b2⟩; replace r2 := Lib.hid r2; have b3 := hb.out.trans (b2.mono hb.out.size); clear b2)
        go_roundw
        case rel => exact ⟨j + 1, A2, c2, rfl, by go_num, by omega, r2.out, b3⟩
        case measure => simp [intOf]; omega
      · rw [show decide (j + 1 < 64) = false by simpa using h64] at hf
        have h4 : ¬ (j : Int) + 1 < 64 := by omega
        replace hf := Lib.hid hf
        replace hb := Lib.hid hb
        clear hrd
        go_wp2_with (go_at_call 22; refine hf.out.mono ?_; rintro e w2 ⟨A2, c2, rfl, r2, b2⟩; replace r2 := Lib.hid r2; have b3 := hb.out.trans (b2.mono hb.out.size); clear b2)
        go_roundw
        case rel => exact ⟨j + 1, A2, c2, rfl, by go_num, by omega, r2.out, b3⟩
        case measure => simp [intOf]; omega
    · obtain rfl : j = N := by omega
      have h3 : ¬ (j : Int) + 1 ≤ (j : Int) := by omega
      have hf := fresh_one _ (gapsL j) 1 wr hrd hints (by omega) (by omega)
      obtain ⟨e1, e2, e3⟩ := gaps_end j (by omega)
      rw [e1] at hf
      generalize (fresh (gapsL j) 1).1 = r at *
      replace hf := Lib.hid hf
      clear hrd e1
      have hrl : 0 < r.length := by
        by_cases h0 : j = 0
        · rw [if_pos h0] at e2; omega
        · rw [if_neg h0] at e2; omega
      by_cases h0 : j = 0
      · subst h0
        rw [if_pos rfl] at e2 e3
        have e5 : r.length = 1 := by omega
        go_wp2_with (go_at_call 22; refine hf.out.mono ?_; rintro e w2 ⟨A2, c2, rfl, r2, b2⟩; have b3 := hb.trans (b2.mono hb.size); replace r2 := Lib.hid r2; clear b2)
        refine (told_law _).mono ?_
        rintro e w3 ⟨rfl, b4⟩
        have r3 := r2.out.below b4
        have b5 := b3.trans (b4.mono b3.size)
        obtain ⟨ad, rfl, x1⟩ := rd_int r3 0 hrl
        rw [add_0] at x1
        have e4 : r[0] = r.getD 0 0 := by simp [List.getD, List.getElem?_eq_getElem hrl]
        rw [e4, e3] at x1
        have g0 : (0 : Int) < (r.length : Int) := by omega
        rw [e2] at g0
        replace b5 := Lib.hid b5
        replace e2 := Lib.hid e2
        clear r3 b4 b3 r2 e3 e4
        go_wp2_with fail
        go_ret
        exact ⟨rfl, b5.out⟩
      · rw [if_neg h0] at e2 e3
        have h5 : ((j : Int) == 0) = false := by simp; omega
        by_cases h63 : j ≤ 63
        · have hm : ((min j 63 : Nat) : Int) = (j : Int) := by omega
          have h6 : (j : Int) ≤ 63 := by omega
          rw [hm] at e2
          have e5 : r.length = j := by omega
          go_wp2_with (go_at_call 22; refine hf.out.mono ?_; rintro e w2 ⟨A2, c2, rfl, r2, b2⟩; have b3 := hb.trans (b2.mono hb.size); replace r2 := Lib.hid r2; clear b2)
          refine (told_law _).mono ?_
          rintro e w3 ⟨rfl, b4⟩
          have r3 := r2.out.below b4
          have b5 := b3.trans (b4.mono b3.size)
          obtain ⟨ad, rfl, x1⟩ := rd_int r3 0 hrl
          rw [add_0] at x1
          have e4 : r[0] = r.getD 0 0 := by simp [List.getD, List.getElem?_eq_getElem hrl]
          rw [e4, e3] at x1
          have g0 : (0 : Int) < (r.length : Int) := by omega
          rw [e2] at g0
          replace b5 := Lib.hid b5
          replace e2 := Lib.hid e2
          clear r3 b4 b3 r2 e3 e4
          go_wp2_with fail
          go_ret
          exact ⟨rfl, b5.out⟩
        · have hm : ((min j 63 : Nat) : Int) = 63 := by omega
          have h6 : ¬ (j : Int) ≤ 63 := by omega
          have h7 : (63 : Int) < (j : Int) := by omega
          rw [hm] at e2
          have e5 : r.length = 63 := by omega
          go_wp2_with (go_at_call 22; refine hf.out.mono ?_; rintro e w2 ⟨A2, c2, rfl, r2, b2⟩; have b3 := hb.trans (b2.mono hb.size); replace r2 := Lib.hid r2; clear b2)
          refine (told_law _).mono ?_
          rintro e w3 ⟨rfl, b4⟩
          have r3 := r2.out.below b4
          have b5 := b3.trans (b4.mono b3.size)
          obtain ⟨ad, rfl, x1⟩ := rd_int r3 0 hrl
          rw [add_0] at x1
          have e4 : r[0] = r.getD 0 0 := by simp [List.getD, List.getElem?_eq_getElem hrl]
          rw [e4, e3] at x1
          have g0 : (0 : Int) < (r.length : Int) := by omega
          rw [e2] at g0
          replace b5 := Lib.hid b5
          replace e2 := Lib.hid e2
          clear r3 b4 b3 r2 e3 e4
          go_wp2_with fail
          go_ret
          exact ⟨rfl, b5.out⟩

end Go.Proofs.Ytglmdoghknpgkaa
