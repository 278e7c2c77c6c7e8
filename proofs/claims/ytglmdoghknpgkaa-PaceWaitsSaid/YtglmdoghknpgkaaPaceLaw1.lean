/- PaceWaits: what is not told is tried again, later and later: the walk. -/
import Derived.Test.YtglmdoghknpgkaaPaceTold
namespace Go.Proofs.Ytglmdoghknpgkaa
set_option linter.unusedVariables false
set_option linter.unusedSimpArgs false
open Go.RowKit

theorem wait_pos {t : Int} (h : 1 ≤ t) : 4 ≤ wait t := by unfold wait; (repeat' split) <;> omega
theorem wait_le (t : Int) : 0 ≤ wait t ∧ wait t ≤ 64 := by unfold wait; (repeat' split) <;> omega
theorem wait_mono (t : Int) : wait t ≤ wait (t + 1) := by unfold wait; (repeat' split) <;> omega

/-- The loop's head, ahead of round k. -/
structure WaitsJ (k : Nat) (last tries : Int) : Prop where
  k1 : 1 ≤ k
  l0 : 0 ≤ last
  l1 : last + 1 ≤ k
  t1 : 1 ≤ tries
  tk : tries ≤ k
  w : (k : Int) - 1 - last < wait tries

theorem WaitsJ.due {k : Nat} {last tries : Int} (h : WaitsJ k last tries) (hk : k ≤ 1000) : (PaceS.mk ((k : Int) - 1) 1 [⟨1, last, tries⟩]).due k =
    if (k : Int) - last = wait tries then (⟨k, 1, [⟨1, k, tries + 1⟩]⟩, [1]) else (⟨k, 1, [⟨1, last, tries⟩]⟩, []) := by
  have h1 := h.l0; have h2 := h.l1; have h3 := h.tk; have h4 := h.t1; have h5 := h.w
  have hm : (PaceS.mk ((k : Int) - 1) 1 [⟨1, last, tries⟩]).may k = true := by simp [PaceS.may]; omega
  have hw : wrap64 ((k : Int) - last) = (k : Int) - last := by unfold wrap64; omega
  have hw2 : wrap64 (tries + 1) = tries + 1 := by unfold wrap64; omega
  unfold PaceS.due
  rw [hm]
  by_cases he : (k : Int) - last = wait tries
  · have hd : dueOne k ⟨1, last, tries⟩ = true := by rw [dueOne, hw, he]; simp
    simp [dueStep, dueOut, hd, he, hw2]
  · have hd : dueOne k ⟨1, last, tries⟩ = false := by simp [dueOne, hw]; omega
    simp [dueStep, dueOut, hd, he]

theorem WaitsJ.yes {k : Nat} {last tries : Int} (h : WaitsJ k last tries) : WaitsJ (k + 1) k (tries + 1) := by
  have h1 := h.l0; have h2 := h.l1; have h3 := h.tk; have h4 := h.t1; have h5 := h.w; have h6 := h.k1
  have h7 := wait_pos (t := tries + 1) (by omega)
  exact ⟨by omega, by omega, by omega, by omega, by omega, by omega⟩
theorem WaitsJ.no {k : Nat} {last tries : Int} (h : WaitsJ k last tries) (hn : ¬ (k : Int) - last = wait tries) : WaitsJ (k + 1) last tries := by
  have h1 := h.l0; have h2 := h.l1; have h3 := h.tk; have h4 := h.t1; have h5 := h.w; have h6 := h.k1
  exact ⟨by omega, by omega, by omega, by omega, by omega, by omega⟩

set_option maxRecDepth 100000 in
set_option maxHeartbeats 2000000 in
theorem waits_law (n : Int) (w : World) : Calls Try.prog 6 #[.int .i64 n] w fun e w' => e = .returned (.bool true) ∧ Below w.heap.size w w' := by
  have o1 : One P0 E0 w.heap.size w (w.alloc (.cells #[.int .i64 0, .int .i64 0, .slice none 0 0] P0)) w.heap.size (.slice none 0 0) ⟨0, 0, []⟩ := One.new (Below.refl _ _) 0
  replace o1 := Lib.hid o1
  have hB : w.heap.size ≤ w.heap.size := Nat.le_refl _
  have hN01 := urem n 600 (by omega)
  obtain ⟨N, hN⟩ : ∃ N, (IntKind.u64.wrap n).tmod 600 = N := ⟨_, rfl⟩
  rw [hN] at hN01
  obtain ⟨hN0, hN1⟩ := hN01
  go_enter Try.func6, Try.ntmps6
  go_wp2_with (go_at_call 9; refine (new_yes 0 _ (by omega) (by omega)).mono ?_; rintro e w1 ⟨rfl, rfl⟩)
  refine (send_one w.heap.size w hB w.heap.size _ ⟨0, 0, []⟩ 0 1 _ o1.out (by simp)).mono ?_
  rintro e w2 ⟨rfl, v2, o2, -⟩
  have o2 : Hid (One P0 E0 w.heap.size w w2 w.heap.size v2 ⟨0, 1, [⟨1, 0, 1⟩]⟩) := o2
  rw [show (PaceS.send ⟨0, 0, []⟩ 0 1).isSome = true from by decide +kernel]
  clear o1
  go_wp2
  go_loopw [4, 5, 6] (fun a b c wr => ∃ (k : Nat) (last tries : Int) (v : Value), a = .int .i64 last ∧ b = .int .i64 tries ∧ c = .int .i64 k ∧ k ≤ 600 ∧ WaitsJ k last tries ∧ Hid (One P0 E0 w.heap.size w wr w.heap.size v ⟨(k : Int) - 1, 1, [⟨1, last, tries⟩]⟩)) (fun _ _ c _ => 600 - (intOf c).toNat)
  case atStart => exact ⟨1, 0, 1, v2, rfl, rfl, rfl, by omega, ⟨by omega, by omega, by omega, by omega, by omega, by decide +kernel⟩, o2⟩
  case round =>
    obtain ⟨k, last, tries, v, rfl, rfl, rfl, hk, hJ, hone⟩ := hrel
    have hk1 := hJ.k1
    have hl0 := hJ.l0
    have hl1 := hJ.l1
    have ht1 := hJ.t1
    have htk := hJ.tk
    by_cases hlt : (k : Int) ≤ N
    · have hdue := hJ.due (by omega)
      have hdo := due_one w.heap.size w hB w.heap.size v ⟨(k : Int) - 1, 1, [⟨1, last, tries⟩]⟩ k wr hone.out (by simp)
      by_cases he : (k : Int) - last = wait tries
      · rw [hdue, if_pos he] at hdo
        have hJ1 := hJ.yes
        have he' : ((k : Int) - last == wait tries) = true := by simpa using he
        replace he := Lib.hid he
        replace hJ1 := Lib.hid hJ1
        replace hdo := Lib.hid hdo
        clear hdue hJ hone
        go_wp2_with first
          | (go_at_call 15; refine hdo.out.mono ?_; rintro e w1 ⟨A1, c1, rfl, -, o3, -⟩; replace o3 := Lib.hid o3)
          | (go_at_call 20; refine (wait_any tries _ (by omega)).mono ?_; rintro e w1 ⟨rfl, rfl⟩)
        go_roundw
        case rel => exact ⟨k + 1, k, tries + 1, v, rfl, rfl, by go_num, by omega, hJ1.out, by rw [show (((k + 1 : Nat) : Int) - 1) = k by omega]; exact o3⟩
        case measure => simp [intOf]; omega
      · rw [hdue, if_neg he] at hdo
        have hJ1 := hJ.no he
        have he' : ((k : Int) - last == wait tries) = false := by simpa using he
        replace he := Lib.hid he
        replace hJ1 := Lib.hid hJ1
        replace hdo := Lib.hid hdo
        clear hdue hJ hone
        go_wp2_with first
          | (go_at_call 15; refine hdo.out.mono ?_; rintro e w1 ⟨A1, c1, rfl, -, o3, -⟩; replace o3 := Lib.hid o3)
          | (go_at_call 20; refine (wait_any tries _ (by omega)).mono ?_; rintro e w1 ⟨rfl, rfl⟩)
        go_roundw
        case rel => exact ⟨k + 1, last, tries, v, rfl, rfl, by go_num, by omega, hJ1.out, by rw [show (((k + 1 : Nat) : Int) - 1) = k by omega]; exact o3⟩
        case measure => simp [intOf]; omega
    · have hb := hone.out.below
      have q1 := wait_le tries
      have q2 := wait_mono tries
      obtain ⟨q3, q4⟩ := q1
      have q5 : wait 1000 = 64 := by decide +kernel
      replace hb := Lib.hid hb
      clear hJ hone
      go_wp2_with fail
      refine (told_law wr).mono ?_
      rintro e w1 ⟨rfl, b1⟩
      have b2 := hb.out.trans (b1.mono hb.out.size)
      replace b2 := Lib.hid b2
      clear b1 hb
      go_wp2_with fail
      refine (wait_any tries _ (by omega)).mono ?_
      rintro e w2 ⟨rfl, rfl⟩
      go_wp2_with fail
      refine (wait_any (tries + 1) _ (by omega)).mono ?_
      rintro e w2 ⟨rfl, rfl⟩
      go_wp2_with fail
      refine (wait_any tries _ (by omega)).mono ?_
      rintro e w2 ⟨rfl, rfl⟩
      go_wp2_with fail
      refine (wait_any 1000 _ (by omega)).mono ?_
      rintro e w2 ⟨rfl, rfl⟩
      rw [q5]
      go_wp2_with fail
      go_ret
      exact ⟨rfl, b2.out⟩

end Go.Proofs.Ytglmdoghknpgkaa
