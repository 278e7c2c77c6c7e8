/- PaceMany: sixty-four wait, no more: the walk. -/
import Derived.Test.YtglmdoghknpgkaaPaceTold
namespace Go.Proofs.Ytglmdoghknpgkaa
set_option linter.unusedVariables false
set_option linter.unusedSimpArgs false
open Go.RowKit

def manyL (k : Nat) : List Sent := (List.range k).map (fun (i : Nat) => ⟨(i : Int) + 1, 5, 1⟩)
theorem manyL_len (k : Nat) : (manyL k).length = k := by simp [manyL]
theorem manyL_succ (k : Nat) : manyL (k + 1) = manyL k ++ [⟨(k : Int) + 1, 5, 1⟩] := by simp [manyL, List.range_succ]
def manyS (j : Nat) : PaceS := ⟨5, (min j 64 : Nat), manyL (min j 64)⟩
theorem manyS_len (j : Nat) : (manyS j).l.length ≤ 64 := by simp [manyS, manyL_len]; omega

theorem many_send (j : Nat) : (manyS j).send 5 ((j : Int) + 1) = if j < 64 then some (manyS (j + 1)) else none := by
  by_cases h : j < 64
  · have h1 : min j 64 = j := by omega
    have h2 : min (j + 1) 64 = j + 1 := by omega
    simp [PaceS.send, PaceS.may, manyS, h1, h2, manyL_len, h, manyL_succ]
    omega
  · have h1 : min j 64 = 64 := by omega
    simp [PaceS.send, PaceS.may, manyS, h1, manyL_len, h]
theorem many_stays (j : Nat) (h : ¬ j < 64) : manyS (j + 1) = manyS j := by
  have h1 : min j 64 = 64 := by omega
  have h2 : min (j + 1) 64 = 64 := by omega
  simp [manyS, h1, h2]

theorem manyL_get (m i : Nat) (h : i < (manyL m).length) : (manyL m)[i] = ⟨(i : Int) + 1, 5, 1⟩ := by simp [manyL]
theorem many_find (m j : Nat) (h : j < m) : (manyL m).findIdx? (fun s => s.n == (j : Int) + 1) = some j := by
  rw [List.findIdx?_eq_some_iff_getElem]
  refine ⟨by rw [manyL_len]; exact h, by simp [manyL_get], fun i hi => ?_⟩
  simp [manyL_get]; omega

/-- What is left when number j + 1 was told. -/
abbrev left (m j : Nat) : List Sent := (manyL m).eraseIdx j
theorem left_len (m j : Nat) (h : j < m) : (left m j).length = m - 1 := by rw [left, List.length_eraseIdx, manyL_len, if_pos h]
theorem left_mem (m j : Nat) (s : Sent) (h : s ∈ left m j) : s.at_ = 5 ∧ s.tries = 1 := by
  have := List.mem_of_mem_eraseIdx h
  simp [manyL] at this
  obtain ⟨i, _, rfl⟩ := this
  exact ⟨rfl, rfl⟩
theorem left_none (m j : Nat) (h : j < m) : (left m j).findIdx? (fun s => s.n == (j : Int) + 1) = none := by
  rw [List.findIdx?_eq_none_iff]
  intro x hx
  obtain ⟨i, hi, rfl⟩ := List.getElem_of_mem hx
  have hi' := hi
  rw [left_len m j h] at hi'
  unfold left
  rw [List.getElem_eraseIdx]
  split
  · rw [manyL_get]; simp; omega
  · rw [manyL_get]; simp; omega

theorem many_end (m j : Nat) (hm : m ≤ 64) (hj : j < m) :
    (manyS m).send 5 m = none ∧ (manyS m).told ((j : Int) + 1) = (⟨5, m, left m j⟩, true) ∧ (PaceS.mk 5 m (left m j)).told ((j : Int) + 1) = (⟨5, m, left m j⟩, false) ∧
    (PaceS.mk 5 m (left m j)).send 6 100 = some ⟨6, 100, left m j ++ [⟨100, 6, 1⟩]⟩ ∧ (PaceS.mk 6 100 (left m j ++ [⟨100, 6, 1⟩])).send 5 101 = none ∧
    ((PaceS.mk 6 100 (left m j ++ [⟨100, 6, 1⟩])).due 9).2.length = m - 1 := by
  have h1 : min m 64 = m := by omega
  refine ⟨?_, ?_, ?_, ?_, ?_, ?_⟩
  · simp [PaceS.send, PaceS.may, manyS, h1]
  · simp [PaceS.told, PaceS.find, manyS, h1, many_find m j hj, left]
  · simp [PaceS.told, PaceS.find, left_none m j hj]
  · simp [PaceS.send, PaceS.may, left_len m j hj]; omega
  · simp [PaceS.send, PaceS.may]
  · have hmay : (PaceS.mk 6 100 (left m j ++ [⟨100, 6, 1⟩])).may 9 = true := by simp [PaceS.may]
    unfold PaceS.due
    rw [hmay]
    simp only [if_true]
    rw [dueOut_snoc, show dueOne 9 ⟨100, 6, 1⟩ = false from by decide +kernel]
    simp only [Bool.false_eq_true, if_false, List.append_nil]
    unfold dueOut
    rw [List.length_map, List.filter_eq_self.2, left_len m j hj]
    intro s hs
    obtain ⟨e1, e2⟩ := left_mem m j s hs
    unfold dueOne
    rw [e1, e2]; decide +kernel

theorem many_tail (m j : Nat) (M W : Int) (hM : M = m) (hW : W = (j : Int) + 1) (hm : m ≤ 64) (hj : j < m) :
    (manyS m).send 5 M = none ∧ (manyS m).told W = (⟨5, M, left m j⟩, true) ∧ (PaceS.mk 5 M (left m j)).told W = (⟨5, M, left m j⟩, false) ∧
    (PaceS.mk 5 M (left m j)).send 6 100 = some ⟨6, 100, left m j ++ [⟨100, 6, 1⟩]⟩ ∧ (PaceS.mk 6 100 (left m j ++ [⟨100, 6, 1⟩])).send 5 101 = none ∧
    (((PaceS.mk 6 100 (left m j ++ [⟨100, 6, 1⟩])).due 9).2.length : Int) = M - 1 ∧ ((manyS m).l.length : Int) = M ∧ ((left m j).length : Int) = M - 1 := by
  obtain ⟨a, b, c, d, e, f⟩ := many_end m j hm hj
  rw [hM, hW]
  refine ⟨a, b, c, d, e, by rw [f]; omega, ?_, by rw [left_len m j hj]; omega⟩
  simp [manyS, manyL_len]; omega

set_option maxRecDepth 100000 in
set_option maxHeartbeats 4000000 in
theorem many_law (n which : Int) (w : World) : Calls Try.prog 7 #[.int .i64 n, .int .i64 which] w fun e w' => e = .returned (.bool true) ∧ Below w.heap.size w w' := by
  have o1 : One P0 E0 w.heap.size w (w.alloc (.cells #[.int .i64 5, .int .i64 0, .slice none 0 0] P0)) w.heap.size (.slice none 0 0) (manyS 0) := by
    rw [show manyS 0 = ⟨5, 0, []⟩ from by decide +kernel]; exact One.new (Below.refl _ _) 5
  replace o1 := Lib.hid o1
  have hB : w.heap.size ≤ w.heap.size := Nat.le_refl _
  have hN01 := urem n 80 (by omega)
  obtain ⟨N, hN⟩ : ∃ N : Nat, (IntKind.u64.wrap n).tmod 80 = (N : Int) := Int.eq_ofNat_of_zero_le hN01.1
  rw [hN] at hN01
  have hN1 : N < 80 := by omega
  clear hN01
  go_enter Try.func7, Try.ntmps7
  go_wp2_with (go_at_call 9; refine (new_yes 5 _ (by omega) (by omega)).mono ?_; rintro e w1 ⟨rfl, rfl⟩)
  go_loopw [7] (fun c wr => ∃ (j : Nat) (v : Value), c = .int .i64 ((j : Int) + 1) ∧ j ≤ N + 1 ∧ Hid (One P0 E0 w.heap.size w wr w.heap.size v (manyS j))) (fun c _ => 100 - (intOf c).toNat)
  case atStart => exact ⟨0, _, rfl, by omega, o1⟩
  case round =>
    obtain ⟨j, v, rfl, hj, hone⟩ := hrel
    by_cases hlt : j < N + 1
    · have hs := send_one w.heap.size w hB w.heap.size v (manyS j) 5 ((j : Int) + 1) wr hone.out (manyS_len j)
      rw [many_send j] at hs
      have h3 : (j : Int) + 1 ≤ 1 + (N : Int) := by omega
      by_cases h64 : j < 64
      · rw [if_pos h64] at hs
        have h4 : (j : Int) + 1 ≤ 64 := by omega
        replace hs := Lib.hid hs
        clear hone
        go_wp2_with (go_at_call 12; refine hs.out.mono ?_; rintro e w2 ⟨rfl, v2, o2, -⟩; replace o2 := Lib.hid o2)
        go_roundw
        case rel => exact ⟨j + 1, v2, by go_num, by omega, o2⟩
        case measure => simp [intOf]; omega
      · rw [if_neg h64] at hs
        have h4 : ¬ (j : Int) + 1 ≤ 64 := by omega
        have h5 := many_stays j h64
        replace h5 := Lib.hid h5
        replace hs := Lib.hid hs
        clear hone
        go_wp2_with (go_at_call 12; refine hs.out.mono ?_; rintro e w2 ⟨rfl, v2, o2, -⟩; replace o2 := Lib.hid o2)
        go_roundw
        case rel => exact ⟨j + 1, v2, by go_num, by omega, by rw [h5.out]; exact o2⟩
        case measure => simp [intOf]; omega
    · obtain rfl : j = N + 1 := by omega
      have h3 : ¬ (((N + 1 : Nat) : Int) + 1) ≤ 1 + (N : Int) := by omega
      by_cases h64 : N + 1 ≤ 64
      · have h4 : 1 + (N : Int) ≤ 64 := by omega
        have hJ01 := urem which (1 + (N : Int)) (by omega)
        obtain ⟨J, hJ⟩ : ∃ J : Nat, (IntKind.u64.wrap which).tmod (1 + (N : Int)) = (J : Int) := Int.eq_ofNat_of_zero_le hJ01.1
        rw [hJ] at hJ01
        have hJ1 : J < (N + 1) := by omega
        clear hJ01
        obtain ⟨t1, t2, t3, t4, t5, t6, t7, t8⟩ := many_tail (N + 1) J (1 + (N : Int)) (1 + (J : Int)) (by omega) (by omega) (by omega) hJ1
        have c1 := len_any w.heap.size v (manyS (N + 1))
        rw [t7] at c1
        have c2 := fun wr h => send_one w.heap.size w hB w.heap.size v (manyS (N + 1)) 5 (1 + (N : Int)) wr h (manyS_len _)
        rw [t1] at c2
        have c3 := fun v wr h => told_one w.heap.size w hB w.heap.size v (manyS (N + 1)) (1 + (J : Int)) wr h
        rw [t2] at c3
        have c4 := fun v wr h => told_one w.heap.size w hB w.heap.size v ⟨5, (1 + (N : Int)), left (N + 1) J⟩ (1 + (J : Int)) wr h
        rw [t3] at c4
        have hll : (left (N + 1) J).length ≤ 63 := by rw [left_len _ _ hJ1]; omega
        have c5 := fun v wr h => len_any w.heap.size v ⟨5, (1 + (N : Int)), left (N + 1) J⟩ wr h
        simp only [t8] at c5
        have c6 := fun v wr h => send_one w.heap.size w hB w.heap.size v ⟨5, (1 + (N : Int)), left (N + 1) J⟩ 6 100 wr h (by simp only; omega)
        rw [t4] at c6
        have c7 := fun v wr h => send_one w.heap.size w hB w.heap.size v ⟨6, 100, left (N + 1) J ++ [⟨100, 6, 1⟩]⟩ 5 101 wr h (by simp only [List.length_append, List.length_singleton]; omega)
        rw [t5] at c7
        have c8 := fun v wr h => due_one w.heap.size w hB w.heap.size v ⟨6, 100, left (N + 1) J ++ [⟨100, 6, 1⟩]⟩ 9 wr h (by simp only [List.length_append, List.length_singleton]; omega)
        generalize (PaceS.mk 6 100 (left (N + 1) J ++ [⟨100, 6, 1⟩])).due 9 = D at *
        obtain ⟨D1, D2⟩ := D
        simp only at t6 c8
        replace c1 := Lib.hid c1
        replace c2 := Lib.hid c2
        replace c3 := Lib.hid c3
        replace c4 := Lib.hid c4
        replace c5 := Lib.hid c5
        replace c6 := Lib.hid c6
        replace c7 := Lib.hid c7
        replace c8 := Lib.hid c8
        clear t1 t2 t3 t4 t5 t7 t8
        go_wp2_with fail
        refine (told_law wr).mono ?_
        rintro e w1 ⟨rfl, b1⟩
        have hone1 := Lib.hid (hone.out.keep hone.out.below.size b1)
        clear hone b1
        go_wp2_with fail
        refine (c1.out _ hone1.out.pt).mono ?_
        rintro e w2 ⟨rfl, rfl⟩
        go_wp2_with fail
        refine (c2.out _ hone1.out).mono ?_
        rintro e w2 ⟨rfl, v2, o2, -⟩
        have o2 : Hid (One P0 E0 w.heap.size w w2 w.heap.size v2 (manyS (N + 1))) := o2
        go_wp2_with fail
        refine (c3.out _ _ o2.out).mono ?_
        rintro e w3 ⟨rfl, v3, o3, -⟩
        replace o3 := Lib.hid o3
        clear o2
        go_wp2_with fail
        refine (c4.out _ _ o3.out).mono ?_
        rintro e w4 ⟨rfl, v4, o4, -⟩
        replace o4 := Lib.hid o4
        clear o3
        go_wp2_with fail
        refine (c5.out _ _ o4.out.pt).mono ?_
        rintro e w5 ⟨rfl, rfl⟩
        go_wp2_with fail
        refine (c6.out _ _ o4.out).mono ?_
        rintro e w5 ⟨rfl, v5, o5, -⟩
        have o5 : Hid (One P0 E0 w.heap.size w w5 w.heap.size v5 ⟨6, 100, left (N + 1) J ++ [⟨100, 6, 1⟩]⟩) := o5
        clear o4
        go_wp2_with fail
        refine (c7.out _ _ o5.out).mono ?_
        rintro e w6 ⟨rfl, v6, o6, -⟩
        have o6 : Hid (One P0 E0 w.heap.size w w6 w.heap.size v6 ⟨6, 100, left (N + 1) J ++ [⟨100, 6, 1⟩]⟩) := o6
        clear o5
        go_wp2_with fail
        refine (c8.out _ _ o6.out).mono ?_
        rintro e w7 ⟨A7, cc7, rfl, -, o7, -⟩
        have b7 := Lib.hid o7.below
        clear o7 o6
        go_wp2_with fail
        go_ret
        exact ⟨rfl, b7.out⟩
      · have h4 : ¬ 1 + (N : Int) ≤ 64 := by omega
        have h5 : manyS (N + 1) = manyS 64 := by
          have h1 : min (N + 1) 64 = 64 := by omega
          simp [manyS, h1]
        rw [h5] at hone
        clear h5
        have hJ01 := urem which 64 (by omega)
        obtain ⟨J, hJ⟩ : ∃ J : Nat, (IntKind.u64.wrap which).tmod 64 = (J : Int) := Int.eq_ofNat_of_zero_le hJ01.1
        rw [hJ] at hJ01
        have hJ1 : J < 64 := by omega
        clear hJ01
        obtain ⟨t1, t2, t3, t4, t5, t6, t7, t8⟩ := many_tail 64 J 64 (1 + (J : Int)) (by omega) (by omega) (by omega) hJ1
        have c1 := len_any w.heap.size v (manyS 64)
        rw [t7] at c1
        have c2 := fun wr h => send_one w.heap.size w hB w.heap.size v (manyS 64) 5 64 wr h (manyS_len _)
        rw [t1] at c2
        have c3 := fun v wr h => told_one w.heap.size w hB w.heap.size v (manyS 64) (1 + (J : Int)) wr h
        rw [t2] at c3
        have c4 := fun v wr h => told_one w.heap.size w hB w.heap.size v ⟨5, 64, left 64 J⟩ (1 + (J : Int)) wr h
        rw [t3] at c4
        have hll : (left 64 J).length ≤ 63 := by rw [left_len _ _ hJ1]; omega
        have c5 := fun v wr h => len_any w.heap.size v ⟨5, 64, left 64 J⟩ wr h
        simp only [t8] at c5
        have c6 := fun v wr h => send_one w.heap.size w hB w.heap.size v ⟨5, 64, left 64 J⟩ 6 100 wr h (by simp only; omega)
        rw [t4] at c6
        have c7 := fun v wr h => send_one w.heap.size w hB w.heap.size v ⟨6, 100, left 64 J ++ [⟨100, 6, 1⟩]⟩ 5 101 wr h (by simp only [List.length_append, List.length_singleton]; omega)
        rw [t5] at c7
        have c8 := fun v wr h => due_one w.heap.size w hB w.heap.size v ⟨6, 100, left 64 J ++ [⟨100, 6, 1⟩]⟩ 9 wr h (by simp only [List.length_append, List.length_singleton]; omega)
        generalize (PaceS.mk 6 100 (left 64 J ++ [⟨100, 6, 1⟩])).due 9 = D at *
        obtain ⟨D1, D2⟩ := D
        simp only at t6 c8
        replace c1 := Lib.hid c1
        replace c2 := Lib.hid c2
        replace c3 := Lib.hid c3
        replace c4 := Lib.hid c4
        replace c5 := Lib.hid c5
        replace c6 := Lib.hid c6
        replace c7 := Lib.hid c7
        replace c8 := Lib.hid c8
        clear t1 t2 t3 t4 t5 t7 t8
        go_wp2_with fail
        refine (told_law wr).mono ?_
        rintro e w1 ⟨rfl, b1⟩
        have hone1 := Lib.hid (hone.out.keep hone.out.below.size b1)
        clear hone b1
        go_wp2_with fail
        refine (c1.out _ hone1.out.pt).mono ?_
        rintro e w2 ⟨rfl, rfl⟩
        go_wp2_with fail
        refine (c2.out _ hone1.out).mono ?_
        rintro e w2 ⟨rfl, v2, o2, -⟩
        have o2 : Hid (One P0 E0 w.heap.size w w2 w.heap.size v2 (manyS 64)) := o2
        go_wp2_with fail
        refine (c3.out _ _ o2.out).mono ?_
        rintro e w3 ⟨rfl, v3, o3, -⟩
        replace o3 := Lib.hid o3
        clear o2
        go_wp2_with fail
        refine (c4.out _ _ o3.out).mono ?_
        rintro e w4 ⟨rfl, v4, o4, -⟩
        replace o4 := Lib.hid o4
        clear o3
        go_wp2_with fail
        refine (c5.out _ _ o4.out.pt).mono ?_
        rintro e w5 ⟨rfl, rfl⟩
        go_wp2_with fail
        refine (c6.out _ _ o4.out).mono ?_
        rintro e w5 ⟨rfl, v5, o5, -⟩
        have o5 : Hid (One P0 E0 w.heap.size w w5 w.heap.size v5 ⟨6, 100, left 64 J ++ [⟨100, 6, 1⟩]⟩) := o5
        clear o4
        go_wp2_with fail
        refine (c7.out _ _ o5.out).mono ?_
        rintro e w6 ⟨rfl, v6, o6, -⟩
        have o6 : Hid (One P0 E0 w.heap.size w w6 w.heap.size v6 ⟨6, 100, left 64 J ++ [⟨100, 6, 1⟩]⟩) := o6
        clear o5
        go_wp2_with fail
        refine (c8.out _ _ o6.out).mono ?_
        rintro e w7 ⟨A7, cc7, rfl, -, o7, -⟩
        have b7 := Lib.hid o7.below
        clear o7 o6
        go_wp2_with fail
        go_ret
        exact ⟨rfl, b7.out⟩

end Go.Proofs.Ytglmdoghknpgkaa
