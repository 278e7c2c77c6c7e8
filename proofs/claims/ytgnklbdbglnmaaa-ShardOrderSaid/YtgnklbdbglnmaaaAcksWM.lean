/- Acks alone are what they are one by one: in plain words. -/
import Derived.Test.YtgnklbdbglnmaaaMgJ
namespace Go.Proofs.Ytgnklbdbglnmaaa
set_option linter.unusedVariables false
set_option linter.unusedSimpArgs false
set_option maxHeartbeats 8000000
open Go.RowKit
set_option maxRecDepth 4000

theorem ackRun_snoc (s : Shard) (l : List Int) (x : Int) : ∀ k, k ≤ l.length → ackRun s (l ++ [x]) k = ackRun s l k
  | 0, _ => rfl
  | k + 1, h => by
    rw [ackRun, ackRun, ackRun_snoc s l x k (by omega)]
    congr 2
    simp only [List.getD_eq_getElem?_getD]
    rw [List.getElem?_append_left (by omega)]
theorem ackE_snoc (s : Shard) (l : List Int) (x : Int) {k : Nat} (h : k < l.length) : ackE s (l ++ [x]) k = ackE s l k := by
  rw [ackE, ackE, ackRun_snoc s l x k (by omega)]
  congr 2
  simp only [List.getD_eq_getElem?_getD]
  rw [List.getElem?_append_left h]
theorem ackE_last (s : Shard) (l : List Int) (x : Int) : ackE s (l ++ [x]) l.length = (ackS (ackRun s l l.length) x).2 := by
  rw [ackE, ackRun_snoc s l x _ (Nat.le_refl _)]
  congr 2
  simp
theorem ackRun_last (s : Shard) (l : List Int) (x : Int) : ackRun s (l ++ [x]) (l ++ [x]).length = (ackS (ackRun s l l.length) x).1 := by
  rw [List.length_append, List.length_singleton, ackRun, ackRun_snoc s l x _ (Nat.le_refl _)]
  congr 2
  simp

theorem ack_some {s : Shard} (m : May s) {h : Held} (hh : h ∈ s.held) : (ackS s h.tag).2 = 0 ∧ ∀ x, x ∈ (ackS s h.tag).1.held ↔ x ∈ s.held ∧ x.tag ≠ h.tag := by
  obtain ⟨i, hi, e⟩ := List.getElem_of_mem hh
  have hat : heldAt s.held h.tag = i := by
    refine pidx_some hi ?_ fun j hj => ?_
    · rw [tagP, getD_get hi, e]; simp
    · rw [tagP, getD_get (by omega)]
      have := List.pairwise_iff_getElem.1 m.tags j i (by omega) hi hj
      rw [e] at this
      simp only [beq_eq_false_iff_ne, ne_eq]
      omega
  have he : settleE s h.tag = 0 := by rw [settleE, (may_iff s).2 m, hat, if_neg (by decide), if_neg (by omega)]
  rw [ackS, if_pos he, hat, Int.toNat_natCast]
  refine ⟨rfl, fun x => ?_⟩
  rw [List.mem_eraseIdx_iff_getElem]
  constructor
  · rintro ⟨j, hj, hne, rfl⟩
    refine ⟨List.getElem_mem hj, ?_⟩
    rcases Nat.lt_or_gt_of_ne hne with hl | hl
    · have := List.pairwise_iff_getElem.1 m.tags j i hj hi hl
      rw [e] at this
      omega
    · have := List.pairwise_iff_getElem.1 m.tags i j hi hj hl
      rw [e] at this
      omega
  · rintro ⟨hx, hne⟩
    obtain ⟨j, hj, rfl⟩ := List.getElem_of_mem hx
    refine ⟨j, hj, ?_, rfl⟩
    rintro rfl
    exact hne (by rw [e])
theorem ack_no {s : Shard} (m : May s) {tag : Int} (h : ∀ x ∈ s.held, x.tag ≠ tag) : (ackS s tag).2 = 3 := by
  have hat : heldAt s.held tag = -1 := pidx_none fun j hj => by
    rw [tagP, getD_get hj]
    simpa using h _ (List.getElem_mem hj)
  have he : settleE s tag = 3 := by rw [settleE, (may_iff s).2 m, hat, if_neg (by decide), if_pos (by decide)]
  rw [ackS, if_neg (by rw [he]; decide), he]

structure Acks (s : Shard) (T : List Int) (i : Nat) : Prop where
  few : T.length ≤ i
  ok : ∀ j, j < T.length → ackE s T j = 0
  held : ∀ x, x ∈ (ackRun s T T.length).held ↔ x ∈ s.held ∧ x.tag ∉ T
  more : ∀ j, i ≤ j → ∀ hj : j < s.held.length, s.held[j].tag ∉ T
theorem acks_nil (s : Shard) : Acks s [] 0 := ⟨Nat.le_refl _, fun j hj => absurd hj (by simp), fun x => by simp [ackRun], fun j _ hj => by simp⟩
theorem Acks.skip {s : Shard} {T : List Int} {i : Nat} (h : Acks s T i) : Acks s T (i + 1) := ⟨Nat.le_succ_of_le h.few, h.ok, h.held, fun j hj hl => h.more j (by omega) hl⟩
theorem Acks.one {s : Shard} {T : List Int} {i : Nat} (h : Acks s T i) (m : May s) (hi : i < s.held.length) : (ackS (ackRun s T T.length) (s.held.getD i default).tag).2 = 0 := by
  rw [getD_get hi]
  exact (ack_some (ackRun_may m T T.length) ((h.held _).2 ⟨List.getElem_mem hi, h.more i (Nat.le_refl _) hi⟩)).1
theorem Acks.take {s : Shard} {T : List Int} {i : Nat} (h : Acks s T i) (m : May s) (hi : i < s.held.length) : Acks s (T ++ [(s.held.getD i default).tag]) (i + 1) := by
  have h1 := h.one m hi
  rw [getD_get hi] at h1 ⊢
  have h2 := ack_some (ackRun_may m T T.length) ((h.held _).2 ⟨List.getElem_mem hi, h.more i (Nat.le_refl _) hi⟩)
  refine ⟨?_, fun j hj => ?_, fun x => ?_, fun j hj hl => ?_⟩
  · simp only [List.length_append, List.length_singleton]
    have := h.few
    omega
  · simp only [List.length_append, List.length_singleton] at hj
    rcases Nat.lt_or_ge j T.length with hl | hl
    · rw [ackE_snoc s T _ hl, h.ok j hl]
    · obtain rfl : j = T.length := by omega
      rw [ackE_last, h1]
  · rw [ackRun_last, h2.2 x, h.held x]
    simp only [List.mem_append, List.mem_singleton, not_or]
    exact ⟨fun ⟨⟨a, b⟩, c⟩ => ⟨a, b, c⟩, fun ⟨a, b, c⟩ => ⟨⟨a, b⟩, c⟩⟩
  · simp only [List.mem_append, List.mem_singleton, not_or]
    refine ⟨h.more j (by omega) hl, ?_⟩
    have := List.pairwise_iff_getElem.1 m.tags i j hi hl (by omega)
    omega
theorem Acks.all {s : Shard} {T : List Int} {i : Nat} (h : Acks s T i) : bdo s [] T = if T.length = 0 then (s, 1) else (ackRun s T T.length, 0) := by
  have hat : ackAt s T = -1 := pidx_none fun j hj => by simp [h.ok j hj]
  rw [bdo, hat]
  by_cases h0 : T.length = 0
  · rw [if_pos ⟨rfl, h0⟩, if_pos h0]
  · rw [if_neg (fun e => h0 e.2), if_neg (by decide), if_pos (show ([] : List Msg).length = 0 from rfl), if_neg h0]
theorem Acks.twice {s : Shard} {T : List Int} {i : Nat} (h : Acks s T i) (m : May s) (h0 : T.length ≠ 0) : bdo s [] (T ++ [T.getD 0 default]) = (s, 3) := by
  have hno := ack_no (ackRun_may m T T.length) (tag := T.getD 0 default) fun x hx e => ((h.held x).1 hx).2 (by
    rw [e, getD_get (by omega)]
    exact List.getElem_mem _)
  have hat : ackAt s (T ++ [T.getD 0 default]) = T.length := by
    refine pidx_some (by simp) ?_ fun j hj => ?_
    · rw [ackE_last, hno]; rfl
    · rw [ackE_snoc s T _ hj, h.ok j hj]; rfl
  rw [bdo, hat, if_neg (fun e => by simp at e), if_pos (by omega), Int.toNat_natCast, ackE_last, hno]

end Go.Proofs.Ytgnklbdbglnmaaa
