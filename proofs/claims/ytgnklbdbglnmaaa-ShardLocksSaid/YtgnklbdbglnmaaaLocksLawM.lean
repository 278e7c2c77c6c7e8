/- While a message is held none of its key is handed out: in plain words. -/
import Derived.Test.YtgnklbdbglnmaaaMgI
namespace Go.Proofs.Ytgnklbdbglnmaaa
set_option linter.unusedVariables false
set_option linter.unusedSimpArgs false
set_option maxHeartbeats 8000000
open Go.RowKit

def lkM (i j : Nat) : Msg := ⟨1, (i : Int) + 1, nameK j, ByteArray.empty, false⟩
def lkP (K : Nat) : Nat → Shard
  | 0 => t0
  | n + 1 => { lkP K n with ready := (lkP K n).ready ++ [lkM (n / K) (n % K)], marks := putM (lkP K n).marks (lkM (n / K) (n % K)).mark }
def lkG (s : Shard) : Nat → Shard
  | 0 => s
  | j + 1 => getS (lkG s j)
def lkA (s : Shard) : Nat → Shard
  | 0 => s
  | j + 1 => { lkA s j with held := (lkA s j).held.eraseIdx 0 }
def lkR (K M : Nat) : Nat → Shard
  | 0 => lkP K (M * K)
  | i + 1 => lkA (lkG (lkR K M i) K) K
def lkC1 (K n : Nat) : Bool := mayMsg (lkM (n / K) (n % K)) && !(lkP K n).frozen && decide (lastSeq (lkP K n).marks 1 (nameK (n % K : Nat)) < ((n / K : Nat) : Int) + 1) && decide ((lkP K n).ready.length + (lkP K n).held.length + 1 ≤ 48) && decide ((lkP K n).marks.length < 64)
def lkCg (s : Shard) (i j : Nat) : Bool := !s.frozen && decide (freeAt s ≠ -1) && decide (s.next ≠ 1073741824) && (getH s).m.key == nameK j && (getH s).m.seq == (i : Int) + 1
def lkCn (s : Shard) (K : Nat) : Bool := !s.frozen && freeAt s == -1 && s.held.length == K
def lkCa (s : Shard) (K j : Nat) : Bool := s.held.length == K - j && heldAt s.held (s.held.getD 0 default).tag == 0
def lkC2 (K M i : Nat) : Bool := (List.range K).all (fun j => lkCg (lkG (lkR K M i) j) i j) && lkCn (lkG (lkR K M i) K) K && (List.range K).all (fun j => lkCa (lkA (lkG (lkR K M i) K) j) K j) && (lkA (lkG (lkR K M i) K) K).held.length == 0
def lkC3 (K M : Nat) : Bool := (lkR K M M).ready.length == 0 && (lkR K M M).marks.length == K

theorem lk1 : ∀ K, K < 7 → ∀ n, n < 5 * K → lkC1 K n = true := by decide +kernel
theorem lk2 : ∀ K, K < 7 → ∀ M, M < 6 → ∀ i, i < M → lkC2 K M i = true := by decide +kernel
theorem lk3 : ∀ K, K < 7 → ∀ M, M < 6 → 0 < M → lkC3 K M = true := by decide +kernel

theorem lk_put {K n : Nat} (hK : K < 7) (hn : n < 5 * K) (m : May (lkP K n)) : putR (lkP K n) [lkM (n / K) (n % K)] = (lkP K (n + 1), 0) := by
  have h := lk1 K hK n hn
  simp only [lkC1, Bool.and_eq_true, decide_eq_true_eq, Bool.not_eq_true'] at h
  rw [put_one m h.1.1.1.1 rfl h.1.1.1.2 h.1.1.2, if_neg]
  · rfl
  · rintro (h' | ⟨-, h'⟩) <;> omega
theorem lk_may {K : Nat} (hK : K < 7) : ∀ n, n ≤ 5 * K → May (lkP K n)
  | 0, _ => may_new
  | n + 1, h => by
    have m := lk_may hK n (by omega)
    have := may_putR m [lkM (n / K) (n % K)]
    rwa [lk_put hK (by omega) m] at this
theorem lk_get {s : Shard} {i j : Nat} (m : May s) (h : lkCg s i j = true) : getR s = (getS s, getH s, 0) ∧ (getH s).m.key = nameK j ∧ (getH s).m.seq = (i : Int) + 1 := by
  simp only [lkCg, Bool.and_eq_true, decide_eq_true_eq, Bool.not_eq_true', beq_iff_eq] at h
  refine ⟨?_, h.1.2, h.2⟩
  rw [get_eq, (may_iff s).2 m, h.1.1.1.1, if_neg (by decide), if_neg (by decide), if_neg h.1.1.1.2, if_neg h.1.1.2]
theorem lk_none {s : Shard} {K : Nat} (m : May s) (h : lkCn s K = true) : getR s = (s, default, 3) ∧ s.held.length = K := by
  simp only [lkCn, Bool.and_eq_true, Bool.not_eq_true', beq_iff_eq] at h
  refine ⟨?_, h.2⟩
  rw [get_eq, (may_iff s).2 m, h.1.1, if_neg (by decide), if_neg (by decide), if_pos h.1.2]
theorem lk_ack {s : Shard} {K j : Nat} (m : May s) (h : lkCa s K j = true) : ackS s (s.held.getD 0 default).tag = ({ s with held := s.held.eraseIdx 0 }, 0) ∧ s.held.length = K - j := by
  simp only [lkCa, Bool.and_eq_true, beq_iff_eq] at h
  refine ⟨?_, h.1⟩
  have he : settleE s (s.held.getD 0 default).tag = 0 := by rw [settleE, (may_iff s).2 m, h.2]; rfl
  rw [ackS, if_pos he, h.2]; rfl
structure LkR (K M i : Nat) : Prop where
  g : ∀ j, j < K → lkCg (lkG (lkR K M i) j) i j = true
  n : lkCn (lkG (lkR K M i) K) K = true
  a : ∀ j, j < K → lkCa (lkA (lkG (lkR K M i) K) j) K j = true
  z : (lkA (lkG (lkR K M i) K) K).held.length = 0
theorem lk_r {K M i : Nat} (hK : K < 7) (hM : M < 6) (hi : i < M) : LkR K M i := by
  have h := lk2 K hK M hM i hi
  simp only [lkC2, Bool.and_eq_true, List.all_eq_true, List.mem_range, beq_iff_eq] at h
  exact ⟨h.1.1.1, h.1.1.2, h.1.2, h.2⟩
theorem lk_mayG {K M i : Nat} (h : LkR K M i) (m : May (lkR K M i)) : ∀ j, j ≤ K → May (lkG (lkR K M i) j)
  | 0, _ => m
  | j + 1, hj => by
    have mj := lk_mayG h m j (by omega)
    have := may_getR mj
    rwa [(lk_get mj (h.g j (by omega))).1] at this
theorem lk_mayA {K M i : Nat} (h : LkR K M i) (m : May (lkR K M i)) : ∀ j, j ≤ K → May (lkA (lkG (lkR K M i) K) j)
  | 0, _ => lk_mayG h m K (Nat.le_refl _)
  | j + 1, hj => by
    have mj := lk_mayA h m j (by omega)
    have := may_ackR mj ((lkA (lkG (lkR K M i) K) j).held.getD 0 default).tag
    rwa [(lk_ack mj (h.a j (by omega))).1] at this
theorem lk_mayR {K M : Nat} (hK : K < 7) (hM : M < 6) : ∀ i, i ≤ M → May (lkR K M i)
  | 0, _ => lk_may hK _ (Nat.mul_le_mul_right K (by omega))
  | i + 1, h => lk_mayA (lk_r hK hM (by omega)) (lk_mayR hK hM i (by omega)) K (Nat.le_refl _)

end Go.Proofs.Ytgnklbdbglnmaaa
