/- So many messages, so many marks, and no more: in plain words. -/
import Derived.Test.YtgnklbdbglnmaaaMgG
namespace Go.Proofs.Ytgnklbdbglnmaaa
set_option linter.unusedVariables false
set_option linter.unusedSimpArgs false
set_option maxHeartbeats 8000000
open Go.RowKit

def digits : ByteArray := ⟨#[48, 49, 50, 51, 52, 53, 54, 55, 56, 57]⟩
def keyF (i : Nat) : ByteArray := (⟨#[107]⟩ : ByteArray) ++ digits.extract ((i : Int).tmod 10).toNat ((i : Int).tmod 10 + 1).toNat ++ digits.extract ((i : Int).tdiv 10).toNat ((i : Int).tdiv 10 + 1).toNat
def fullM (one : Bool) (i : Nat) : Msg := if one then ⟨2, (i : Int) + 1, ⟨#[107]⟩, ByteArray.empty, false⟩ else ⟨2, 1, keyF i, ByteArray.empty, false⟩
def fullS (one : Bool) : Nat → Shard
  | 0 => t0
  | i + 1 => (putR (fullS one i) [fullM one i]).1
theorem full_may (one : Bool) : ∀ i, May (fullS one i)
  | 0 => may_new
  | i + 1 => may_putR (full_may one i) _

theorem keyF_size : ∀ i, i < 61 → (keyF i).size = 3 := by decide +kernel
theorem keyF_inj : ∀ i, i < 61 → ∀ j, j < 61 → keyF i = keyF j → i = j := by decide +kernel
theorem fullM_may (one : Bool) {i : Nat} (h : i < 61) : mayMsg (fullM one i) = true ∧ (fullM one i).again = false := by
  cases one
  · refine ⟨?_, rfl⟩
    simp [fullM, mayMsg, keyF_size i h]
  · refine ⟨?_, rfl⟩
    simp [fullM, mayMsg]
    have : (ByteArray.mk #[107]).size = 1 := rfl
    rw [this]
    omega
def fullK (one : Bool) (i : Nat) : List Mark := if one then (if i = 0 then [] else [⟨2, ⟨#[107]⟩, i⟩]) else (List.range i).map fun j => ⟨2, keyF j, 1⟩

theorem fullK_last (one : Bool) {i : Nat} (h : i < 61) : lastSeq (fullK one i) (fullM one i).pub (fullM one i).key < (fullM one i).seq ∧ (fullK one i).length ≤ i ∧ putM (fullK one i) (fullM one i).mark = fullK one (i + 1) := by
  cases one
  · have hno : ∀ m ∈ fullK false i, ¬ nm m (fullM false i).mark.pub (fullM false i).mark.key := by
      intro m hm hn
      simp only [fullK, Bool.false_eq_true, if_false, List.mem_map, List.mem_range] at hm
      obtain ⟨j, hj, rfl⟩ := hm
      have := keyF_inj j (by omega) i h hn.2
      omega
    refine ⟨?_, by simp [fullK], ?_⟩
    · rw [last_none (p := (fullM false i).pub) (k := (fullM false i).key) hno]; exact (by decide : (0 : Int) < 1)
    · rw [putM_new hno]
      simp [fullK, fullM, Msg.mark, List.range_succ]
  · by_cases h0 : i = 0
    · subst h0; exact ⟨by decide, by decide, by rfl⟩
    · have e : fullK true i = [⟨2, ⟨#[107]⟩, (i : Int)⟩] := by simp [fullK, h0]
      rw [e]
      refine ⟨?_, by simp; omega, ?_⟩
      · rw [show ([⟨2, ⟨#[107]⟩, (i : Int)⟩] : List Mark) = [] ++ [⟨2, ⟨#[107]⟩, (i : Int)⟩] from rfl, lastSeq_snoc, if_pos ⟨rfl, rfl⟩]
        show (i : Int) < i + 1
        omega
      · rcases putM_cases [⟨2, ⟨#[107]⟩, (i : Int)⟩] (fullM true i).mark with ⟨hno, -, -⟩ | ⟨k, hk, -, -, e⟩
        · exact absurd ⟨rfl, rfl⟩ (hno _ (List.mem_singleton.2 rfl))
        · rw [e]
          simp at hk
          subst hk
          rfl

theorem full_state (one : Bool) : ∀ i, i ≤ 48 → fullS one i = ⟨false, 1, (List.range i).map (fullM one), [], fullK one i⟩
  | 0, _ => by cases one <;> rfl
  | i + 1, h => by
    have ih := full_state one i (by omega)
    have hm := full_may one i
    obtain ⟨h1, h2, h3⟩ := fullK_last one (i := i) (by omega)
    obtain ⟨g1, g2⟩ := fullM_may one (i := i) (by omega)
    rw [fullS, put_one hm g1 g2 (by rw [ih]) (by rw [ih]; exact h1), if_neg, ih]
    · simp only [Shard.mk.injEq, true_and]
      refine ⟨by simp [List.range_succ], h3⟩
    · rw [ih]
      simp only [List.length_map, List.length_range, List.length_nil]
      omega
theorem full_full (one : Bool) : ∀ i, 48 ≤ i → i ≤ 61 → fullS one i = fullS one 48 ∧ (i < 61 → (putR (fullS one i) [fullM one i]).2 = 4)
  | i, h, hi => by
    have key : fullS one i = fullS one 48 → i < 61 → putR (fullS one i) [fullM one i] = (fullS one i, 4) := by
      intro e hlt
      obtain ⟨g1, g2⟩ := fullM_may one (i := i) hlt
      have hst := full_state one 48 (Nat.le_refl _)
      have hlast : lastSeq (fullS one i).marks (fullM one i).pub (fullM one i).key < (fullM one i).seq := by
        rw [e, hst]
        cases one
        · have hno : ∀ m ∈ fullK false 48, ¬ nm m (fullM false i).pub (fullM false i).key := by
            intro m hm hn
            simp only [fullK, Bool.false_eq_true, if_false, List.mem_map, List.mem_range] at hm
            obtain ⟨j, hj, rfl⟩ := hm
            have := keyF_inj j (by omega) i hlt hn.2
            omega
          rw [last_none hno]; exact (by decide : (0 : Int) < 1)
        · show lastSeq (fullK true 48) 2 ⟨#[107]⟩ < (i : Int) + 1
          have : lastSeq (fullK true 48) 2 ⟨#[107]⟩ = 48 := by decide +kernel
          omega
      rw [put_one (full_may one i) g1 g2 (by rw [e, hst]) hlast, if_pos]
      left
      rw [e, hst]
      simp
    have eq : fullS one i = fullS one 48 := by
      rcases Nat.lt_or_eq_of_le h with h' | h'
      · obtain ⟨j, rfl⟩ : ∃ j, i = j + 1 := ⟨i - 1, by omega⟩
        have ih := full_full one j (by omega) (by omega)
        have hj : putR (fullS one j) [fullM one j] = (fullS one j, 4) := by
          obtain ⟨g1, g2⟩ := fullM_may one (i := j) (by omega)
          have h2 := ih.2 (by omega)
          unfold putR at h2 ⊢
          simp only at h2
          rw [h2]; simp
        rw [fullS, hj]
        exact ih.1
      · rw [← h']
    exact ⟨eq, fun hlt => by rw [key eq hlt]⟩

theorem full_e (one : Bool) {i : Nat} (h : i < 61) : (putR (fullS one i) [fullM one i]).2 = if i < 48 then 0 else 4 := by
  split
  · rename_i hlt
    have ih := full_state one i (by omega)
    obtain ⟨h1, h2, h3⟩ := fullK_last one (i := i) (by omega)
    obtain ⟨g1, g2⟩ := fullM_may one (i := i) (by omega)
    rw [put_one (full_may one i) g1 g2 (by rw [ih]) (by rw [ih]; exact h1), if_neg]
    rw [ih]
    simp only [List.length_map, List.length_range, List.length_nil]
    omega
  · exact (full_full one i (by omega) (by omega)).2 h
theorem full_len (one : Bool) {i : Nat} (h : i ≤ 61) : (fullS one i).ready.length = if 48 < i then 48 else i := by
  rcases Nat.lt_or_ge 48 i with h' | h'
  · rw [(full_full one i (by omega) h).1, full_state one 48 (Nat.le_refl _), if_pos h']; simp
  · rw [full_state one i h', if_neg (by omega)]; simp

end Go.Proofs.Ytgnklbdbglnmaaa
