/- What pace.Fresh computes. -/
import Derived.Test.YtglmdoghknpgkaaBase
namespace Go.Proofs.Ytglmdoghknpgkaa
set_option linter.unusedVariables false
set_option linter.unusedSimpArgs false
open Go.RowKit

/-- The numbers that came are such that came. -/
def bad (l : List Int) (i : Nat) : Bool := (i == 0 && decide (l.getD i 0 < 0)) || (decide (0 < i) && decide (l.getD i 0 ≤ l.getD (i - 1) 0)) || (decide (0 < i) && decide (l.getD i 0 - 1 ≤ l.getD 0 0))
def right (l : List Int) : Bool := (List.range l.length).all (fun i => !bad l i) && decide (l.length ≤ 64)

def pos (l : List Int) (n : Int) : Nat := (l.filter (fun x => decide (x < n))).length

/-- The beginning of what came whole. -/
def together : List Int → List Int
  | a :: b :: r => if b - 1 = a then together (b :: r) else a :: b :: r
  | l => l
def together1 (l : List Int) : Bool := decide (1 < l.length) && decide (l.getD 1 0 - 1 = l.getD 0 0)
theorem together_yes {l : List Int} (h : together1 l = true) : together l = together (l.drop 1) := by
  match l, h with
  | a :: b :: r, h => simp [together1] at h; simp [together, h]
theorem together_no {l : List Int} (h : together1 l = false) : together l = l := by
  match l, h with
  | [], _ => rfl
  | [a], _ => rfl
  | a :: b :: r, h => simp [together1] at h; simp [together, h]

/-- The first of them, 0 if there is none. -/
def base0 (l : List Int) : List Int := if l = [] then [0] else l
def fresh (l : List Int) (n : Int) : List Int × Bool :=
  if n < 1 ∨ right l = false then (l, false) else
  let m := base0 l
  if n ∈ m ∨ n ≤ m.getD 0 0 then (l, false) else
  let r := together (m.take (pos m n) ++ n :: m.drop (pos m n))
  if 64 < r.length then (l, false) else (r, true)

theorem right_sorted {l : List Int} (h : right l = true) : l.Pairwise (· < ·) ∧ (∀ x ∈ l, 0 ≤ x) ∧ l.length ≤ 64 := by
  simp only [right, Bool.and_eq_true, List.all_eq_true, List.mem_range, Bool.not_eq_true', decide_eq_true_eq] at h
  obtain ⟨h, h64⟩ := h
  have hs : ∀ i, i + 1 < l.length → l.getD i 0 < l.getD (i + 1) 0 := by
    intro i hi
    have := h (i + 1) hi
    simp [bad] at this
    have h2 := this.1
    simp [List.getD] at h2 ⊢; omega
  have hsorted : l.Pairwise (· < ·) := by
    rw [List.pairwise_iff_getElem]
    intro i j hi hj hij
    induction j with
    | zero => omega
    | succ j ih =>
      have h1 := hs j hj
      simp only [List.getD_eq_getElem?_getD, List.getElem?_eq_getElem hj, List.getElem?_eq_getElem (show j < l.length by omega), Option.getD_some] at h1
      rcases Nat.lt_or_eq_of_le (Nat.le_of_lt_succ hij) with h3 | rfl
      · have := ih (by omega) h3; omega
      · exact h1
  refine ⟨hsorted, fun x hx => ?_, h64⟩
  obtain ⟨i, hi, rfl⟩ := List.getElem_of_mem hx
  have h0 := h 0 (by omega)
  simp [bad, List.getD, List.getElem?_eq_getElem (show 0 < l.length by omega)] at h0
  rcases Nat.eq_zero_or_pos i with rfl | hp
  · exact h0
  · have := (List.pairwise_iff_getElem.1 hsorted) 0 i (by omega) hi hp; omega

/-- Where a binary search ends. -/
theorem pos_of {l : List Int} (n : Int) (i : Nat) (hi : i ≤ l.length) (h1 : ∀ j (h : j < l.length), j < i → l[j] < n) (h2 : ∀ j (h : j < l.length), i ≤ j → n ≤ l[j]) : pos l n = i := by
  unfold pos
  have e : l = l.take i ++ l.drop i := (List.take_append_drop i l).symm
  rw [e, List.filter_append, List.length_append]
  have a1 : (l.take i).filter (fun x => decide (x < n)) = l.take i := by
    rw [List.filter_eq_self]
    intro x hx
    obtain ⟨j, hj, rfl⟩ := List.getElem_of_mem hx
    simp at hj ⊢
    exact h1 j (by omega) (by omega)
  have a2 : (l.drop i).filter (fun x => decide (x < n)) = [] := by
    rw [List.filter_eq_nil_iff]
    intro x hx
    obtain ⟨j, hj, rfl⟩ := List.getElem_of_mem hx
    simp at hj ⊢
    exact h2 (i + j) (by omega) (by omega)
  rw [a1, a2, List.length_take]
  simp; omega

end Go.Proofs.Ytglmdoghknpgkaa
