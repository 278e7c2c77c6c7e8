/- PaceOnce: each number is new once: plain facts on what pace.Fresh computes. -/
import Derived.Test.YtglmdoghknpgkaaFreshSpec
namespace Go.Proofs.Ytglmdoghknpgkaa
set_option linter.unusedVariables false
set_option linter.unusedSimpArgs false

def has (l : List Int) (x : Int) : Prop := x ≤ l.getD 0 0 ∨ x ∈ l

theorem mk_right {s : List Int} (h1 : s.Pairwise (· < ·)) (h2 : ∀ x ∈ s, 0 ≤ x) (h3 : together1 s = false) (h4 : s.length ≤ 64) : right s = true := by
  unfold right
  rw [Bool.and_eq_true, List.all_eq_true]
  refine ⟨fun i hi => ?_, by simpa using h4⟩
  have hil := List.mem_range.1 hi
  have hp := List.pairwise_iff_getElem.1 h1
  have e1 : s.getD i 0 = s[i] := by simp [List.getD, List.getElem?_eq_getElem hil]
  have e0 : s.getD 0 0 = s[0] := by simp [List.getD, List.getElem?_eq_getElem (show 0 < s.length by omega)]
  unfold bad
  rw [e1, e0]
  rcases Nat.eq_zero_or_pos i with rfl | hpos
  · have := h2 _ (List.getElem_mem hil); simp; omega
  · have e2 : s.getD (i - 1) 0 = s[i - 1] := by simp [List.getD, List.getElem?_eq_getElem (show i - 1 < s.length by omega)]
    rw [e2]
    have a1 := hp (i - 1) i (by omega) hil (by omega)
    have a2 : s[0] < s[i] - 1 := by
      have hlen : 1 < s.length := by omega
      have e3 : s.getD 1 0 = s[1] := by simp [List.getD, List.getElem?_eq_getElem hlen]
      have h01 := hp 0 1 (by omega) hlen (by omega)
      have hne : ¬ s[1] - 1 = s[0] := by
        intro he
        have : together1 s = true := by unfold together1; rw [e3, e0]; simp [hlen]; exact he
        rw [h3] at this; cases this
      rcases Nat.lt_or_eq_of_le (show 1 ≤ i by omega) with h5 | rfl
      · have := hp 1 i hlen hil h5; omega
      · omega
    simp; omega

theorem right_gap {s : List Int} (h : right s = true) (hl : 1 < s.length) : s[0] < s[1] - 1 := by
  simp only [right, Bool.and_eq_true, List.all_eq_true, List.mem_range, Bool.not_eq_true', decide_eq_true_eq] at h
  have := h.1 1 hl
  simp [bad, List.getD, List.getElem?_eq_getElem hl, List.getElem?_eq_getElem (show 0 < s.length by omega)] at this
  omega

/-- What 'together' makes of a sorted row. -/
theorem together_spec : ∀ (s : List Int), s ≠ [] → s.Pairwise (· < ·) → (∀ x ∈ s, 0 ≤ x) →
    (together s).Pairwise (· < ·) ∧ (∀ x ∈ together s, x ∈ s) ∧ together1 (together s) = false ∧ together s ≠ [] ∧ ∀ x, has (together s) x ↔ has s x
  | [], h, _, _ => absurd rfl h
  | [a], _, h1, _ => ⟨h1, fun _ h => h, rfl, by simp [together], fun _ => Iff.rfl⟩
  | a :: b :: r, _, h1, h2 => by
    unfold together
    by_cases hb : b - 1 = a
    · rw [if_pos hb]
      obtain ⟨c1, c2, c3, c4, c5⟩ := together_spec (b :: r) (by simp) (List.Pairwise.of_cons h1) (fun x hx => h2 x (List.mem_cons_of_mem _ hx))
      refine ⟨c1, fun x hx => List.mem_cons_of_mem _ (c2 x hx), c3, c4, fun x => (c5 x).trans ?_⟩
      simp only [has, List.getD_cons_zero, List.mem_cons]
      constructor
      · rintro (h | rfl | h)
        · by_cases hx : x = b
          · exact .inr (.inr (.inl hx))
          · exact .inl (by omega)
        · exact .inr (.inr (.inl rfl))
        · exact .inr (.inr (.inr h))
      · rintro (h | rfl | rfl | h)
        · exact .inl (by omega)
        · exact .inl (by omega)
        · exact .inl (by omega)
        · exact .inr (.inr h)
    · rw [if_neg hb]
      refine ⟨h1, fun _ h => h, ?_, by simp, fun _ => Iff.rfl⟩
      simp [together1, hb]

theorem sorted_len : ∀ (s : List Int) (lo B : Int), s.Pairwise (· < ·) → (∀ x ∈ s, lo ≤ x ∧ x ≤ B) → (s.length : Int) ≤ max 0 (B + 1 - lo)
  | [], lo, B, _, _ => by simp; omega
  | a :: r, lo, B, h1, h2 => by
    have ha := h2 a List.mem_cons_self
    have := sorted_len r (a + 1) B (List.Pairwise.of_cons h1) (fun x hx => ⟨by have := (List.pairwise_cons.1 h1).1 x hx; omega, (h2 x (List.mem_cons_of_mem _ hx)).2⟩)
    simp only [List.length_cons]
    omega

theorem pos_split {m : List Int} (hs : m.Pairwise (· < ·)) (n : Int) (hn : n ∉ m) : (∀ x ∈ m.take (pos m n), x < n) ∧ (∀ x ∈ m.drop (pos m n), n < x) := by
  induction m with
  | nil => simp
  | cons a r ih =>
    have hr := List.Pairwise.of_cons hs
    have hna : n ≠ a := fun h => hn (h ▸ List.mem_cons_self)
    have hnr : n ∉ r := fun h => hn (List.mem_cons_of_mem _ h)
    by_cases h : a < n
    · have hp : pos (a :: r) n = pos r n + 1 := by simp [pos, h]
      rw [hp]
      obtain ⟨i1, i2⟩ := ih hr hnr
      simp only [List.take_succ_cons, List.drop_succ_cons]
      exact ⟨fun x hx => by rcases List.mem_cons.1 hx with rfl | hx; exact h; exact i1 x hx, i2⟩
    · have hall : ∀ x ∈ r, ¬ x < n := fun x hx => by have := (List.pairwise_cons.1 hs).1 x hx; omega
      have hp : pos (a :: r) n = 0 := by
        simp only [pos, List.length_eq_zero_iff, List.filter_eq_nil_iff]
        intro x hx
        rcases List.mem_cons.1 hx with rfl | hx
        · simpa using h
        · simpa using hall x hx
      rw [hp]
      refine ⟨by simp, fun x hx => ?_⟩
      rcases List.mem_cons.1 hx with rfl | hx
      · omega
      · have := hall x hx
        have : x ≠ n := fun e => hnr (e ▸ hx)
        omega

theorem fresh_old {l : List Int} {n : Int} (h1 : 1 ≤ n) (hh : has l n) : fresh l n = (l, false) := by
  unfold fresh
  by_cases hr : n < 1 ∨ right l = false
  · rw [if_pos hr]
  · rw [if_neg hr]
    have : n ∈ base0 l ∨ n ≤ (base0 l).getD 0 0 := by
      unfold base0
      split
      · rename_i h; subst h; rcases hh with h | h
        · exact .inr h
        · simp at h
      · rcases hh with h | h
        · exact .inr h
        · exact .inl h
    show (if _ then _ else _) = _
    rw [if_pos this]

theorem fresh_new {l : List Int} {n B : Int} (hr : right l = true) (h1 : 1 ≤ n) (hB : ∀ x ∈ l, x ≤ B) (hnB : n ≤ B) (hB2 : B ≤ 60) (hh : ¬ has l n) :
    ∃ r, fresh l n = (r, true) ∧ right r = true ∧ (∀ x ∈ r, x ≤ B) ∧ ∀ x, 1 ≤ x → (has r x ↔ has l x ∨ x = n) := by
  obtain ⟨hs, hp, h64⟩ := right_sorted hr
  obtain ⟨m, hm⟩ : ∃ m, m = base0 l := ⟨_, rfl⟩
  have hm0 : m ≠ [] := by rw [hm]; unfold base0; split <;> simp_all
  have hms : m.Pairwise (· < ·) ∧ (∀ x ∈ m, 0 ≤ x ∧ x ≤ B) := by
    rw [hm]; unfold base0; split
    · exact ⟨by simp, by simp; omega⟩
    · exact ⟨hs, fun x hx => ⟨hp x hx, hB x hx⟩⟩
  have hml : ∀ x, 1 ≤ x → (has m x ↔ has l x) := by
    intro x hx
    rw [hm]; unfold base0; split
    · rename_i h; subst h; simp [has]; omega
    · exact Iff.rfl
  have hnm : ¬ (n ∈ m ∨ n ≤ m.getD 0 0) := fun h => hh ((hml n h1).1 (h.elim .inr .inl))
  obtain ⟨p1, p2⟩ := pos_split hms.1 n (fun h => hnm (.inl h))
  obtain ⟨s, hsd⟩ : ∃ s, s = m.take (pos m n) ++ n :: m.drop (pos m n) := ⟨_, rfl⟩
  have hmem : ∀ x, x ∈ s ↔ x ∈ m ∨ x = n := by
    intro x
    have e : m = m.take (pos m n) ++ m.drop (pos m n) := (List.take_append_drop _ _).symm
    rw [hsd, List.mem_append, List.mem_cons]
    conv => rhs; rw [e, List.mem_append]
    constructor
    · rintro (h | rfl | h)
      · exact .inl (.inl h)
      · exact .inr rfl
      · exact .inl (.inr h)
    · rintro ((h | h) | rfl)
      · exact .inl h
      · exact .inr (.inr h)
      · exact .inr (.inl rfl)
  have hss : s.Pairwise (· < ·) := by
    rw [hsd, List.pairwise_append]
    refine ⟨hms.1.sublist (List.take_sublist _ _), ?_, ?_⟩
    · rw [List.pairwise_cons]
      exact ⟨p2, hms.1.sublist (List.drop_sublist _ _)⟩
    · intro x hx y hy
      have := p1 x hx
      rcases List.mem_cons.1 hy with rfl | hy
      · exact this
      · have := p2 y hy; omega
  have hs0 : s ≠ [] := by rw [hsd]; simp
  have hsn : ∀ x ∈ s, 0 ≤ x := fun x hx => by rcases (hmem x).1 hx with h | rfl; exact (hms.2 x h).1; omega
  have hsB : ∀ x ∈ s, x ≤ B := fun x hx => by rcases (hmem x).1 hx with h | rfl; exact (hms.2 x h).2; omega
  obtain ⟨t1, t2, t3, t4, t5⟩ := together_spec s hs0 hss hsn
  have hlen : (together s).length ≤ 64 := by
    have := sorted_len (together s) 0 B t1 (fun x hx => ⟨hsn x (t2 x hx), hsB x (t2 x hx)⟩)
    omega
  refine ⟨together s, ?_, mk_right t1 (fun x hx => hsn x (t2 x hx)) t3 hlen, fun x hx => hsB x (t2 x hx), fun x hx => (t5 x).trans ?_⟩
  · unfold fresh
    rw [if_neg (by rw [hr]; simp; omega)]
    show (if n ∈ base0 l ∨ n ≤ (base0 l).getD 0 0 then (l, false) else if 64 < (together ((base0 l).take (pos (base0 l) n) ++ n :: (base0 l).drop (pos (base0 l) n))).length then (l, false) else (together ((base0 l).take (pos (base0 l) n) ++ n :: (base0 l).drop (pos (base0 l) n)), true)) = _
    rw [← hm, if_neg hnm, ← hsd, if_neg (by omega)]
  · rw [← hml x hx]
    have hhead : s.getD 0 0 = m.getD 0 0 := by
      obtain ⟨a, r, rfl⟩ := List.exists_cons_of_ne_nil hm0
      have hpos : pos (a :: r) n = pos r n + 1 := by
        have : a < n := by have := fun h => hnm (.inr h); simp at this; omega
        simp [pos, this]
      rw [hsd, hpos]; simp
    unfold has
    rw [hhead, hmem x]
    constructor
    · rintro (h | h | h)
      · exact .inl (.inl h)
      · exact .inl (.inr h)
      · exact .inr h
    · rintro ((h | h) | h)
      · exact .inl h
      · exact .inr (.inl h)
      · exact .inr (.inr h)

theorem has_all {l : List Int} {k : Int} (hr : right l = true) (h1 : 1 ≤ k) (hk : ∀ x ∈ l, x ≤ k) (hall : ∀ x, 1 ≤ x → x ≤ k → has l x) : l = [k] := by
  obtain ⟨hs, hp, _⟩ := right_sorted hr
  match l, hr, hk, hall, hs, hp with
  | [], _, _, hall, _, _ => have := hall k h1 (Int.le_refl _); simp [has] at this; omega
  | [a], _, hk, hall, _, _ =>
    have h2 := hk a (by simp)
    have := hall k h1 (Int.le_refl _)
    simp [has] at this
    congr 1; omega
  | a :: b :: r, hr, hk, hall, hs, hp =>
    have hg := right_gap hr (by simp)
    simp at hg
    have hb := hk b (by simp)
    have ha := hp a (by simp)
    have := hall (a + 1) (by omega) (by omega)
    simp only [has, List.getD_cons_zero, List.mem_cons] at this
    rcases this with h | h | h | h
    · omega
    · omega
    · omega
    · have := (List.pairwise_cons.1 (List.Pairwise.of_cons hs)).1 _ h; omega

end Go.Proofs.Ytglmdoghknpgkaa
