/- Texts of this proof, laid together: RgM, RgN, RgO, RgW, RgX, RgZ, RgR, RgS, RgH, RgJ, Shelf, RgC, SymOld, RgD, RgE, RgF, RgK, RgT, IxI, ClnArc, SymEnt, SymFam, RgG, RgU, IxA, TbA, TbF, DkShelf, DkB, ApiEnc, IdxMark, ClnMsg, ClnHeld, ClnMark, ShardA, Keys, ShardB. -/
import Derived.Test.YtbogfmgfafdjiaaGreatDoorMuB
import Derived.Shelf.SlSortCmp.WholeK
import Derived.Test.YtbogfmgfafdjiaaGreatDoorProg
import Derived.WalkKit
import Derived.LoopN
import Derived.StillTailTactics
import Derived.Shelf.Strings.SlTrimAscii
import Derived.Shelf.Strconv.Atoi
import Derived.Shelf.Strings.SplitCore
import Derived.Shelf.Strings.Search1
import Derived.Shelf.Strings.Search2
import Derived.Shelf.Strings.Search3
import Derived.Shelf.Strings.Count
import Derived.Shelf.Strings.Builder1
import Derived.DeepKeys4
/- Arcs by places, and in plain words. -/
namespace Go.Proofs.YtbogfmgfafdjiaaGreatDoor
set_option linter.unusedVariables false
set_option linter.unusedSimpArgs false
set_option maxHeartbeats 8000000
open Go.RowKit

def inc (l : List Arc) : Prop := l.Pairwise fun a b => a.at0 < b.at0
structure Fit (l : List Arc) : Prop where
  may : MayA l
  fit : ∀ a ∈ l, 0 ≤ a.at0 ∧ a.at0 < 4294967296
theorem Fit.inc {l : List Arc} (h : Fit l) : inc l := List.pairwise_iff_getElem.2 fun i j hi hj hij => by
  have := h.may.up i j hij hj
  rwa [getD_get hi, getD_get hj] at this
def E0 (l : List Arc) : Int := (l.getD 0 default).at0 + 4294967296
theorem ups_of : ∀ {l : List Arc} {E : Int}, inc l → (∀ a ∈ l, a.at0 < E) → ups l E
  | [], _, _, _ => trivial
  | a :: t, E, h, hE => by
    have h' := List.pairwise_cons.1 h
    refine ⟨?_, ups_of h'.2 fun x hx => hE x (List.mem_cons_of_mem _ hx)⟩
    cases t with
    | nil => exact hE a List.mem_cons_self
    | cons b t => exact h'.1 b List.mem_cons_self
theorem ups_lt : ∀ {l : List Arc} {E : Int}, ups l E → hd l E ≤ E ∧ ∀ a ∈ l, hd l E ≤ a.at0 ∧ a.at0 < E
  | [], E, _ => ⟨Int.le_refl _, by simp⟩
  | a :: t, E, h => by
    have ih := ups_lt h.2
    have h1 := h.1
    refine ⟨by show a.at0 ≤ E; omega, fun x hx => ?_⟩
    show a.at0 ≤ x.at0 ∧ _
    rcases List.mem_cons.1 hx with rfl | hx
    · omega
    · have := ih.2 x hx
      omega
theorem inc_of : ∀ {l : List Arc} {E : Int}, ups l E → inc l
  | [], _, _ => List.Pairwise.nil
  | a :: t, E, h => List.pairwise_cons.2 ⟨fun b hb => by
      have := (ups_lt h.2).2 b hb
      have := h.1
      omega, inc_of h.2⟩
theorem Fit.e0 {l : List Arc} (h : Fit l) : 4294967296 ≤ E0 l ∧ hd l (E0 l) = E0 l - 4294967296 ∧ ∀ a ∈ l, a.at0 < E0 l := by
  have h1 := h.may.one
  cases l with
  | nil => simp at h1
  | cons b t =>
    have := h.fit b List.mem_cons_self
    have e : E0 (b :: t) = b.at0 + 4294967296 := rfl
    rw [e]
    exact ⟨by omega, by show b.at0 = _; omega, fun a ha => by have := h.fit a ha; omega⟩
theorem Fit.ups {l : List Arc} (h : Fit l) : ups l (E0 l) := ups_of h.inc h.e0.2.2

/-- An arc's width. -/
def widA (l : List Arc) (k : Nat) : Int := if l.length = 1 then 4294967296 else wayF (l.getD k default).at0 (l.getD ((k + 1) % l.length) default).at0
theorem way_eq (a b : Int) : wayF a b = (b - a) % 4294967296 := rfl
theorem hd_drop {l : List Arc} {k : Nat} (E : Int) : hd (l.drop k) E = if k < l.length then (l.getD k default).at0 else E := by
  split
  · rename_i h
    rw [List.drop_eq_getElem_cons h, getD_get h]
    rfl
  · rw [List.drop_eq_nil_of_le (by omega)]
    rfl
theorem widA_eq {l : List Arc} (h : Fit l) {k : Nat} (hk : k < l.length) : widA l k = hd (l.drop (k + 1)) (E0 l) - (l.getD k default).at0 := by
  have f : ∀ i, i < l.length → 0 ≤ (l.getD i default).at0 ∧ (l.getD i default).at0 < 4294967296 := fun i hi => h.fit _ (by rw [getD_get hi]; exact List.getElem_mem _)
  rw [widA, hd_drop]
  by_cases h1 : l.length = 1
  · rw [if_pos h1, if_neg (by omega), E0]
    obtain rfl : k = 0 := by omega
    omega
  · rw [if_neg h1, way_eq]
    have fk := f k hk
    by_cases h2 : k + 1 < l.length
    · rw [if_pos h2, Nat.mod_eq_of_lt h2]
      have := h.may.up k (k + 1) (by omega) h2
      have := f (k + 1) h2
      omega
    · have e : k + 1 = l.length := by omega
      rw [if_neg h2, e, Nat.mod_self, E0]
      have := h.may.up 0 k (by omega) hk
      have := f 0 (by omega)
      omega
def shareTo (l : List Arc) (s : Int) : Nat → Int
  | 0 => 0
  | k + 1 => shareTo l s k + if (l.getD k default).shard = s then widA l k else 0
def shareA (l : List Arc) (s : Int) : Int := if mayA l then shareTo l s l.length else 0
theorem shareTo_eq {l : List Arc} (h : Fit l) (s : Int) : ∀ k, k ≤ l.length → shareTo l s k + shr (l.drop k) (E0 l) s = shr l (E0 l) s
  | 0, _ => by rw [shareTo]; simp
  | k + 1, hk => by
    have ih := shareTo_eq h s k (by omega)
    rw [List.drop_eq_getElem_cons (show k < l.length by omega), shr] at ih
    rw [shareTo, widA_eq h (by omega), getD_get (show k < l.length by omega)]
    omega
theorem shareA_eq {l : List Arc} (h : Fit l) (hm : mayA l = true) (s : Int) : shareA l s = shr l (E0 l) s := by
  have := shareTo_eq h s l.length (Nat.le_refl _)
  rw [List.drop_length, shr] at this
  rw [shareA, if_pos hm]
  omega

/-- Owners. -/
theorem own_at : ∀ {l : List Arc} {E p : Int} {lo : Nat}, 1 ≤ lo → lo ≤ l.length → (∀ i, i < lo → (l.getD i default).at0 ≤ p) → (∀ i, lo ≤ i → i < l.length → p < (l.getD i default).at0) → p < E → own l E p = (l.getD (lo - 1) default).shard
  | [], _, _, lo, h1, h2, _, _, _ => by simp at h2; omega
  | a :: t, E, p, 1, h1, h2, h3, h4, h5 => by
    have : p < hd t E := by
      cases t with
      | nil => exact h5
      | cons b t => exact h4 1 (by omega) (by simp)
    rw [own, if_pos this]
    rfl
  | a :: t, E, p, lo + 2, h1, h2, h3, h4, h5 => by
    have hl : lo + 1 ≤ t.length := by simpa using h2
    have : ¬ p < hd t E := by
      cases t with
      | nil => simp at hl
      | cons b t => have := h3 1 (by omega); exact Int.not_lt.2 this
    rw [own, if_neg this, own_at (lo := lo + 1) (by omega) hl (fun i hi => h3 (i + 1) (by omega)) (fun i hi hil => h4 (i + 1) (by omega) (by simpa using hil)) h5]
    rfl
theorem ex_lo : ∀ {l : List Arc} (p : Int), inc l → ∃ lo, lo ≤ l.length ∧ (∀ i, i < lo → (l.getD i default).at0 ≤ p) ∧ ∀ i, lo ≤ i → i < l.length → p < (l.getD i default).at0
  | [], _, _ => ⟨0, by simp, by simp, by simp⟩
  | a :: t, p, h => by
    have h' := List.pairwise_cons.1 h
    by_cases ha : a.at0 ≤ p
    · obtain ⟨lo, h1, h2, h3⟩ := ex_lo p h'.2
      refine ⟨lo + 1, by simpa using h1, fun i hi => ?_, fun i hi hil => ?_⟩
      · cases i with
        | zero => exact ha
        | succ i => exact h2 i (by omega)
      · cases i with
        | zero => omega
        | succ i => exact h3 i (by omega) (by simpa using hil)
    · refine ⟨0, Nat.zero_le _, by simp, fun i _ hil => ?_⟩
      cases i with
      | zero => exact Int.not_le.1 ha
      | succ i =>
        have hil : i < t.length := by simpa using hil
        have := h'.1 t[i] (List.getElem_mem _)
        show p < (t.getD i default).at0
        rw [getD_get hil]
        omega
def lift (l : List Arc) (p : Int) : Int := if p < (l.getD 0 default).at0 then p + 4294967296 else p
theorem owner_eq {l : List Arc} (h : Fit l) (hm : mayA l = true) {p : Int} (p0 : 0 ≤ p) (p1 : p < 4294967296) : ownerA l p = own l (E0 l) (lift l p) ∧ lift l p < E0 l ∧ hd l (E0 l) ≤ lift l p := by
  obtain ⟨lo, h1, h2, h3⟩ := ex_lo p h.inc
  have hl := plcTo_lo h2 (fun i hi hil => Int.not_le.2 (h3 i hi hil)) l.length (Nat.le_refl _) h1
  have hone := h.may.one
  have he := h.e0
  have f0 := h.fit _ (show l.getD 0 default ∈ l by rw [getD_get (show 0 < l.length by omega)]; exact List.getElem_mem _)
  have e : E0 l = (l.getD 0 default).at0 + 4294967296 := rfl
  rw [ownerA, if_pos hm, placeA, hl, lift]
  by_cases hz : lo = 0
  · subst hz
    have h0 := h3 0 (by omega) (by omega)
    rw [if_pos rfl, if_pos h0]
    refine ⟨(own_at (lo := l.length) hone (Nat.le_refl _) (fun i hi => ?_) (fun i hi hil => by omega) (by omega)).symm, by omega, by omega⟩
    have := h.fit _ (show l.getD i default ∈ l by rw [getD_get hi]; exact List.getElem_mem _)
    omega
  · have h0 := h2 0 (by omega)
    rw [if_neg hz, if_neg (by omega)]
    exact ⟨(own_at (by omega) h1 h2 h3 (by omega)).symm, by omega, by omega⟩
end Go.Proofs.YtbogfmgfafdjiaaGreatDoor

/- A halved ring. -/
namespace Go.Proofs.YtbogfmgfafdjiaaGreatDoor
set_option linter.unusedVariables false
set_option linter.unusedSimpArgs false
set_option maxHeartbeats 8000000
open Go.RowKit

theorem mayA_to {l : List Arc} (h : MayA l) : mayA l = true := by
  have h1 := h.one
  have h2 := h.most
  unfold mayA fitA
  rw [Bool.and_eq_true, Bool.not_eq_true', Bool.or_eq_false_iff, decide_eq_false_iff_not, decide_eq_false_iff_not, List.all_eq_true]
  refine ⟨⟨by omega, by omega⟩, fun i hi => ?_⟩
  have hi := List.mem_range.1 hi
  have hs := h.shard i hi
  simp only [badA, Bool.not_eq_true', Bool.or_eq_false_iff, Bool.and_eq_false_iff, decide_eq_false_iff_not]
  refine ⟨by omega, ?_⟩
  by_cases h0 : i = 0
  · exact .inl (by omega)
  · have := h.up (i - 1) i (by omega) hi
    exact .inr (by omega)
theorem may_to {l : List Arc} (h1 : 1 ≤ l.length) (h2 : l.length ≤ 1024) (hs : ∀ a ∈ l, 0 ≤ a.shard ∧ a.shard < 16) (hi : inc l) : MayA l :=
  ⟨h1, h2, fun i hi => hs _ (by rw [getD_get hi]; exact List.getElem_mem _), fun i j hij hj => by
    have := List.pairwise_iff_getElem.1 hi i j (by omega) hj hij
    rwa [getD_get (by omega), getD_get hj]⟩
theorem inc_eq {l m : List Arc} (h1 : inc l) (h2 : inc m) (hp : l.Perm m) : l = m :=
  hp.eq_of_pairwise (le := fun a b : Arc => a.at0 < b.at0) (fun a b _ _ x y => absurd (Int.lt_trans x y) (Int.lt_irrefl _)) h1 h2
theorem inc_split : ∀ {h : List Arc} (M : Int), inc h → h = h.filter (fun a => decide (a.at0 < M)) ++ h.filter (fun a => decide (¬ a.at0 < M))
  | [], _, _ => rfl
  | a :: t, M, h => by
    have h' := List.pairwise_cons.1 h
    have ih := inc_split M h'.2
    by_cases ha : a.at0 < M
    · rw [List.filter_cons_of_pos (by simpa using ha), List.filter_cons_of_neg (by simpa using ha), List.cons_append, ← ih]
    · have hn : t.filter (fun a => decide (a.at0 < M)) = [] := List.filter_eq_nil_iff.2 fun x hx => by
        have := h'.1 x hx
        simp only [decide_eq_true_eq]
        omega
      rw [List.filter_cons_of_neg (by simpa using ha), List.filter_cons_of_pos (by simpa using ha), hn, List.nil_append]
      rw [hn, List.nil_append] at ih
      rw [← ih]
theorem own_app : ∀ {X Y : List Arc} {E p : Int}, X ≠ [] → ups (X ++ Y) E → own (X ++ Y) E p = if p < hd Y E then own X (hd Y E) p else own Y E p
  | [], _, _, _, h, _ => absurd rfl h
  | [a], Y, E, p, _, _ => by
    show (if p < hd Y E then a.shard else own Y E p) = if p < hd Y E then (if p < hd Y E then a.shard else own [] _ p) else _
    by_cases h : p < hd Y E
    · rw [if_pos h, if_pos h, if_pos h]
    · rw [if_neg h, if_neg h]
  | a :: b :: t, Y, E, p, _, hu => by
    have ih := own_app (X := b :: t) (Y := Y) (E := E) (p := p) (by simp) hu.2
    have hb : b.at0 < hd Y E := by
      have h2 := hu.2
      have hl := ups_lt h2
      cases Y with
      | nil => exact (hl.2 b (by simp)).2
      | cons y Y =>
        have hi := inc_of h2
        have hi : List.Pairwise (fun a b : Arc => a.at0 < b.at0) (b :: (t ++ y :: Y)) := hi
        exact (List.pairwise_cons.1 hi).1 y (by simp)
    have e1 : own (a :: b :: t ++ Y) E p = if p < b.at0 then a.shard else own (b :: t ++ Y) E p := rfl
    have e2 : own (a :: b :: t) (hd Y E) p = if p < b.at0 then a.shard else own (b :: t) (hd Y E) p := rfl
    rw [e1, e2, ih]
    by_cases h1 : p < b.at0
    · rw [if_pos h1, if_pos (show p < hd Y E by omega), if_pos h1]
    · rw [if_neg h1, if_neg h1]
theorem hd_app (t Y : List Arc) (E : Int) : hd (t ++ Y) E = hd t (hd Y E) := by cases t <;> rfl
theorem shr_app : ∀ (X Y : List Arc) (E s : Int), shr (X ++ Y) E s = shr X (hd Y E) s + shr Y E s
  | [], Y, E, s => by simp [shr]
  | a :: t, Y, E, s => by
    rw [List.cons_append, shr, shr, shr_app t Y E s, hd_app]
    omega
def wrap (a : Arc) : Arc := ⟨a.at0 - 4294967296, a.shard⟩
theorem hd_wrap (Y : List Arc) (E : Int) : hd (Y.map wrap) (E - 4294967296) = hd Y E - 4294967296 := by cases Y <;> rfl
theorem shr_wrap : ∀ (Y : List Arc) (E s : Int), shr (Y.map wrap) (E - 4294967296) s = shr Y E s
  | [], _, _ => rfl
  | a :: t, E, s => by
    rw [List.map_cons, shr, shr, shr_wrap t E s, hd_wrap]
    show (if a.shard = s then hd t E - 4294967296 - (a.at0 - 4294967296) else 0) + _ = _
    rw [show hd t E - 4294967296 - (a.at0 - 4294967296) = hd t E - a.at0 by omega]
theorem own_wrap : ∀ (Y : List Arc) (E p : Int), own (Y.map wrap) (E - 4294967296) p = own Y E (p + 4294967296)
  | [], _, _ => rfl
  | a :: t, E, p => by
    rw [List.map_cons, own, own, own_wrap t E p, hd_wrap]
    show (if p < hd t E - 4294967296 then a.shard else _) = _
    by_cases h : p < hd t E - 4294967296
    · rw [if_pos h, if_pos (by omega)]
    · rw [if_neg h, if_neg (by omega)]

/-- What goes over the end stands ahead. -/
def rot (h : List Arc) : List Arc := (h.filter fun a => decide (¬ a.at0 < 4294967296)).map wrap ++ h.filter fun a => decide (a.at0 < 4294967296)
structure Turn (h : List Arc) (E : Int) : Prop where
  ups : ups h E
  e1 : hd h E = E - 4294967296
  e2 : 0 ≤ hd h E
  e3 : hd h E < 4294967296
theorem Turn.parts {h : List Arc} {E : Int} (t : Turn h E) : ∃ X Y, h = X ++ Y ∧ rot h = Y.map wrap ++ X ∧ X ≠ [] ∧ (∀ a ∈ X, E - 4294967296 ≤ a.at0 ∧ a.at0 < 4294967296) ∧ (∀ a ∈ Y, 4294967296 ≤ a.at0 ∧ a.at0 < E) := by
  have hl := ups_lt t.ups
  have e1 := t.e1
  have e3 := t.e3
  refine ⟨_, _, inc_split 4294967296 (inc_of t.ups), rfl, ?_, fun a ha => ?_, fun a ha => ?_⟩
  · cases h with
    | nil => have h1 : hd [] E = E := rfl; omega
    | cons b t' =>
      have h1 : hd (b :: t') E = b.at0 := rfl
      rw [List.filter_cons_of_pos (by simp only [decide_eq_true_eq]; omega)]
      simp
  · obtain ⟨h1, h2⟩ := List.mem_filter.1 ha
    have := hl.2 a h1
    simp only [decide_eq_true_eq] at h2
    omega
  · obtain ⟨h1, h2⟩ := List.mem_filter.1 ha
    have := hl.2 a h1
    simp only [decide_eq_true_eq] at h2
    omega
theorem inc_wrap {Y : List Arc} (h : inc Y) : inc (Y.map wrap) := List.pairwise_map.2 (h.imp fun {a b} hab => by
  show a.at0 - 4294967296 < b.at0 - 4294967296
  omega)
theorem rot_facts {h : List Arc} {E : Int} (t : Turn h E) : inc (rot h) ∧ (∀ a ∈ rot h, 0 ≤ a.at0 ∧ a.at0 < 4294967296) ∧ (rot h).length = h.length ∧ (∀ a ∈ rot h, ∃ b ∈ h, a.shard = b.shard) ∧ (∀ s, shr (rot h) (E0 (rot h)) s = shr h E s) ∧
    ∀ p, 0 ≤ p → p < 4294967296 → own (rot h) (E0 (rot h)) (lift (rot h) p) = own h E (if p < hd h E then p + 4294967296 else p) := by
  obtain ⟨X, Y, hh, hr, hX, x1, y1⟩ := t.parts
  have hu := t.ups
  have e1 := t.e1
  have e2 := t.e2
  have e3 := t.e3
  have hi := inc_of hu
  rw [hh] at hi
  have hi := List.pairwise_append.1 hi
  obtain ⟨c, X', rfl⟩ : ∃ c X', X = c :: X' := by
    cases X with
    | nil => exact absurd rfl hX
    | cons c X' => exact ⟨c, X', rfl⟩
  have hc : c.at0 = E - 4294967296 := by
    rw [hh] at e1
    exact e1
  rw [hr]
  refine ⟨?_, ?_, ?_, ?_, ?_, ?_⟩
  · refine List.pairwise_append.2 ⟨inc_wrap hi.2.1, hi.1, fun a ha b hb => ?_⟩
    obtain ⟨z, hz, rfl⟩ := List.mem_map.1 ha
    have h1 := y1 z hz
    have h2 := x1 b hb
    show z.at0 - 4294967296 < b.at0
    omega
  · intro a ha
    rcases List.mem_append.1 ha with ha | ha
    · obtain ⟨z, hz, rfl⟩ := List.mem_map.1 ha
      have h1 := y1 z hz
      show 0 ≤ z.at0 - 4294967296 ∧ z.at0 - 4294967296 < 4294967296
      omega
    · have := x1 a ha
      omega
  · rw [hh]
    simp only [List.length_append, List.length_map]
    omega
  · intro a ha
    rcases List.mem_append.1 ha with ha | ha
    · obtain ⟨z, hz, rfl⟩ := List.mem_map.1 ha
      exact ⟨z, by rw [hh]; exact List.mem_append_right _ hz, rfl⟩
    · exact ⟨a, by rw [hh]; exact List.mem_append_left _ ha, rfl⟩
  · intro s
    cases Y with
    | nil =>
      have e : E0 (c :: X') = E := by show c.at0 + 4294967296 = E; omega
      rw [hh, List.append_nil]
      show shr (c :: X') (E0 (c :: X')) s = _
      rw [e]
    | cons y Y =>
      have hy := y1 y List.mem_cons_self
      have e : E0 ((y :: Y).map wrap ++ c :: X') = y.at0 := by show y.at0 - 4294967296 + 4294967296 = _; omega
      have ec : hd (c :: X') y.at0 = E - 4294967296 := hc
      rw [e, hh, shr_app, shr_app, ec, shr_wrap]
      show _ = shr (c :: X') y.at0 s + _
      omega
  · intro p p0 p1
    have hd1 : hd h E = E - 4294967296 := e1
    rw [hd1]
    cases Y with
    | nil =>
      have e : E0 (c :: X') = E := by show c.at0 + 4294967296 = E; omega
      have el : lift (c :: X') p = if p < E - 4294967296 then p + 4294967296 else p := by rw [← hc]; rfl
      rw [hh, List.append_nil]
      show own (c :: X') (E0 (c :: X')) (lift (c :: X') p) = _
      rw [e, el]
    | cons y Y =>
      have hy := y1 y List.mem_cons_self
      have e : E0 ((y :: Y).map wrap ++ c :: X') = y.at0 := by show y.at0 - 4294967296 + 4294967296 = _; omega
      have el : lift ((y :: Y).map wrap ++ c :: X') p = if p < y.at0 - 4294967296 then p + 4294967296 else p := rfl
      have ec : hd (c :: X') y.at0 = E - 4294967296 := hc
      have hu2 : ups ((y :: Y).map wrap ++ c :: X') y.at0 := ups_of (List.pairwise_append.2 ⟨inc_wrap hi.2.1, hi.1, fun a ha b hb => by
          obtain ⟨z, hz, rfl⟩ := List.mem_map.1 ha
          have h1 := y1 z hz
          have h2 := x1 b hb
          show z.at0 - 4294967296 < b.at0
          omega⟩) (fun a ha => by
        rcases List.mem_append.1 ha with ha | ha
        · obtain ⟨z, hz, rfl⟩ := List.mem_map.1 ha
          have h1 := y1 z hz
          show z.at0 - 4294967296 < y.at0
          omega
        · exact hi.2.2 a ha y List.mem_cons_self)
      rw [e, el, own_app (by simp) hu2, ec, own_wrap, hh, own_app (by simp) (by rw [← hh]; exact hu)]
      show _ = if _ < y.at0 then own (c :: X') y.at0 _ else own (y :: Y) E _
      by_cases h1 : p < y.at0 - 4294967296
      · rw [if_pos h1, if_neg (by omega), if_pos (show p < E - 4294967296 by omega), if_pos (by omega)]
      · rw [if_neg h1]
        by_cases h2 : p < E - 4294967296
        · rw [if_pos h2, if_pos h2, if_neg (by omega)]
        · rw [if_neg h2, if_neg h2, if_pos (by omega)]
end Go.Proofs.YtbogfmgfafdjiaaGreatDoor

/- Halving, in plain words. -/
namespace Go.Proofs.YtbogfmgfafdjiaaGreatDoor
set_option linter.unusedVariables false
set_option linter.unusedSimpArgs false
set_option maxHeartbeats 8000000
open Go.RowKit

def hvS (l : List Arc) (s o : Int) : List Arc := rot (hv l (E0 l) s o)
theorem hv_len : ∀ (l : List Arc) (E s o : Int), l.length ≤ (hv l E s o).length ∧ (hv l E s o).length ≤ 2 * l.length
  | [], _, _, _ => by simp [hv]
  | a :: t, E, s, o => by
    have ih := hv_len t E s o
    rw [hv, hvE]
    split <;> simp only [List.length_cons, List.length_append, List.length_nil] <;> omega
theorem hv_shard : ∀ (l : List Arc) (E s o : Int), ∀ a ∈ hv l E s o, a.shard = o ∨ a ∈ l
  | [], _, _, _, a, h => by cases h
  | b :: t, E, s, o, a, h => by
    rw [hv] at h
    rcases List.mem_cons.1 h with rfl | h
    · exact .inr List.mem_cons_self
    rcases List.mem_append.1 h with h | h
    · unfold hvE at h
      split at h
      · rw [List.mem_singleton.1 h]
        exact .inl rfl
      · cases h
    · exact (hv_shard t E s o a h).imp id (List.mem_cons_of_mem _)
theorem Fit.turn {l : List Arc} (h : Fit l) (s o : Int) : Turn (hv l (E0 l) s o) (E0 l) := by
  have he := h.e0
  have h1 := h.may.one
  have f0 := h.fit _ (show l.getD 0 default ∈ l by rw [getD_get (show 0 < l.length by omega)]; exact List.getElem_mem _)
  have e : E0 l = (l.getD 0 default).at0 + 4294967296 := rfl
  exact ⟨ups_hv _ _ _ _ h.ups, by rw [hd_hv]; exact he.2.1, by rw [hd_hv]; omega, by rw [hd_hv]; omega⟩
theorem hvS_fit {l : List Arc} (h : Fit l) {s o : Int} (o0 : 0 ≤ o) (o1 : o < 16) (hl : 2 * l.length ≤ 1024) : Fit (hvS l s o) := by
  obtain ⟨r1, r2, r3, r4, -, -⟩ := rot_facts (h.turn s o)
  have hn := hv_len l (E0 l) s o
  have h1 := h.may.one
  refine ⟨may_to (by unfold hvS; omega) (by unfold hvS; omega) (fun a ha => ?_) r1, r2⟩
  obtain ⟨b, hb, e⟩ := r4 a ha
  rw [e]
  rcases hv_shard _ _ _ _ b hb with h2 | h2
  · omega
  · obtain ⟨i, hi, rfl⟩ := List.mem_iff_getElem.1 h2
    have := h.may.shard i hi
    rwa [getD_get hi] at this
theorem hvS_share {l : List Arc} (h : Fit l) {s o : Int} (o0 : 0 ≤ o) (o1 : o < 16) (hl : 2 * l.length ≤ 1024) (x : Int) : shareA (hvS l s o) x = shr (hv l (E0 l) s o) (E0 l) x := by
  have hf := hvS_fit h (s := s) o0 o1 hl
  rw [shareA_eq hf (mayA_to hf.may)]
  exact (rot_facts (h.turn s o)).2.2.2.2.1 x
theorem hvS_owner {l : List Arc} (h : Fit l) {s o : Int} (o0 : 0 ≤ o) (o1 : o < 16) (hl : 2 * l.length ≤ 1024) {p : Int} (p0 : 0 ≤ p) (p1 : p < 4294967296) :
    ownerA (hvS l s o) p = ownerA l p ∨ ownerA l p = s ∧ ownerA (hvS l s o) p = o := by
  have hf := hvS_fit h (s := s) o0 o1 hl
  obtain ⟨a1, -, -⟩ := owner_eq hf (mayA_to hf.may) p0 p1
  obtain ⟨b1, b2, b3⟩ := owner_eq h (mayA_to h.may) p0 p1
  have c := (rot_facts (h.turn s o)).2.2.2.2.2 p p0 p1
  have e : (if p < hd (hv l (E0 l) s o) (E0 l) then p + 4294967296 else p) = lift l p := by
    rw [hd_hv, h.e0.2.1, lift]
    have : E0 l - 4294967296 = (l.getD 0 default).at0 := by unfold E0; omega
    rw [this]
  rw [e] at c
  rw [a1, b1]
  unfold hvS
  rw [c]
  exact own_hv l (E0 l) s o (lift l p) b2

/-- The new arcs, one by one. -/
def exE (l : List Arc) (s o : Int) (k : Nat) : List Arc := if (l.getD k default).shard = s ∧ widA l k ≥ 2 then [⟨((l.getD k default).at0 + widA l k / 2) % 4294967296, o⟩] else []
def exTo (l : List Arc) (s o : Int) : Nat → List Arc
  | 0 => []
  | k + 1 => exTo l s o k ++ exE l s o k
def exR : List Arc → Int → Int → Int → List Arc
  | [], _, _, _ => []
  | a :: t, E, s, o => hvE a (hd t E) s o ++ exR t E s o
def low32 (a : Arc) : Arc := if a.at0 < 4294967296 then a else wrap a
theorem hv_perm : ∀ (l : List Arc) (E s o : Int), (hv l E s o).Perm (l ++ exR l E s o)
  | [], _, _, _ => List.Perm.refl _
  | a :: t, E, s, o => by
    have ih := hv_perm t E s o
    rw [hv, exR, List.cons_append]
    refine List.Perm.cons _ ((List.Perm.append_left _ ih).trans ?_)
    rw [← List.append_assoc, ← List.append_assoc]
    exact List.Perm.append_right _ List.perm_append_comm
theorem rot_perm : ∀ (h : List Arc), (rot h).Perm (h.map low32)
  | [] => List.Perm.refl _
  | a :: t => by
    have ih := rot_perm t
    unfold rot at ih ⊢
    rw [List.map_cons, low32]
    by_cases ha : a.at0 < 4294967296
    · rw [List.filter_cons_of_neg (by simpa using ha), List.filter_cons_of_pos (by simpa using ha), if_pos ha]
      exact List.perm_middle.trans (List.Perm.cons _ ih)
    · rw [List.filter_cons_of_pos (by simpa using ha), List.filter_cons_of_neg (by simpa using ha), if_neg ha]
      exact List.Perm.cons _ ih
theorem exTo_eq {l : List Arc} (h : Fit l) (s o : Int) : ∀ k, k ≤ l.length → exTo l s o k ++ (exR (l.drop k) (E0 l) s o).map low32 = (exR l (E0 l) s o).map low32
  | 0, _ => by rw [exTo]; simp
  | k + 1, hk => by
    have ih := exTo_eq h s o k (by omega)
    have hk' : k < l.length := by omega
    rw [List.drop_eq_getElem_cons hk', exR, List.map_append] at ih
    rw [← ih, exTo, List.append_assoc]
    congr 2
    have hw := widA_eq h hk'
    have hu := h.ups
    have f := h.fit _ (show l.getD k default ∈ l by rw [getD_get hk']; exact List.getElem_mem _)
    have he := h.e0
    have hhd : hd (l.drop (k + 1)) (E0 l) ≤ E0 l := by
      rw [hd_drop]
      split
      · rename_i h2
        have := he.2.2 _ (show l.getD (k + 1) default ∈ l by rw [getD_get h2]; exact List.getElem_mem _)
        omega
      · exact Int.le_refl _
    have f0 := h.fit _ (show l.getD 0 default ∈ l by rw [getD_get (show 0 < l.length by omega)]; exact List.getElem_mem _)
    have e : E0 l = (l.getD 0 default).at0 + 4294967296 := rfl
    rw [exE, hvE, ← getD_get hk', ← hw]
    split
    · rename_i hc
      have hq : (l.getD k default).at0 + widA l k / 2 < E0 l := by omega
      show [_] = [low32 _]
      unfold low32
      by_cases h3 : (l.getD k default).at0 + widA l k / 2 < 4294967296
      · rw [if_pos h3, Int.emod_eq_of_lt (by omega) h3]
      · rw [if_neg h3]
        exact congrArg (fun z => [(⟨z, o⟩ : Arc)]) (show ((l.getD k default).at0 + widA l k / 2) % 4294967296 = (l.getD k default).at0 + widA l k / 2 - 4294967296 by omega)
    · rfl
theorem hvS_perm {l : List Arc} (h : Fit l) (s o : Int) : (hvS l s o).Perm (l ++ exTo l s o l.length) := by
  have h1 := exTo_eq h s o l.length (Nat.le_refl _)
  rw [List.drop_length, exR, List.map_nil, List.append_nil] at h1
  have h2 : l.map low32 = l := by
    rw [List.map_congr_left (g := id) fun a ha => ?_, List.map_id]
    rw [low32, if_pos (h.fit a ha).2]
    rfl
  refine (rot_perm _).trans (((hv_perm l (E0 l) s o).map low32).trans ?_)
  rw [List.map_append, h2, h1]
end Go.Proofs.YtbogfmgfafdjiaaGreatDoor

/- Widths and shares, walked. -/
namespace Go.Proofs.YtbogfmgfafdjiaaGreatDoor
set_option linter.unusedVariables false
set_option linter.unusedSimpArgs false
set_option maxHeartbeats 8000000
open Go.RowKit
set_option maxRecDepth 4000

theorem tmod_nat (k n : Nat) : ((k : Int) + 1).tmod n = (((k + 1) % n : Nat) : Int) := by
  rw [Int.tmod_eq_emod_of_nonneg (by omega)]
  rfl
theorem u64_u32 (a b : Int) : IntKind.u64.wrap (wayF a b) = wayF a b := by
  have e : ∀ z, IntKind.u64.wrap z = z % 18446744073709551616 := fun _ => rfl
  rw [e, way_eq]
  omega
theorem width_p (l : List Arc) (k : Nat) (hk : k < l.length) (hl : l.length ≤ 1024) : PFn Tryz.prog 252 [arcs l, .v (.int .i64 k)] (.v (.int .u64 (widA l k))) := by
  have hm : (k + 1) % l.length < l.length := Nat.mod_lt _ (by omega)
  have ht := tmod_nat k l.length
  refine FnC.intro Tryz.func252 rfl Tryz.ntmps252 rfl ?_; intro off w0
  ((repeat refine S.seq ?_); refine wG (k := ?_); try (refine L.nil ?_))
  ((repeat refine S.seq ?_); refine wG (k := ?_); try (refine L.nil ?_))
  ((repeat refine S.seq ?_); refine S.cond rfl (fun h1 => ?_) (fun h1 => ?_) <;> (try first | refine S.skip ?_ | refine S.exit ?_))
  · have h1 : l.length = 1 := by have := eq_of_beq h1; omega
    ((repeat refine S.seq ?_); refine wG (k := ?_); try (refine L.nil ?_))
    (((repeat refine S.seq ?_); refine S.ret ?_); refine wRt (k := Imp.of_eq ?_))
    rw [widA, if_pos h1]
    rfl
  have h1 : ¬ l.length = 1 := by have := beq_eq_false_iff_ne.1 h1; omega
  repeat refine S.seq ?_
  refine S.draw [] mixed ?_
  refine wT [0, 1, 2, 3, 4, 5, 6, 7, 8, 9] (k := ?_)
  refine wT [10] (k := ?_)
  refine H.tell 18 (.v (.int .i64 (((k + 1) % l.length : Nat) : Int))) rfl (Imp.of_eq (by rw [← ht])) ?_
  refine wT [11, 12, 13] (k := ?_)
  refine wHP 14 ((way_p (l.getD k default).at0 (l.getD ((k + 1) % l.length) default).at0)) (k := ?_)
  refine wT [15, 16] (k := ?_)
  refine wD (k := ?_)
  (((repeat refine S.seq ?_); refine S.ret ?_); refine wRt (k := Imp.of_eq ?_))
  rw [widA, if_neg h1, u64_u32]
  rfl

def widthA (l : List Arc) (k : Int) : Int := if (!mayA l || decide (k < 0) || decide (k ≥ l.length)) = true then 0 else widA l k.toNat
theorem widA_le (l : List Arc) (k : Nat) : 0 ≤ widA l k ∧ widA l k ≤ 4294967296 := by
  unfold widA
  split
  · decide
  · rw [way_eq]; omega
theorem shareTo_le (l : List Arc) (s : Int) : ∀ k : Nat, 0 ≤ shareTo l s k ∧ shareTo l s k ≤ 4294967296 * k
  | 0 => by simp [shareTo]
  | k + 1 => by
    have ih := shareTo_le l s k
    have hw := widA_le l k
    rw [shareTo]
    split <;> omega
theorem u64_id {z : Int} (h0 : 0 ≤ z) (h1 : z < 18446744073709551616) : IntKind.u64.wrap z = z := by
  have e : IntKind.u64.wrap z = z % 18446744073709551616 := rfl
  omega
end Go.Proofs.YtbogfmgfafdjiaaGreatDoor

/- Widths, shares, sameness at the reference. -/
namespace Go.Proofs.YtbogfmgfafdjiaaGreatDoor
set_option linter.unusedVariables false
set_option linter.unusedSimpArgs false
set_option maxHeartbeats 8000000
open Go.RowKit
set_option maxRecDepth 4000

end Go.Proofs.YtbogfmgfafdjiaaGreatDoor

/- An arc put among others. -/
namespace Go.Proofs.YtbogfmgfafdjiaaGreatDoor
set_option linter.unusedVariables false
set_option linter.unusedSimpArgs false
set_option maxHeartbeats 8000000
open Go.RowKit
set_option maxRecDepth 4000

def Arc.av (a : Arc) : AV := .agg a.cells
def putA : List Arc → Arc → List Arc
  | [], x => [x]
  | b :: t, x => if b.at0 < x.at0 then b :: putA t x else if b.at0 = x.at0 then b :: t else x :: b :: t
theorem putA_at : ∀ {l : List Arc} {x : Arc} {k : Nat}, k ≤ l.length → (∀ j, j < k → (l.getD j default).at0 < x.at0) → (k < l.length → ¬ (l.getD k default).at0 < x.at0) → putA l x = if k < l.length ∧ (l.getD k default).at0 = x.at0 then l else l.take k ++ ([x] ++ l.drop k)
  | [], x, k, hk, _, _ => by
    obtain rfl : k = 0 := by simpa using hk
    rfl
  | b :: t, x, 0, _, _, h => by
    have h0 : ¬ b.at0 < x.at0 := h (by simp)
    rw [putA, if_neg h0]
    by_cases e : b.at0 = x.at0
    · rw [if_pos e, if_pos ⟨by simp, e⟩]
    · rw [if_neg e, if_neg fun h => e h.2]
      rfl
  | b :: t, x, k + 1, hk, hj, h => by
    have h0 : b.at0 < x.at0 := hj 0 (by omega)
    have ih := putA_at (l := t) (x := x) (k := k) (by simpa using hk) (fun j hjk => hj (j + 1) (by omega)) fun hk' => h (by simpa using hk')
    rw [putA, if_pos h0, ih]
    have e : (b :: t).getD (k + 1) default = t.getD k default := rfl
    rw [e]
    by_cases hc : k < t.length ∧ (t.getD k default).at0 = x.at0
    · rw [if_pos hc, if_pos ⟨by simpa using hc.1, hc.2⟩]
    · rw [if_neg hc, if_neg fun h' => hc ⟨by simpa using h'.1, h'.2⟩]
      rfl
theorem put_g (l : List Arc) (x : Arc) {k : Nat} (hk : k ≤ l.length) (g0 h1 h2 : Nat → List AV) (hx : h1 0 = x.cells) (hh : ∀ i, i < l.length - k → h2 i = gOf Arc.cells l (i + k)) {i : Nat} (hi : i < l.length + 1) :
    joinG (0 + k + 1) (joinG (0 + k) (joinG 0 g0 (gOf Arc.cells l)) h1) h2 i = gOf Arc.cells (l.take k ++ ([x] ++ l.drop k)) i := by
  have hl : (l.take k).length = k := by rw [List.length_take]; omega
  have e : ∀ (q : List Arc) (i : Nat), gOf Arc.cells q i = (q[i]?.getD default).cells := fun q i => by rw [gOf, List.getD_eq_getElem?_getD]
  unfold joinG
  rw [e (l.take k ++ ([x] ++ l.drop k))]
  by_cases h3 : i < k
  · rw [if_pos (by omega), if_pos (by omega), if_neg (by omega), List.getElem?_append_left (by omega), List.getElem?_take_of_lt h3, e]
    rfl
  · by_cases h4 : i = k
    · subst h4
      rw [if_pos (by omega), if_neg (by omega), show i - (0 + i) = 0 by omega, hx, List.getElem?_append_right (by omega), hl, Nat.sub_self]
      rfl
    · rw [if_neg (by omega), hh _ (by omega), List.getElem?_append_right (by omega), hl, List.getElem?_append_right (by simp; omega), List.getElem?_drop, e]
      rw [show i - (0 + k + 1) + k = k + (i - k - [x].length) by simp; omega]

end Go.Proofs.YtbogfmgfafdjiaaGreatDoor

/- Halving at the reference. -/
namespace Go.Proofs.YtbogfmgfafdjiaaGreatDoor
set_option linter.unusedVariables false
set_option linter.unusedSimpArgs false
set_option maxHeartbeats 8000000
open Go.RowKit
set_option maxRecDepth 4000

def putTo (l : List Arc) (s o : Int) : Nat → List Arc
  | 0 => l
  | k + 1 => (exE l s o k).foldl putA (putTo l s o k)
theorem putA_len : ∀ (l : List Arc) (x : Arc), (putA l x).length ≤ l.length + 1
  | [], _ => by simp [putA]
  | b :: t, x => by
    have ih := putA_len t x
    rw [putA]
    split
    · simp only [List.length_cons]; omega
    · split <;> simp only [List.length_cons] <;> omega
theorem putTo_len (l : List Arc) (s o : Int) : ∀ k, (putTo l s o k).length ≤ l.length + k
  | 0 => by simp [putTo]
  | k + 1 => by
    have ih := putTo_len l s o k
    rw [putTo, exE]
    split
    · have := putA_len (putTo l s o k) ⟨((l.getD k default).at0 + widA l k / 2) % 4294967296, o⟩
      rw [List.foldl_cons, List.foldl_nil]
      omega
    · rw [List.foldl_nil]; omega
def halveR (l : List Arc) (s o : Int) : List Arc := if (!mayA l || decide (o < 0) || decide (o ≥ 16)) = true then [] else putTo l s o l.length
theorem u32_id {z : Int} (h0 : 0 ≤ z) (h1 : z < 4294967296) : IntKind.u32.wrap z = z := by
  have e : IntKind.u32.wrap z = z % 4294967296 := rfl
  omega
theorem widthA_in {l : List Arc} {k : Nat} (hm : mayA l = true) (hk : k < l.length) : widthA l k = widA l k := by
  rw [widthA, if_neg (by
    rw [hm, decide_eq_false (show ¬ (k : Int) < 0 by omega), decide_eq_false (show ¬ (k : Int) ≥ l.length by omega)]
    decide)]
  rfl

end Go.Proofs.YtbogfmgfafdjiaaGreatDoor

/- The reference's halving is the halved ring. -/
namespace Go.Proofs.YtbogfmgfafdjiaaGreatDoor
set_option linter.unusedVariables false
set_option linter.unusedSimpArgs false
set_option maxHeartbeats 8000000
open Go.RowKit

theorem putA_mem : ∀ {l : List Arc} {x b : Arc}, b ∈ putA l x → b ∈ l ∨ b = x
  | [], x, b, h => .inr (List.mem_singleton.1 h)
  | c :: t, x, b, h => by
    rw [putA] at h
    split at h
    · rcases List.mem_cons.1 h with rfl | h
      · exact .inl List.mem_cons_self
      · exact (putA_mem h).imp (List.mem_cons_of_mem _) id
    · split at h
      · exact .inl h
      · rcases List.mem_cons.1 h with rfl | h
        · exact .inr rfl
        · exact .inl h
theorem putA_inc : ∀ {l : List Arc} (x : Arc), inc l → inc (putA l x)
  | [], x, _ => List.pairwise_singleton _ _
  | c :: t, x, h => by
    have h' := List.pairwise_cons.1 h
    rw [putA]
    split
    · rename_i hc
      refine List.pairwise_cons.2 ⟨fun b hb => ?_, putA_inc x h'.2⟩
      rcases putA_mem hb with hb | rfl
      · exact h'.1 b hb
      · exact hc
    · split
      · exact h
      · refine List.pairwise_cons.2 ⟨fun b hb => ?_, h⟩
        rcases List.mem_cons.1 hb with rfl | hb
        · omega
        · have := h'.1 b hb
          omega
theorem putA_perm : ∀ {l : List Arc} {x : Arc}, (∀ b ∈ l, b.at0 ≠ x.at0) → (putA l x).Perm (x :: l)
  | [], x, _ => List.Perm.refl _
  | c :: t, x, h => by
    have hc := h c List.mem_cons_self
    rw [putA]
    split
    · exact (List.Perm.cons c (putA_perm fun b hb => h b (List.mem_cons_of_mem _ hb))).trans (List.Perm.swap _ _ _)
    · exact List.Perm.refl _
theorem exTo_pre (l : List Arc) (s o : Int) {k : Nat} : ∀ n, k ≤ n → ∃ r, exTo l s o n = exTo l s o k ++ r
  | 0, h => by
    obtain rfl : k = 0 := by omega
    exact ⟨[], rfl⟩
  | n + 1, h => by
    by_cases e : k = n + 1
    · exact ⟨[], by rw [e, List.append_nil]⟩
    · obtain ⟨r, hr⟩ := exTo_pre l s o (k := k) n (by omega)
      exact ⟨r ++ exE l s o n, by rw [exTo, hr, List.append_assoc]⟩
theorem new_apart {l : List Arc} (h : Fit l) (s o : Int) : (l ++ exTo l s o l.length).Pairwise fun a b => a.at0 ≠ b.at0 := by
  have h1 := (rot_facts (h.turn s o)).1
  have h2 : (hvS l s o).Pairwise fun a b => a.at0 ≠ b.at0 := h1.imp fun {a b} hab => by omega
  exact ((hvS_perm h s o).pairwise_iff (fun {a b} hab e => hab e.symm)).1 h2
theorem putTo_ok {l : List Arc} (h : Fit l) (s o : Int) : ∀ k, k ≤ l.length → inc (putTo l s o k) ∧ (putTo l s o k).Perm (l ++ exTo l s o k)
  | 0, _ => ⟨h.inc, by rw [exTo, List.append_nil]; exact List.Perm.refl _⟩
  | k + 1, hk => by
    obtain ⟨i1, i2⟩ := putTo_ok h s o k (by omega)
    have hap := new_apart h s o
    obtain ⟨r, hr⟩ := exTo_pre l s o (k := k + 1) l.length hk
    rw [hr, exTo] at hap
    rw [putTo, exTo]
    unfold exE at hap ⊢
    split at hap
    · rename_i hc
      rw [if_pos hc]
      rw [List.foldl_cons, List.foldl_nil]
      refine ⟨putA_inc _ i1, (putA_perm fun b hb => ?_).trans ?_⟩
      · have hb := i2.mem_iff.1 hb
        rw [← List.append_assoc, ← List.append_assoc] at hap
        have h1 := (List.pairwise_append.1 hap).1
        exact (List.pairwise_append.1 h1).2.2 b hb _ (List.mem_singleton.2 rfl)
      · rw [← List.append_assoc]
        exact (List.Perm.cons _ i2).trans (List.perm_append_singleton _ _).symm
    · rename_i hc
      rw [if_neg hc, List.foldl_nil, List.append_nil]
      exact ⟨i1, i2⟩
theorem putTo_eq {l : List Arc} (h : Fit l) (s o : Int) : putTo l s o l.length = hvS l s o := by
  obtain ⟨h1, h2⟩ := putTo_ok h s o l.length (Nat.le_refl _)
  exact inc_eq h1 (rot_facts (h.turn s o)).1 (h2.trans (hvS_perm h s o).symm)
/-- A list sorted by points that has all of them is the halved ring. -/
theorem sorted_eq {l d : List Arc} (h : Fit l) (s o : Int) (hp : d.Perm (l ++ exTo l s o l.length)) (hs : d.Pairwise fun a b => a.at0 ≤ b.at0) : d = hvS l s o := by
  have h1 : d.Pairwise fun a b => a.at0 ≠ b.at0 := (hp.pairwise_iff (fun {a b} hab e => hab e.symm)).2 (new_apart h s o)
  have h2 : inc d := by
    refine (hs.and h1).imp fun {a b} hab => ?_
    have := hab.1
    have := hab.2
    omega
  exact inc_eq h2 (rot_facts (h.turn s o)).1 (hp.trans (hvS_perm h s o).symm)
end Go.Proofs.YtbogfmgfafdjiaaGreatDoor

/- A ring of weights: the plain law. -/
namespace Go.Proofs.YtbogfmgfafdjiaaGreatDoor
set_option linter.unusedVariables false
set_option linter.unusedSimpArgs false
set_option maxHeartbeats 8000000
open Go.RowKit

/-- The marks of a shard; of the shards below one. -/
def mks (s : Int) : Nat → List Arc
  | 0 => []
  | k + 1 => mks s k ++ [⟨mrkF s k, s⟩]
def wts (w : List Int) (k : Nat) : Nat := (w.getD k 0 * 8).toNat
def mksW (w : List Int) : Nat → List Arc
  | 0 => []
  | k + 1 => mksW w k ++ mks k (wts w k)
def mksAll (w : List Int) : List Arc := mksW w w.length
def badW (w : List Int) (i : Nat) : Bool := decide (w.getD i 0 < 0) || decide (w.getD i 0 > 4)
def lenW (w : List Int) : Bool := decide ((w.length : Int) < 1) || decide ((w.length : Int) > 16)
def someW (w : List Int) : Bool := (List.range w.length).any fun i => !decide (w.getD i 0 = 0)
def fitW (w : List Int) : Bool := (List.range w.length).all fun i => !badW w i
def okW (w : List Int) : Bool := (!lenW w && someW w) && fitW w
def bldA (w : List Int) : List Arc := if okW w = true then (mksAll w).foldl putA [] else []
def bldE (w : List Int) : Int := if okW w = true then 0 else 1

structure Ring1 (L R : List Arc) : Prop where
  inc : inc R
  sub : ∀ a ∈ R, a ∈ L
  all : ∀ b ∈ L, ∃ a ∈ R, a.at0 = b.at0 ∧ a.shard ≤ b.shard
theorem inc_inj {R : List Arc} (h : inc R) : ∀ {a b : Arc}, a ∈ R → b ∈ R → a.at0 = b.at0 → a = b := by
  intro a b ha hb e
  obtain ⟨i, hi, rfl⟩ := List.getElem_of_mem ha
  obtain ⟨j, hj, rfl⟩ := List.getElem_of_mem hb
  have hp := List.pairwise_iff_getElem.1 h
  rcases Nat.lt_trichotomy i j with hij | rfl | hij
  · have := hp i j hi hj hij; omega
  · rfl
  · have := hp j i hj hi hij; omega
theorem inc_nodup {R : List Arc} (h : inc R) : R.Nodup := h.imp fun {a b} hab e => by rw [e] at hab; omega
theorem Arc.ext' {a b : Arc} (h1 : a.at0 = b.at0) (h2 : a.shard = b.shard) : a = b := by cases a; cases b; cases h1; cases h2; rfl
theorem Ring1.le {L R R' : List Arc} (h : Ring1 L R) (h' : Ring1 L R') {a : Arc} (ha : a ∈ R) : a ∈ R' := by
  obtain ⟨b, hb, e1, e2⟩ := h'.all a (h.sub a ha)
  obtain ⟨c, hc, e3, e4⟩ := h.all b (h'.sub b hb)
  have := inc_inj h.inc hc ha (by omega)
  subst this
  have : b = c := Arc.ext' (by omega) (by omega)
  rw [← this]
  exact hb
theorem Ring1.eq {L R R' : List Arc} (h : Ring1 L R) (h' : Ring1 L R') : R = R' :=
  inc_eq h.inc h'.inc ((List.perm_ext_iff_of_nodup (inc_nodup h.inc) (inc_nodup h'.inc)).2 fun _ => ⟨h.le h', h'.le h⟩)
theorem Ring1.perm {L L' R : List Arc} (h : Ring1 L R) (hp : L.Perm L') : Ring1 L' R := ⟨h.inc, fun a ha => hp.mem_iff.1 (h.sub a ha), fun b hb => h.all b (hp.mem_iff.2 hb)⟩
theorem putA_same : ∀ {l : List Arc} {x b : Arc}, inc l → b ∈ l → b.at0 = x.at0 → putA l x = l
  | c :: t, x, b, h, hb, e => by
    have h' := List.pairwise_cons.1 h
    rw [putA]
    rcases List.mem_cons.1 hb with rfl | hb
    · rw [if_neg (by omega), if_pos e]
    · have := h'.1 b hb
      rw [if_pos (by omega), putA_same h'.2 hb e]
theorem Ring1.put {L R : List Arc} (h : Ring1 L R) (x : Arc) (hx : ∀ a ∈ L, a.shard ≤ x.shard) : Ring1 (L ++ [x]) (putA R x) := by
  by_cases hc : ∃ b ∈ R, b.at0 = x.at0
  · obtain ⟨b, hb, e⟩ := hc
    rw [putA_same h.inc hb e]
    refine ⟨h.inc, fun a ha => List.mem_append.2 (.inl (h.sub a ha)), fun c hc => ?_⟩
    rcases List.mem_append.1 hc with hc | hc
    · exact h.all c hc
    · rw [List.mem_singleton.1 hc]
      exact ⟨b, hb, e, hx b (h.sub b hb)⟩
  · have hp := putA_perm (l := R) (x := x) fun b hb e => hc ⟨b, hb, e⟩
    refine ⟨putA_inc x h.inc, fun a ha => ?_, fun c hc => ?_⟩
    · rcases List.mem_cons.1 (hp.mem_iff.1 ha) with rfl | ha
      · simp
      · exact List.mem_append.2 (.inl (h.sub a ha))
    · rcases List.mem_append.1 hc with hc | hc
      · obtain ⟨a, ha, e⟩ := h.all c hc
        exact ⟨a, hp.mem_iff.2 (List.mem_cons_of_mem _ ha), e⟩
      · rw [List.mem_singleton.1 hc]
        exact ⟨x, hp.mem_iff.2 List.mem_cons_self, rfl, Int.le_refl _⟩
theorem Ring1.fold : ∀ (L : List Arc) {D R : List Arc}, Ring1 D R → (∀ a ∈ D, ∀ b ∈ L, a.shard ≤ b.shard) → L.Pairwise (fun a b => a.shard ≤ b.shard) → Ring1 (D ++ L) (L.foldl putA R)
  | [], D, R, h, _, _ => by rw [List.append_nil]; exact h
  | x :: t, D, R, h, hD, hL => by
    have hL' := List.pairwise_cons.1 hL
    have := Ring1.fold t (h.put x fun a ha => hD a ha x List.mem_cons_self) (fun a ha b hb => by
      rcases List.mem_append.1 ha with ha | ha
      · exact hD a ha b (List.mem_cons_of_mem _ hb)
      · rw [List.mem_singleton.1 ha]; exact hL'.1 b hb) hL'.2
    rw [List.append_assoc] at this
    exact this
theorem Ring1.nil : Ring1 [] [] := ⟨List.Pairwise.nil, fun _ h => h, fun _ h => by cases h⟩

theorem mks_len (s : Int) : ∀ k, (mks s k).length = k
  | 0 => rfl
  | k + 1 => by rw [mks, List.length_append, mks_len s k]; rfl
theorem mks_mem (s : Int) : ∀ k, ∀ a ∈ mks s k, a.shard = s ∧ ∃ i : Nat, i < k ∧ a.at0 = mrkF s i
  | 0, a, h => by cases h
  | k + 1, a, h => by
    rcases List.mem_append.1 h with h | h
    · obtain ⟨h1, i, hi, h2⟩ := mks_mem s k a h
      exact ⟨h1, i, by omega, h2⟩
    · rw [List.mem_singleton.1 h]; exact ⟨rfl, k, by omega, rfl⟩
theorem mks_sort (s : Int) : ∀ k, (mks s k).Pairwise fun a b => a.shard ≤ b.shard := fun k =>
  List.pairwise_iff_getElem.2 fun i j hi hj _ => by
    have h1 := (mks_mem s k _ (List.getElem_mem hi)).1
    have h2 := (mks_mem s k _ (List.getElem_mem hj)).1
    omega
theorem mksW_mem (w : List Int) : ∀ k, ∀ a ∈ mksW w k, 0 ≤ a.shard ∧ a.shard < k ∧ ∃ i : Nat, a.at0 = mrkF a.shard i
  | 0, a, h => by cases h
  | k + 1, a, h => by
    rcases List.mem_append.1 h with h | h
    · obtain ⟨h1, h2, h3⟩ := mksW_mem w k a h
      exact ⟨h1, by omega, h3⟩
    · obtain ⟨h1, i, -, h2⟩ := mks_mem _ _ a h
      exact ⟨by omega, by omega, i, by rw [h1, h2]⟩
theorem mksW_sort (w : List Int) : ∀ k, (mksW w k).Pairwise fun a b => a.shard ≤ b.shard
  | 0 => List.Pairwise.nil
  | k + 1 => List.pairwise_append.2 ⟨mksW_sort w k, mks_sort _ _, fun a ha b hb => by
      have h1 := (mksW_mem w k a ha).2.1
      have h2 := (mks_mem _ _ b hb).1
      omega⟩
theorem ring1_all (w : List Int) (k : Nat) : Ring1 (mksW w k) ((mksW w k).foldl putA []) := by
  have := Ring1.fold (mksW w k) Ring1.nil (fun a h => by cases h) (mksW_sort w k)
  exact this

/-- What is kept of so many: those that are not at the point of the one ahead. -/
def cptK (l : List Arc) : Nat → List Arc
  | 0 => []
  | k + 1 => cptK l k ++ if 0 < k ∧ (l.getD k default).at0 = (l.getD (k - 1) default).at0 then [] else [l.getD k default]
def lexA (a b : Arc) : Prop := a.at0 < b.at0 ∨ a.at0 = b.at0 ∧ a.shard ≤ b.shard
structure CK (l : List Arc) (k : Nat) (R : List Arc) : Prop where
  inc : inc R
  sub : ∀ a ∈ R, ∃ i, i < k ∧ a = l.getD i default
  all : ∀ i, i < k → ∃ a ∈ R, a.at0 = (l.getD i default).at0 ∧ a.shard ≤ (l.getD i default).shard
theorem cptK_ok {l : List Arc} (h : l.Pairwise lexA) : ∀ k, k ≤ l.length → CK l k (cptK l k)
  | 0, _ => ⟨List.Pairwise.nil, fun _ h => (by cases h), fun _ h => (by omega)⟩
  | k + 1, hk => by
    have ih := cptK_ok h k (by omega)
    have hp : ∀ i j, i < j → j < l.length → lexA (l.getD i default) (l.getD j default) := fun i j hij hj => by
      rw [getD_get hj, getD_get (show i < l.length by omega)]
      exact List.pairwise_iff_getElem.1 h i j (by omega) hj hij
    rw [cptK]
    split
    · rename_i hc
      rw [List.append_nil]
      refine ⟨ih.inc, fun a ha => ?_, fun i hi => ?_⟩
      · obtain ⟨i, h1, h2⟩ := ih.sub a ha
        exact ⟨i, by omega, h2⟩
      · by_cases e : i < k
        · exact ih.all i e
        · obtain rfl : i = k := by omega
          obtain ⟨a, ha, e1, e2⟩ := ih.all (i - 1) (by omega)
          have := hp (i - 1) i (by omega) (by omega)
          unfold lexA at this
          exact ⟨a, ha, by omega, by omega⟩
    · rename_i hc
      refine ⟨List.pairwise_append.2 ⟨ih.inc, List.pairwise_singleton _ _, fun a ha b hb => ?_⟩, fun a ha => ?_, fun i hi => ?_⟩
      · rw [List.mem_singleton.1 hb]
        obtain ⟨i, h1, h2⟩ := ih.sub a ha
        have g1 := hp (k - 1) k (by omega) (by omega)
        rw [h2]
        unfold lexA at g1
        by_cases e : i = k - 1
        · rw [e]; omega
        · have g2 := hp i (k - 1) (by omega) (by omega)
          unfold lexA at g2
          omega
      · rcases List.mem_append.1 ha with ha | ha
        · obtain ⟨i, h1, h2⟩ := ih.sub a ha
          exact ⟨i, by omega, h2⟩
        · exact ⟨k, by omega, List.mem_singleton.1 ha⟩
      · by_cases e : i < k
        · obtain ⟨a, ha, e⟩ := ih.all i e
          exact ⟨a, List.mem_append.2 (.inl ha), e⟩
        · obtain rfl : i = k := by omega
          exact ⟨_, List.mem_append.2 (.inr (List.mem_singleton.2 rfl)), rfl, Int.le_refl _⟩
theorem ring1_cpt {l : List Arc} (h : l.Pairwise lexA) : Ring1 l (cptK l l.length) := by
  have hk := cptK_ok h l.length (Nat.le_refl _)
  refine ⟨hk.inc, fun a ha => ?_, fun b hb => ?_⟩
  · obtain ⟨i, h1, rfl⟩ := hk.sub a ha
    rw [getD_get h1]
    exact List.getElem_mem h1
  · obtain ⟨i, hi, rfl⟩ := List.getElem_of_mem hb
    obtain ⟨a, ha, e⟩ := hk.all i hi
    rw [getD_get hi] at e
    exact ⟨a, ha, e⟩
/-- The sorted marks, each point once, are the marks put one by one. -/
theorem cpt_eq {w : List Int} {d : List Arc} (hp : d.Perm (mksAll w)) (hs : d.Pairwise lexA) : cptK d d.length = (mksAll w).foldl putA [] :=
  ((ring1_cpt hs).perm hp).eq (ring1_all w w.length)

theorem x32_in (a b : Int) : 0 ≤ x32 a b ∧ x32 a b < 4294967296 := by
  have e : ∀ z, IntKind.u32.wrap z = z % 4294967296 := fun _ => rfl
  rw [x32, e]
  omega
theorem mrkF_in (a b : Int) : 0 ≤ mrkF a b ∧ mrkF a b < 4294967296 := x32_in _ _
structure OkW (w : List Int) : Prop where
  one : 1 ≤ w.length
  most : w.length ≤ 16
  some : ∃ i, i < w.length ∧ w.getD i 0 ≠ 0
  fit : ∀ i, i < w.length → 0 ≤ w.getD i 0 ∧ w.getD i 0 ≤ 4
theorem okW_iff (w : List Int) : okW w = true ↔ OkW w := by
  constructor
  · intro h
    simp only [okW, lenW, someW, fitW, badW, Bool.and_eq_true, Bool.not_eq_true', Bool.or_eq_false_iff, decide_eq_false_iff_not, List.any_eq_true, List.all_eq_true, List.mem_range, Bool.not_eq_eq_eq_not, Bool.not_true, decide_eq_true_eq] at h
    obtain ⟨⟨⟨h1, h2⟩, i, h3, h4⟩, h5⟩ := h
    exact ⟨by omega, by omega, ⟨i, h3, h4⟩, fun i hi => by have := h5 i hi; omega⟩
  · rintro ⟨h1, h2, ⟨i, h3, h4⟩, h5⟩
    simp only [okW, lenW, someW, fitW, badW, Bool.and_eq_true, Bool.not_eq_true', Bool.or_eq_false_iff, decide_eq_false_iff_not, List.any_eq_true, List.all_eq_true, List.mem_range, Bool.not_eq_eq_eq_not, Bool.not_true, decide_eq_true_eq]
    exact ⟨⟨⟨by omega, by omega⟩, i, h3, h4⟩, fun i hi => by have := h5 i hi; omega⟩
theorem mksW_len {w : List Int} (h : OkW w) : ∀ k, k ≤ w.length → (mksW w k).length ≤ 32 * k
  | 0, _ => by simp [mksW]
  | k + 1, hk => by
    have ih := mksW_len h k (by omega)
    have := h.fit k (by omega)
    rw [mksW, List.length_append, mks_len, wts]
    omega
theorem mksW_pos {w : List Int} (h : OkW w) : 1 ≤ (mksAll w).length := by
  obtain ⟨i, hi, h0⟩ := h.some
  have hf := h.fit i hi
  have key : ∀ k, i < k → 1 ≤ (mksW w k).length := fun k => by
    induction k with
    | zero => intro h; omega
    | succ k ih =>
      intro hik
      rw [mksW, List.length_append, mks_len]
      by_cases e : i = k
      · subst e; rw [wts]; omega
      · have := ih (by omega); omega
  exact key _ hi
theorem fold_len : ∀ (L R : List Arc), (L.foldl putA R).length ≤ R.length + L.length
  | [], R => by simp
  | x :: t, R => by
    have h1 := fold_len t (putA R x)
    have h2 := putA_len R x
    simp only [List.foldl_cons, List.length_cons]
    omega
/-- What is built may be. -/
theorem build_may {w : List Int} (h : OkW w) : MayA (bldA w) ∧ (bldA w).length ≤ 512 ∧ (∀ a ∈ bldA w, a ∈ mksAll w) ∧ ∀ a ∈ bldA w, 0 ≤ a.at0 ∧ a.at0 < 4294967296 := by
  rw [bldA, if_pos ((okW_iff w).2 h)]
  have hr : Ring1 (mksAll w) ((mksAll w).foldl putA []) := ring1_all w w.length
  have hl : ((mksAll w).foldl putA []).length ≤ 0 + (mksAll w).length := fold_len (mksAll w) []
  have hm : (mksAll w).length ≤ 32 * w.length := mksW_len h w.length (Nat.le_refl _)
  have hw := h.most
  refine ⟨may_to ?_ (by omega) (fun a ha => ?_) hr.inc, by omega, hr.sub, fun a ha => ?_⟩
  · obtain ⟨b, hb, -⟩ := hr.all ((mksAll w)[0]'(mksW_pos h)) (List.getElem_mem _)
    exact List.length_pos_of_mem hb
  · have hx : 0 ≤ a.shard ∧ a.shard < (w.length : Nat) ∧ ∃ i : Nat, a.at0 = mrkF a.shard i := mksW_mem w w.length a (hr.sub a ha)
    exact ⟨hx.1, by omega⟩
  · have hx : 0 ≤ a.shard ∧ a.shard < (w.length : Nat) ∧ ∃ i : Nat, a.at0 = mrkF a.shard i := mksW_mem w w.length a (hr.sub a ha)
    obtain ⟨i, e⟩ := hx.2.2
    rw [e]
    exact mrkF_in _ _
theorem build_fit {w : List Int} (h : OkW w) : Fit (bldA w) := by
  obtain ⟨h1, h2, h3, h4⟩ := build_may h
  exact ⟨h1, h4⟩
end Go.Proofs.YtbogfmgfafdjiaaGreatDoor

/- slices.CompactFunc of arcs that are one's own. -/
namespace Go.Proofs.YtbogfmgfafdjiaaGreatDoor
set_option linter.unusedVariables false
set_option linter.unusedSimpArgs false
set_option maxHeartbeats 8000000
open Go.RowKit
set_option maxRecDepth 4000

theorem formOwn {c : Ctx} {σ : Slots} {F : Rows} {K : Act → World → Prop} (id : Nat) {x : Value} {E sz n : Nat} {g : Nat → List AV} (h : F.lookup id = some (.own x E sz n g))
    (next : ∀ A cap, x = .slice A n cap → n ≤ cap → ∀ a w, R c σ F a w → K a w) : ∀ a w, R c σ F a w → K a w := by
  intro a w hR
  obtain ⟨us, ho, -⟩ := hR.sat.at h
  obtain ⟨A, cap, hv, hc, -⟩ := own_form0 ho
  exact next A cap hv hc a w hR
/-- An element of a tail of one's own. -/
theorem tail_sure {P : Program} {T : Types} {c : Ctx} {σ : Slots} {F : Rows} {rd : List Nat} {o : Oper} {t e : TypeId} {x y : Operand} {id : Nat} {x0 x1 : Value} {E sz n k : Nat} {g : Nat → List AV} {z : Int} {kd : IntKind} {p q : Prop} (hT : TOk P T) (ho : o.op = .indexAddr t x y)
    (ht : tdOf T t = some (.slice e)) (hm : tsz T e = some sz) (hs : evalS σ x = some (.v x1, p)) (hx1 : x1 = restW sz x0 k) (hrow : F.lookup id = some (.own x0 E sz n g)) (hy : evalS σ y = some (.v (.int kd z), q)) (hC : p ∧ q ∧ 0 ≤ z ∧ k + z.toNat < n) :
    Sure P c σ F rd o (.eptr id x0 sz (k + z.toNat) 0) := by
  intro a w hR
  subst hx1
  obtain ⟨hp, hq, h0, hn⟩ := hC
  have hA := hR.evals hs hp
  have hA' : a.eval x = restW sz x0 k := by generalize a.eval x = v at hA; cases hA; rfl
  have hB := hR.evals hy hq
  have hB' : a.eval y = .int kd z := by generalize a.eval y = v at hB; cases hB; rfl
  obtain ⟨us, hown, -⟩ := hR.sat.at hrow
  obtain ⟨g0, cap, rfl, hcap, -⟩ := own_form hown (by omega)
  have hck : ¬ cap = k := by omega
  have e1 : a.eval x = .slice (some ⟨g0, k * sz, none⟩) (n - k) (cap - k) := by
    rw [hA']
    simp [restW, hck, addr_add_lit]
  refine ⟨_, .eptr id _ sz (k + z.toNat) 0, fun w' _ => ?_⟩
  have hr := run_indexAt_slice hT ht hm kd z ⟨g0, k * sz, none⟩ (n - k) (cap - k) h0 (by omega) w'
  have e2 : (headOf (.slice (some ⟨g0, 0, none⟩) n cap)).add ((k + z.toNat) * sz + 0) = (⟨g0, k * sz, none⟩ : Addr).add (z.toNat * sz) := by
    simp [headOf, addr_add_lit, Nat.add_mul]
  rw [e2]
  simp [execOp, ho, e1, hB', hr]

theorem build3_p (a b : Arc) : PFn Tryz.prog 137 [a.av, b.av] (.v (.bool (decide (a.at0 = b.at0)))) := by
  unfold Arc.av Arc.cells
  refine FnC.intro Tryz.func137 rfl Tryz.ntmps137 rfl ?_; intro off w0
  repeat refine S.seq ?_
  refine S.region ?_
  refine wB 2 (k := fun b2 => ?_)
  refine wB 3 (k := fun b3 => ?_)
  (refine wL (k := ?_); try (refine L.nil ?_))
  ((repeat refine S.seq ?_); refine wG (k := ?_); try (refine L.nil ?_))
  (((repeat refine S.seq ?_); refine S.ret ?_); refine wRt (k := Imp.of_eq ?_))
  rfl

/-- Of so many looked at, so many are kept at the beginning. -/
structure CS (l : List Arc) (j : Nat) (M : List Arc) : Prop where
  le : j ≤ l.length
  pos : 1 ≤ j
  len : M.length = l.length
  pre : M.take (cptK l j).length = cptK l j
  post : M.drop (j - 1) = l.drop (j - 1)
  low : (cptK l j).length ≤ j - 1
theorem CS.at {l M : List Arc} {j i : Nat} (s : CS l j M) (h : j - 1 ≤ i) (hi : i < l.length) : M.getD i default = l.getD i default := by
  have e : (M.drop (j - 1))[i - (j - 1)]? = (l.drop (j - 1))[i - (j - 1)]? := by rw [s.post]
  rw [List.getElem?_drop, List.getElem?_drop, show j - 1 + (i - (j - 1)) = i by omega] at e
  rw [List.getD_eq_getElem?_getD, List.getD_eq_getElem?_getD, e]
theorem drop_more {M l : List Arc} {a b : Nat} (h : M.drop a = l.drop a) (hab : a ≤ b) : M.drop b = l.drop b := by
  rw [show b = a + (b - a) by omega, ← List.drop_drop, h, List.drop_drop]
theorem CS.skip {l M : List Arc} {j : Nat} (s : CS l j M) (h : j < l.length) (hq : (l.getD j default).at0 = (l.getD (j - 1) default).at0) : CS l (j + 1) M ∧ (cptK l (j + 1)).length = (cptK l j).length := by
  have hp := s.pos
  have hlow := s.low
  have e : cptK l (j + 1) = cptK l j := by rw [cptK, if_pos ⟨hp, hq⟩, List.append_nil]
  exact ⟨⟨h, by omega, s.len, by rw [e]; exact s.pre, drop_more s.post (by omega), by rw [e]; omega⟩, by rw [e]⟩
theorem CS.keep {l M : List Arc} {j : Nat} (s : CS l j M) (h : j < l.length) (hq : ¬ (l.getD j default).at0 = (l.getD (j - 1) default).at0) : CS l (j + 1) (M.set (cptK l j).length (l.getD j default)) ∧ (cptK l (j + 1)).length = (cptK l j).length + 1 := by
  have hp := s.pos
  have hlow := s.low
  have hlen := s.len
  have e : cptK l (j + 1) = cptK l j ++ [l.getD j default] := by rw [cptK, if_neg fun h => hq h.2]
  have el : (cptK l (j + 1)).length = (cptK l j).length + 1 := by rw [e]; simp
  refine ⟨⟨h, by omega, by rw [List.length_set, s.len], ?_, ?_, by omega⟩, el⟩
  · rw [el, List.take_succ_eq_append_getElem (by rw [List.length_set, s.len]; omega), List.take_set_of_le (Nat.le_refl _), s.pre, e]
    simp
  · rw [List.drop_set_of_lt (by omega)]
    exact drop_more s.post (by omega)
theorem cptK_take {l : List Arc} : ∀ {k : Nat}, k ≤ l.length → (∀ j, 1 ≤ j → j < k → ¬ (l.getD j default).at0 = (l.getD (j - 1) default).at0) → cptK l k = l.take k
  | 0, _, _ => by rw [cptK, List.take_zero]
  | k + 1, hk, h => by
    rw [cptK, cptK_take (by omega) fun j h1 h2 => h j h1 (by omega), if_neg (fun hc => h k hc.1 (by omega) hc.2), List.take_succ_eq_append_getElem (by omega), getD_get (by omega)]

theorem compact_p (l : List Arc) (x0 : Value) (hl : l.length ≤ 100000) :
    FnC Tryz.prog 136 [.ref 60 x0, .fn (.func 137) []] [(60, .own x0 103 2 l.length (gOf Arc.cells l))]
      (fun r F' => ∃ y, r = .ref 60 y ∧ F' = [(60, .own y 103 2 (cptK l l.length).length (gOf Arc.cells (cptK l l.length)))]) := by
  refine FnC.intro Tryz.func136 rfl Tryz.ntmps136 rfl ?_; intro off w0
  refine formOwn 60 rfl fun A cap hx hcap => ?_
  subst hx
  obtain ⟨ET, hET⟩ : ∃ ET, ET = 103 := ⟨_, rfl⟩
  ((repeat refine S.seq ?_); refine wG (k := ?_); try (refine L.nil ?_))
  ((repeat refine S.seq ?_); refine wG (k := ?_); try (refine L.nil ?_))
  ((repeat refine S.seq ?_); refine S.cond rfl (fun h1 => ?_) (fun h1 => ?_) <;> (try first | refine S.skip ?_ | refine S.exit ?_))
  · have h1 := of_dec h1
    ((repeat refine S.seq ?_); refine wG (k := ?_); try (refine L.nil ?_))
    have e : cptK l l.length = l := by
      rw [cptK_take (Nat.le_refl _) (fun j h2 h3 => by omega), List.take_length]
    ((repeat refine S.seq ?_); refine S.ret ?_)
    exact E.ret (T := tt) tt_ok rfl rfl (by exact sd) (F' := [(60, .own (.slice A l.length cap) 103 2 l.length (gOf Arc.cells l))]) (Imp.refl _) (by (repeat (first | exact List.nil_sublist _ | refine List.Sublist.cons_cons _ ?_ | refine List.Sublist.cons _ ?_))) ⟨_, rfl, by rw [e]⟩
  have h1 := of_dec' h1
  ((repeat refine S.seq ?_); refine wG (k := ?_); try (refine L.nil ?_))
  repeat refine S.seq ?_
  refine S.cut (ι := { u : Unit // ∀ j, 1 ≤ j → j < l.length → ¬ (l.getD j default).at0 = (l.getD (j - 1) default).at0 }) (fun _ => [(0, .ref 60 (.slice A l.length cap))]) (fun _ => [(60, .own (.slice A l.length cap) 103 2 l.length (gOf Arc.cells l))]) ?_ ?_
  · refine S.block (S.loop (ι := { k : Nat // 1 ≤ k ∧ k ≤ l.length ∧ ∀ j, 1 ≤ j → j < k → ¬ (l.getD j default).at0 = (l.getD (j - 1) default).at0 }) (fun k => [(0, .ref 60 (.slice A l.length cap)), (1, .fn (.func 137) []), (5, .v (.int .i64 k.1))])
      (fun k => [(60, .own (.slice A l.length cap) 103 2 l.length (gOf Arc.cells l))]) (fun k => l.length - k.1) ?_ ?_)
    · exact fun a w h => ⟨⟨1, Nat.le_refl _, by omega, fun j g1 g2 => by omega⟩, h.weakP (by (repeat' (first | exact True.intro | exact Imp.refl _ | refine ⟨?_, ?_⟩))) (by (repeat (first | exact Sub.refl _ | refine Sub.pick (by first | exact p0 | exact pS p0 | exact pS (pS p0) | exact pS (pS (pS p0)) | exact pS (pS (pS (pS p0))) | exact pS (pS (pS (pS (pS p0))))) ?_)))⟩
    rintro ⟨k, k1, hk, ik⟩
    dsimp only
    ((repeat refine S.seq ?_); refine wG (k := ?_); try (refine L.nil ?_))
    ((repeat refine S.seq ?_); refine S.cond rfl (fun h2 => ?_) (fun h2 => ?_) <;> (try first | refine S.skip ?_ | refine S.exit ?_))
    · have h2 : k < l.length := by have := of_dec h2; omega
      have ek : ((k : Int) - 1).toNat = k - 1 := by omega
      repeat refine S.seq ?_
      refine S.block ?_
      repeat refine S.seq ?_
      refine S.draw [(4, [60]), (9, [60])] mixed ?_
      refine wT [0, 1, 2, 3, 4, 5, 6, 7, 8, 9] (k := ?_)
      refine wHP 10 (build3_p (l.getD k default) (l.getD ((k : Int) - 1).toNat default)) (k := ?_)
      refine wD (k := ?_)
      ((repeat refine S.seq ?_); refine S.cond rfl (fun h3 => ?_) (fun h3 => ?_) <;> (try first | refine S.skip ?_ | refine S.exit ?_))
      · have h3 : (l.getD k default).at0 = (l.getD (k - 1) default).at0 := by rw [← ek]; exact of_dec h3
        have s0 : CS l (k + 1) l := by
          have e : cptK l (k + 1) = l.take k := by rw [cptK, if_pos ⟨k1, h3⟩, List.append_nil, cptK_take hk ik]
          refine ⟨h2, by omega, rfl, ?_, rfl, ?_⟩
          · rw [e, List.length_take, Nat.min_eq_left hk]
          · rw [e, List.length_take]; omega
        have ekn : (k : Int).toNat = k := by omega
        repeat refine S.seq ?_
        refine S.region ?_
        (refine wL (k := ?_); try (refine L.nil ?_))
        refine L.of (O.sliceTail (T := tt) tt_ok rfl rfl rfl rfl rfl rfl rfl rfl rfl (by exact sd)) fun _ => ?_
        (refine wL (k := ?_); try (refine L.nil ?_))
        ((repeat refine S.seq ?_); refine wG (k := ?_); try (refine L.nil ?_))
        repeat refine S.seq ?_
        refine S.block (S.loop (ι := { p : Nat × List Arc // CS l p.1 p.2 ∧ k + 1 ≤ p.1 }) (fun p => [(0, .ref 60 (.slice A l.length cap)), (1, .fn (.func 137) []), (5, .v (.int .i64 ((cptK l p.1.1).length : Int))), (6, .v (restW 2 (.slice A l.length cap) k)), (7, .v (.int .i64 ((p.1.1 - k : Nat) : Int)))])
          (fun p => [(60, .own (.slice A l.length cap) 103 2 l.length (gOf Arc.cells p.1.2))]) (fun p => l.length - p.1.1) ?_ ?_)
        · refine slotAs 5 (.v (.int .i64 ((cptK l (k + 1)).length : Int))) rfl (Imp.of_eq ?_) ?_
          · rw [cptK, if_pos ⟨k1, h3⟩, List.append_nil, cptK_take hk ik, List.length_take, Nat.min_eq_left hk]
          refine slotAs 7 (.v (.int .i64 ((k + 1 - k : Nat) : Int))) rfl (Imp.of_eq (by rw [show k + 1 - k = 1 by omega]; rfl)) ?_
          exact fun a w h => ⟨⟨(k + 1, l), s0, Nat.le_refl _⟩, h.weakP (by (repeat' (first | exact True.intro | exact Imp.refl _ | refine ⟨?_, ?_⟩))) (by (repeat (first | exact Sub.refl _ | refine Sub.pick (by first | exact p0 | exact pS p0 | exact pS (pS p0) | exact pS (pS (pS p0)) | exact pS (pS (pS (pS p0))) | exact pS (pS (pS (pS (pS p0))))) ?_)))⟩
        rintro ⟨⟨j, M⟩, s, hj0⟩
        dsimp only at s hj0 ⊢
        have sle := s.le
        have slen := s.len
        have slow := s.low
        ((repeat refine S.seq ?_); refine wG (k := ?_); try (refine L.nil ?_))
        ((repeat refine S.seq ?_); refine S.cond rfl (fun h4 => ?_) (fun h4 => ?_) <;> (try first | refine S.skip ?_ | refine S.exit ?_))
        · have h4 : j < l.length := by have := of_dec h4; omega
          have at1 := s.at (show j - 1 ≤ j by omega) h4
          have at2 := s.at (show j - 1 ≤ j - 1 by omega) (show j - 1 < l.length by omega)
          have ej1 : k + ((j - k : Nat) : Int).toNat = j := by omega
          have ej2 : k + (((j - k : Nat) : Int) - 1).toNat = j - 1 := by omega
          repeat refine S.seq ?_
          refine S.block ?_
          repeat refine S.seq ?_
          refine S.draw [(4, [60]), (9, [60])] mixed ?_
          refine wT [0, 1, 2] (k := ?_)
          refine H.s1 3 (A := .eptr 60 (.slice A l.length cap) 2 (k + ((j - k : Nat) : Int).toNat) 0) rfl (by kernel_rfl) (by kernel_rfl) (by kernel_rfl) (by kernel_rfl) (by kernel_rfl) (by intro ch a a' w h; obtain ⟨_, _, _, _, _, h, _⟩ := h; cases h) rfl rfl (by kernel_rfl) (tail_sure (T := tt) tt_ok rfl rfl rfl rfl rfl rfl rfl ⟨trivial, trivial, by omega, by omega⟩) ?_
          refine wT [4, 5, 6, 7] (k := ?_)
          refine H.s1 8 (A := .eptr 60 (.slice A l.length cap) 2 (k + (((j - k : Nat) : Int) - 1).toNat) 0) rfl (by kernel_rfl) (by kernel_rfl) (by kernel_rfl) (by kernel_rfl) (by kernel_rfl) (by intro ch a a' w h; obtain ⟨_, _, _, _, _, h, _⟩ := h; cases h) rfl rfl (by kernel_rfl) (tail_sure (T := tt) tt_ok rfl rfl rfl rfl rfl rfl rfl ⟨trivial, by exact sd, by omega, by omega⟩) ?_
          refine wT [9] (k := ?_)
          refine wHP 10 (build3_p (M.getD (k + ((j - k : Nat) : Int).toNat) default) (M.getD (k + (((j - k : Nat) : Int) - 1).toNat) default)) (k := ?_)
          refine wT [11] (k := ?_)
          refine wD (k := ?_)
          rw [ej1, ej2, at1, at2]
          refine S.cut (ι := { p : List Arc // CS l (j + 1) p }) (fun p => [(0, .ref 60 (.slice A l.length cap)), (1, .fn (.func 137) []), (5, .v (.int .i64 ((cptK l (j + 1)).length : Int))), (6, .v (restW 2 (.slice A l.length cap) k)), (7, .v (.int .i64 ((j - k : Nat) : Int)))])
            (fun p => [(60, .own (.slice A l.length cap) 103 2 l.length (gOf Arc.cells p.1))]) ?_ ?_
          · ((repeat refine S.seq ?_); refine S.cond rfl (fun h5 => ?_) (fun h5 => ?_) <;> (try first | refine S.skip ?_ | refine S.exit ?_))
            · have hq : ¬ (l.getD j default).at0 = (l.getD (j - 1) default).at0 := by simpa using h5
              obtain ⟨s1, s2⟩ := s.keep h4 hq
              repeat refine S.seq ?_
              refine S.region ?_
              (refine wL (k := ?_); try (refine L.nil ?_))
              refine L.sure (rd := []) (A := .eptr 60 (.slice A l.length cap) 2 (k + ((j - k : Nat) : Int).toNat) 0) (tail_sure (T := tt) tt_ok rfl rfl rfl rfl rfl rfl rfl ⟨trivial, trivial, by omega, by omega⟩) rfl rfl (by kernel_rfl) ?_
              (refine wL (k := ?_); try (refine L.nil ?_))
              refine wS (k := ?_)
              refine L.nil ?_
              refine ownAs 60 (gOf Arc.cells (M.set (cptK l j).length (l.getD j default))) rfl rfl (fun i hil => ?_) ?_
              · show (if i = (((cptK l j).length : Nat) : Int).toNat then Arc.cells (M.getD (k + ((j - k : Nat) : Int).toNat) default) else Arc.cells (M.getD i default)) = Arc.cells ((M.set (cptK l j).length (l.getD j default)).getD i default)
                rw [ej1, Int.toNat_natCast, List.getD_eq_getElem?_getD (l := M.set _ _), List.getElem?_set]
                by_cases e : i = (cptK l j).length
                · rw [if_pos e, if_pos e.symm, if_pos (by omega), at1]; rfl
                · rw [if_neg e, if_neg (fun e' => e e'.symm), ← List.getD_eq_getElem?_getD]
              ((repeat refine S.seq ?_); refine wG (k := ?_); try (refine L.nil ?_))
              refine slotAs 5 (.v (.int .i64 ((cptK l (j + 1)).length : Int))) rfl (Imp.of_eq (by rw [s2]; rfl)) ?_
              exact fun a w hR => ⟨⟨_, s1⟩, hR.weakP (by (repeat' (first | exact True.intro | exact Imp.refl _ | refine ⟨?_, ?_⟩))) (by (repeat (first | exact Sub.refl _ | refine Sub.pick (by first | exact p0 | exact pS p0 | exact pS (pS p0) | exact pS (pS (pS p0)) | exact pS (pS (pS (pS p0))) | exact pS (pS (pS (pS (pS p0))))) ?_)))⟩
            · have hq : (l.getD j default).at0 = (l.getD (j - 1) default).at0 := by simpa using h5
              obtain ⟨s1, s2⟩ := s.skip h4 hq
              refine slotAs 5 (.v (.int .i64 ((cptK l (j + 1)).length : Int))) rfl (Imp.of_eq (by rw [s2])) ?_
              exact fun a w hR => ⟨⟨_, s1⟩, hR.weakP (by (repeat' (first | exact True.intro | exact Imp.refl _ | refine ⟨?_, ?_⟩))) (by (repeat (first | exact Sub.refl _ | refine Sub.pick (by first | exact p0 | exact pS p0 | exact pS (pS p0) | exact pS (pS (pS p0)) | exact pS (pS (pS (pS p0))) | exact pS (pS (pS (pS (pS p0))))) ?_)))⟩
          rintro ⟨L2, s1⟩
          dsimp only
          ((repeat refine S.seq ?_); refine wG (k := ?_); try (refine L.nil ?_))
          refine slotAs 7 (.v (.int .i64 ((j + 1 - k : Nat) : Int))) rfl (Imp.of_eq (by rw [show ((j + 1 - k : Nat) : Int) = ((j - k : Nat) : Int) + 1 by omega])) ?_
          exact fun a w hR => ⟨⟨(j + 1, L2), s1, by omega⟩, by show l.length - (j + 1) < l.length - j; omega, hR.weakP (by (repeat' (first | exact True.intro | exact Imp.refl _ | refine ⟨?_, ?_⟩))) (by (repeat (first | exact Sub.refl _ | refine Sub.pick (by first | exact p0 | exact pS p0 | exact pS (pS p0) | exact pS (pS (pS p0)) | exact pS (pS (pS (pS p0))) | exact pS (pS (pS (pS (pS p0))))) ?_)))⟩
        have h4 := of_dec' h4
        have hj : j = l.length := by omega
        repeat refine S.seq ?_
        refine S.region ?_
        (refine wL (k := ?_); try (refine L.nil ?_))
        refine L.clearTail (T := tt) tt_ok rfl rfl rfl rfl rfl rfl rfl rfl rfl (by exact sd) rfl rfl rfl rfl (by exact sd) ?_
        refine L.nil ?_
        repeat refine S.seq ?_
        refine S.region ?_
        (refine wL (k := ?_); try (refine L.nil ?_))
        refine L.sliceHead (T := tt) tt_ok rfl rfl rfl rfl rfl rfl rfl rfl rfl (by exact sd) ?_
        (refine wL (k := ?_); try (refine L.nil ?_))
        refine ownAs 60 (n' := (cptK l l.length).length) (gOf Arc.cells (cptK l l.length)) rfl (by rw [← hj]; rfl) (fun i hi => ?_) ?_
        · show (if i < (cptK l j).length then Arc.cells (M.getD i default) else _) = Arc.cells ((cptK l l.length).getD i default)
          have hi' : i < (cptK l j).length := hi
          have hpre := s.pre
          rw [if_pos hi', ← hj, List.getD_eq_getElem?_getD, List.getD_eq_getElem?_getD (l := cptK l j), ← congrArg (fun z => z[i]?) hpre]
          rw [List.getElem?_take, if_pos hi']
        ((repeat refine S.seq ?_); refine S.ret ?_)
        exact E.ret (T := tt) tt_ok rfl rfl (by exact sd) (F' := [(60, .own _ 103 2 (cptK l l.length).length (gOf Arc.cells (cptK l l.length)))]) (Imp.refl _) (by (repeat (first | exact List.nil_sublist _ | refine List.Sublist.cons_cons _ ?_ | refine List.Sublist.cons _ ?_))) ⟨_, rfl, rfl⟩
      have h3 : ¬ (l.getD k default).at0 = (l.getD (k - 1) default).at0 := by rw [← ek]; exact of_dec' h3
      ((repeat refine S.seq ?_); refine wG (k := ?_); try (refine L.nil ?_))
      refine fun a w hR => ⟨⟨k + 1, by omega, by omega, fun j g1 g2 => ?_⟩, by show l.length - (k + 1) < l.length - k; omega, hR.weakP (by (repeat' (first | exact True.intro | exact Imp.refl _ | refine ⟨?_, ?_⟩))) (by (repeat (first | exact Sub.refl _ | refine Sub.pick (by first | exact p0 | exact pS p0 | exact pS (pS p0) | exact pS (pS (pS p0)) | exact pS (pS (pS (pS p0))) | exact pS (pS (pS (pS (pS p0))))) ?_)))⟩
      by_cases e : j = k
      · rw [e]; exact h3
      · exact ik j g1 (by omega)
    have h2 := of_dec' h2
    exact fun a w hR => ⟨⟨(), fun j g1 g2 => ik j g1 (by omega)⟩, hR.weakP (by (repeat' (first | exact True.intro | exact Imp.refl _ | refine ⟨?_, ?_⟩))) (by (repeat (first | exact Sub.refl _ | refine Sub.pick (by first | exact p0 | exact pS p0 | exact pS (pS p0) | exact pS (pS (pS p0)) | exact pS (pS (pS (pS p0))) | exact pS (pS (pS (pS (pS p0))))) ?_)))⟩
  rintro ⟨-, hno⟩
  have e : cptK l l.length = l := by rw [cptK_take (Nat.le_refl _) hno, List.take_length]
  ((repeat refine S.seq ?_); refine wG (k := ?_); try (refine L.nil ?_))
  ((repeat refine S.seq ?_); refine S.ret ?_)
  exact E.ret (T := tt) tt_ok rfl rfl (by exact sd) (F' := [(60, .own (.slice A l.length cap) 103 2 l.length (gOf Arc.cells l))]) (Imp.refl _) (by (repeat (first | exact List.nil_sublist _ | refine List.Sublist.cons_cons _ ?_ | refine List.Sublist.cons _ ?_))) ⟨_, rfl, by rw [e]⟩
end Go.Proofs.YtbogfmgfafdjiaaGreatDoor

/-
  DERIVED: THE SHELF's CONTRACTS AT THIS DUMP, IN PLAIN WORDS (tools/lay-plain.mjs out of 'TryzShelf.lean', which tools/lay-shelf.mjs wrote): THE SAME DECLARATIONS UNDER THE SAME NAMES: 'import', 'namespace', 'open', 'def', 'theorem' AND NOTHING ELSE: no command of the shelf's: FOR A HAND-IN. Each laying: the table of numbers ('.._ren') and one theorem, a field a fact of the dump's own or the kernel's comparison; each contract: ONE APPLICATION.
-/
namespace Go.Proofs
open Go.Shelf
def Tryz.sortArc_ren : Go.Shelf.Ren := ⟨fun | 6 => 131 | 15 => 128 | 14 => 211 | 28 => 209 | 29 => 210 | 20 => 275 | 21 => 276 | 22 => 277 | 23 => 278 | 24 => 279 | 25 => 280 | 26 => 281 | 27 => 282 | 46 => 326 | 47 => 271 | 48 => 272 | 49 => 327 | 50 => 328 | 57 => 351 | n => n, fun | 22 => 80 | 24 => 103 | 25 => 255 | 3 => 3 | 39 => 22 | 0 => 0 | 53 => 101 | 55 => 277 | 4 => 4 | 46 => 323 | 45 => 322 | 50 => 327 | 5 => 5 | 9 => 9 | 66 => 387 | 70 => 391 | 76 => 436 | 77 => 155 | n => n, fun | n => n⟩
theorem Tryz.sortArc : Go.Proofs.SlLaysF0.n6 Tryz.prog Tryz.sortArc_ren := {
  mixed := by kernel_rfl
  f6 := ⟨Tryz.f131.name, by decide, Tryz.func131.trans (congrArg some (by kernel_rfl))⟩
  f14 := ⟨Tryz.f211.name, by decide, Tryz.func211.trans (congrArg some (by kernel_rfl))⟩
  f15 := Tryz.func128.trans (congrArg some (by kernel_rfl))
  f20 := ⟨Tryz.f275.name, by decide, Tryz.func275.trans (congrArg some (by kernel_rfl))⟩
  f21 := ⟨Tryz.f276.name, by decide, Tryz.func276.trans (congrArg some (by kernel_rfl))⟩
  f22 := ⟨Tryz.f277.name, by decide, Tryz.func277.trans (congrArg some (by kernel_rfl))⟩
  f23 := ⟨Tryz.f278.name, by decide, Tryz.func278.trans (congrArg some (by kernel_rfl))⟩
  f24 := ⟨Tryz.f279.name, by decide, Tryz.func279.trans (congrArg some (by kernel_rfl))⟩
  f25 := ⟨Tryz.f280.name, by decide, Tryz.func280.trans (congrArg some (by kernel_rfl))⟩
  f26 := ⟨Tryz.f281.name, by decide, Tryz.func281.trans (congrArg some (by kernel_rfl))⟩
  f27 := ⟨Tryz.f282.name, by decide, Tryz.func282.trans (congrArg some (by kernel_rfl))⟩
  f28 := Tryz.func209.trans (congrArg some (by kernel_rfl))
  f29 := Tryz.func210.trans (congrArg some (by kernel_rfl))
  f46 := ⟨Tryz.f326.name, by decide, Tryz.func326.trans (congrArg some (by kernel_rfl))⟩
  f47 := Tryz.func271.trans (congrArg some (by kernel_rfl))
  f48 := Tryz.func272.trans (congrArg some (by kernel_rfl))
  f49 := ⟨Tryz.f327.name, by decide, Tryz.func327.trans (congrArg some (by kernel_rfl))⟩
  f50 := ⟨Tryz.f328.name, by decide, Tryz.func328.trans (congrArg some (by kernel_rfl))⟩
  f57 := ⟨Tryz.f351.name, by decide, Tryz.func351.trans (congrArg some (by kernel_rfl))⟩
  t0 := Tryz.underlying0
  a0 := Tryz.isAgg0
  z0 := Tryz.sizeOf0
  v0 := Tryz.zeroValue0
  t3 := Tryz.underlying3
  a3 := Tryz.isAgg3
  z3 := Tryz.sizeOf3
  v3 := Tryz.zeroValue3
  t4 := Tryz.underlying4
  a4 := Tryz.isAgg4
  z4 := Tryz.sizeOf4
  v4 := Tryz.zeroValue4
  t5 := Tryz.underlying5
  a5 := Tryz.isAgg5
  z5 := Tryz.sizeOf5
  v5 := Tryz.zeroValue5
  t9 := Tryz.underlying9
  a9 := Tryz.isAgg9
  z9 := Tryz.sizeOf9
  v9 := Tryz.zeroValue9
  t22 := Tryz.underlying80
  a22 := Tryz.isAgg80
  z22 := Tryz.sizeOf80
  v22 := Tryz.zeroValue80
  t25 := Tryz.underlying255
  a25 := Tryz.isAgg255
  z25 := Tryz.sizeOf255
  v25 := Tryz.zeroValue255
  t39 := Tryz.underlying22
  a39 := Tryz.isAgg22
  z39 := Tryz.sizeOf22
  v39 := Tryz.zeroValue22
  t45 := Tryz.underlying322
  a45 := Tryz.isAgg322
  z45 := Tryz.sizeOf322
  v45 := Tryz.zeroValue322
  t46 := Tryz.underlying323
  a46 := Tryz.isAgg323
  z46 := Tryz.sizeOf323
  v46 := Tryz.zeroValue323
  t50 := Tryz.underlying327
  a50 := Tryz.isAgg327
  z50 := Tryz.sizeOf327
  v50 := Tryz.zeroValue327
  t53 := Tryz.underlying101
  a53 := Tryz.isAgg101
  z53 := Tryz.sizeOf101
  v53 := Tryz.zeroValue101
  t55 := Tryz.underlying277
  a55 := Tryz.isAgg277
  z55 := Tryz.sizeOf277
  v55 := Tryz.zeroValue277
  t66 := Tryz.underlying387
  a66 := Tryz.isAgg387
  z66 := Tryz.sizeOf387
  v66 := Tryz.zeroValue387
  t70 := Tryz.underlying391
  a70 := Tryz.isAgg391
  z70 := Tryz.sizeOf391
  v70 := Tryz.zeroValue391
  t76 := Tryz.underlying436
  a76 := Tryz.isAgg436
  z76 := Tryz.sizeOf436
  v76 := Tryz.zeroValue436
  t77 := Tryz.underlying155
  a77 := Tryz.isAgg155
  z77 := Tryz.sizeOf155
  v77 := Tryz.zeroValue155 }
end Go.Proofs

/- What the sorts compare by. -/
namespace Go.Proofs.YtbogfmgfafdjiaaGreatDoor
set_option linter.unusedVariables false
set_option linter.unusedSimpArgs false
set_option maxHeartbeats 8000000
open Go.Shelf Go.RowKit Go.Lib Go.Sort
set_option maxRecDepth 100000

/-- As cmp.Compare says it. -/
def cmpI (x y : Int) : Int := if x < y then -1 else if x > y then 1 else 0
theorem nan32 (x : Int) (w : World) : Calls Tryz.prog 212 #[.int .u32 x] w fun e w' => e = .returned (.bool false) ∧ w' = w := by
  go_enter Tryz.func212, Tryz.ntmps212
  go_wp2
  go_ret
  exact ⟨by simp, rfl⟩
theorem cmp32 (x y : Int) (w : World) : Calls Tryz.prog 134 #[.int .u32 x, .int .u32 y] w fun e w' => e = .returned (.int .i64 (cmpI x y)) ∧ w' = w := by
  go_enter Tryz.func134, Tryz.ntmps134
  go_wp2_with (go_at_call 212; refine (nan32 _ _).mono ?_; rintro e w' ⟨rfl, hw⟩; rw [hw])
  all_goals (go_ret; refine ⟨?_, rfl⟩; unfold cmpI; (repeat' split) <;> first | rfl | (exfalso; omega))
theorem half1 (x y : Arc) (W : World) : Calls Tryz.prog 253 #[.agg #[.int .u32 x.at0, .int .i64 x.shard], .agg #[.int .u32 y.at0, .int .i64 y.shard]] W fun e w' => e = .returned (.int .i64 (cmpI x.at0 y.at0)) ∧ ∃ q os', w' = grow (W.drewN q) os' := by
  have hcon := fun W' => cmp32 x.at0 y.at0 W'
  generalize cmpI x.at0 y.at0 = r at hcon ⊢
  go_enter Tryz.func253, Tryz.ntmps253
  go_wp2_with (go_at_call 134; refine (hcon _).mono ?_; rintro e w' ⟨rfl, rfl⟩)
  go_ret
  exact ⟨rfl, 0, _, by rw [alloc_eq_grow, alloc_eq_grow, grow_grow]; rfl⟩
end Go.Proofs.YtbogfmgfafdjiaaGreatDoor

/- Contracts out of laws on rows of one's own. -/
namespace Go.Proofs.YtbogfmgfafdjiaaGreatDoor
set_option linter.unusedVariables false
set_option linter.unusedSimpArgs false
set_option maxHeartbeats 8000000
open Go.RowKit

/-- The cells of one element. -/
structure Cz (sz : Nat) where
  l : List Value
  len : l.length = sz
  one : ∀ u ∈ l, u.oneCell' = true

theorem chunks {sz : Nat} : ∀ (n : Nat) (us : List Value), us.length = n * sz → (∀ u ∈ us, u.oneCell' = true) → ∃ L : List (Cz sz), L.length = n ∧ fl Cz.l L = us
  | 0, us, h, _ => ⟨[], rfl, by have : us = [] := List.eq_nil_of_length_eq_zero (by simpa using h); rw [this]; rfl⟩
  | n + 1, us, h, h1 => by
    have hl : us.length = n * sz + sz := by rw [h, Nat.add_mul, Nat.one_mul]
    obtain ⟨L, e1, e2⟩ := chunks (sz := sz) n (us.drop sz) (by rw [List.length_drop]; omega) fun u hu => h1 u (List.mem_of_mem_drop hu)
    refine ⟨⟨us.take sz, by rw [List.length_take]; omega, fun u hu => h1 u (List.mem_of_mem_take hu)⟩ :: L, by simp [e1], ?_⟩
    rw [fl_cons, e2]
    exact List.take_append_drop sz us

/-- A row of one's own, by elements. -/
theorem Row.sat.elems {own : Nat → Prop} {w : World} {x : Value} {E sz n : Nat} {g : Nat → List AV} (h : Row.sat own w (.own x E sz n g)) : ∃ L : List (Cz sz), L.length = n ∧ w.ownsRow 0 E sz x L.length (fl Cz.l L) ∧ (∀ i, i < n → (g i).length = sz) ∧
    ∀ i (hi : i < L.length) (j : Nat) A, (g i)[j]? = some A → ∃ u, L[i].l[j]? = some u ∧ Rep own w A u := by
  obtain ⟨us, ho, hlen, h1, hr⟩ := h
  obtain ⟨L, rfl, rfl⟩ := chunks n us ho.1 h1
  refine ⟨L, rfl, ho, hlen, fun i hi j A hA => ?_⟩
  obtain ⟨u, hu, hrep⟩ := hr i hi j A hA
  have hj : j < sz := by have := (List.getElem?_eq_some_iff.1 hA).1; rw [hlen i hi] at this; exact this
  rw [fl_get (fun c : Cz sz => c.len) L i hi j hj] at hu
  exact ⟨u, hu, hrep⟩
theorem Row.sat.of_elems {own : Nat → Prop} {w : World} {x : Value} {E sz : Nat} {g : Nat → List AV} {L : List (Cz sz)} (ho : w.ownsRow 0 E sz x L.length (fl Cz.l L)) (hlen : ∀ i, i < L.length → (g i).length = sz)
    (hr : ∀ i (hi : i < L.length) (j : Nat) A, (g i)[j]? = some A → ∃ u, L[i].l[j]? = some u ∧ Rep own w A u) : Row.sat own w (.own x E sz L.length g) := by
  refine ⟨fl Cz.l L, ho, hlen, fun u hu => ?_, fun i hi j A hA => ?_⟩
  · obtain ⟨c, _, hc⟩ := List.mem_flatMap.1 hu; exact c.one u hc
  · obtain ⟨u, hu, hrep⟩ := hr i hi j A hA
    have hj : j < sz := by have := (List.getElem?_eq_some_iff.1 hA).1; rw [hlen i hi] at this; exact this
    exact ⟨u, by rw [fl_get (fun c : Cz sz => c.len) L i hi j hj]; exact hu, hrep⟩

/-- What comes back where one row of one's own has turned. -/
theorem ret_row {off : Nat → Prop} {id : Nat} {r r' : Row} {w w' : World} (hS : Sat off [(id, r)] w) (hoff : ∀ b, off b → b < w.heap.size) {row : Option Nat} (hg : w.grownBy w' row) (hrow : ∀ b, row = some b → b < w.heap.size → r.block = some b)
    (hk : ∀ b, r'.block = some b → r.block = some b ∨ w.heap.size ≤ b) (hr : Ext (Own off [(id, r)]) (Own off [(id, r')]) w w' → r'.sat (Own off [(id, r')]) w') :
    Sat off [(id, r')] w' ∧ Kept (blocksOf [(id, r)]) w w' ∧ ∀ s ∈ [(id, r')], ∀ b, s.2.block = some b → blocksOf [(id, r)] b ∨ w.heap.size ≤ b := by
  obtain ⟨g1, -⟩ := Sat.turn (L1 := []) (L2 := []) (i' := id) (r' := r') hS hoff hg.size (fun b hlt hne => hg.block b hlt fun e => hne (hrow b e.symm hlt)) hk hr
  refine ⟨g1, ⟨hg.os, hg.tape, hg.output, hg.size, fun b hlt hn => hg.block b hlt fun e => hn ⟨(id, r), by simp, hrow b e.symm hlt⟩⟩, fun s hs b hb => ?_⟩
  rw [List.mem_singleton] at hs
  subst hs
  rcases hk b hb with h | h
  · exact .inl ⟨(id, r), by simp, h⟩
  · exact .inr h

end Go.Proofs.YtbogfmgfafdjiaaGreatDoor

/- slices.SortFunc at arcs, as a contract. -/
namespace Go.Proofs.YtbogfmgfafdjiaaGreatDoor
set_option linter.unusedVariables false
set_option linter.unusedSimpArgs false
set_option maxHeartbeats 8000000
open Go.Shelf Go.RowKit Go.Lib Go.Sort
set_option maxRecDepth 4000

def encA (a : Arc) : List Value := [.int .u32 a.at0, .int .i64 a.shard]
theorem aggA : ∀ w, (isAgg (Tryz.sortArc_ren.t 24)).run Tryz.prog w = .ok true w := fun w => by kernel_rfl
theorem sizeA : ∀ w, (Go.sizeOf (Tryz.sortArc_ren.t 24)).run Tryz.prog w = .ok 2 w := fun w => by kernel_rfl
/-- The cells of an own row of arcs. -/
theorem flat_of : ∀ (l : List Arc) (us : List Value), us.length = l.length * 2 → (∀ i, i < l.length → ∀ (j : Nat) A, (gOf Arc.cells l i)[j]? = some A → ∃ u, us[i * 2 + j]? = some u ∧ ∀ v, A = .v v → u = v) → us = l.flatMap encA
  | [], us, h, _ => List.eq_nil_of_length_eq_zero (by simpa using h)
  | a :: t, us, h, hg => by
    match us, h with
    | [], h => simp at h
    | [_], h => simp only [List.length_cons, List.length_nil] at h; omega
    | x :: y :: r, h =>
      have h0 := hg 0 (by simp) 0 _ rfl
      have h1 := hg 0 (by simp) 1 _ rfl
      obtain ⟨u0, e0, f0⟩ := h0
      obtain ⟨u1, e1, f1⟩ := h1
      have g0 := f0 _ rfl
      have g1 := f1 _ rfl
      have e0 : some x = some u0 := e0
      have e1 : some y = some u1 := e1
      cases e0
      cases e1
      rw [List.flatMap_cons, g0, g1]
      show _ = (Value.int .u32 a.at0) :: (Value.int .i64 a.shard) :: (t.flatMap encA)
      congr 2
      refine flat_of t r (by simp only [List.length_cons] at h; omega) fun i hi j A hA => ?_
      obtain ⟨u, e, f⟩ := hg (i + 1) (by simpa using hi) j A hA
      refine ⟨u, ?_, f⟩
      rw [show (i + 1) * 2 + j = (i * 2 + j) + 2 by omega] at e
      exact e
theorem encA_len (a : Arc) : (encA a).length = 2 := rfl
theorem flatK_list (l : List Arc) : (flatK encA 2 l.toArray).toList = l.flatMap encA := by
  apply List.ext_getElem?
  intro t
  have hs : (flatK encA 2 l.toArray).size = l.length * 2 := by simp
  have hlen : (l.flatMap encA).length = l.length * 2 := by
    have : ∀ q : List Arc, (q.flatMap encA).length = q.length * 2 := fun q => by
      induction q with
      | nil => rfl
      | cons a t ih => rw [List.flatMap_cons, List.length_append, ih, encA_len, List.length_cons]; omega
    exact this l
  by_cases h : t < l.length * 2
  · have e := fl_get encA_len l (t / 2) (by omega) (t % 2) (by omega)
    rw [show t / 2 * 2 + t % 2 = t by omega] at e
    show _ = (fl encA l)[t]?
    rw [e, Array.getElem?_toList, Array.getElem?_eq_getElem (by rw [hs]; exact h)]
    have g := get_flatK encA 2 l.toArray t (by simpa using h)
    rw [getElem!_pos _ t (by rw [hs]; exact h)] at g
    rw [g, getElem!_pos l.toArray (t / 2) (by simp; omega)]
    have hj : t % 2 < (encA l[t / 2]).length := by rw [encA_len]; omega
    rw [List.getElem?_eq_getElem hj]
    simp only [List.getElem_toArray]
    rw [getElem!_pos _ (t % 2) hj]
  · rw [List.getElem?_eq_none (by rw [Array.length_toList, hs]; omega), List.getElem?_eq_none (by omega)]
end Go.Proofs.YtbogfmgfafdjiaaGreatDoor

/- slices.SortFunc at arcs, the bridge. -/
namespace Go.Proofs.YtbogfmgfafdjiaaGreatDoor
set_option linter.unusedVariables false
set_option linter.unusedSimpArgs false
set_option maxHeartbeats 8000000
open Go.Shelf Go.RowKit Go.Lib Go.Sort
set_option maxRecDepth 4000

theorem sort_fnc (id : Nat) (l : List Arc) (x : Value) (hl : 0 < l.length) (hb : l.length ≤ 100000) (cf : Arc → Arc → Int) (hO : SWO (ltOf cf)) (g : Nat) (eg : ∀ args w, (callFunc g args).run Tryz.prog w = .ok (.enter g args) w)
    (hc : ∀ a b W, Calls Tryz.prog g #[.agg (encA a).toArray, .agg (encA b).toArray] W fun e w' => e = .returned (.int .i64 (cf a b)) ∧ ∃ q os', w' = grow (W.drewN q) os') :
    FnC Tryz.prog 131 [.ref id x, .fn (.func g) []] [(id, .own x 103 2 l.length (gOf Arc.cells l))]
      (fun r F' => r = .tup [] ∧ ∃ d : List Arc, d.Perm l ∧ d.Pairwise (fun a b => ltOf cf b a = false) ∧ F' = [(id, .own x 103 2 d.length (gOf Arc.cells d))]) := by
  intro off w vs hoff hS hlv hr
  match vs, hlv with
  | [v0, v1], _ =>
    have e0 := hr 0 _ v0 rfl rfl
    have e1 := hr 1 _ v1 rfl rfl
    cases e0
    cases e1 with
    | @fn _ _ us' hl' hh' =>
    obtain rfl : us' = [] := List.eq_nil_of_length_eq_zero hl'
    obtain ⟨us, ho, hlen, h1, hrr⟩ := hS.rows _ (List.mem_singleton.2 rfl)
    have hus : us = l.flatMap encA := flat_of l us ho.1 fun i hi j A hA => by
      obtain ⟨u, hu, hrep⟩ := hrr i hi j A hA
      exact ⟨u, hu, fun v hv => by subst hv; cases hrep; rfl⟩
    rcases ho.2 with ⟨rfl, h0⟩ | ⟨g0, cap, cur, rfl, hbg, hh, hnc, hcm, hcs, htk⟩
    · omega
    have hblk : g0 < w.heap.size := (Array.getElem?_eq_some_iff.1 hh).1
    have hfl := flatK_list l
    have hfs : (flatK encA 2 l.toArray).size = l.length * 2 := by simp
    have hH : HoldsK encA 2 w g0 0 l.toArray := fun j hj => by
      have hj' : j < l.length * 2 := by rw [hfs] at hj; exact hj
      have hcj : j < cur.size := by rw [hcs]; omega
      refine ⟨?_, ?_⟩
      · have e2 : cur[j]? = (flatK encA 2 l.toArray)[j]? := by
          rw [← Array.getElem?_toList, ← Array.getElem?_toList, hfl, ← hus, ← htk, List.getElem?_take_of_lt hj']
        rw [Array.getElem?_eq_getElem (show j < (flatK encA 2 l.toArray).size by rw [hfs]; exact hj')] at e2
        show w.cell? _ = some ((flatK encA 2 l.toArray)[j]!)
        rw [getElem!_pos _ j (by rw [hfs]; exact hj')]
        simp only [World.cell?, hh, Nat.zero_add]
        simpa using e2
      · simp [World.frozen?, hh]
    have hcon := AnyQ.slices_SortFunc Tryz.sortArc 2 aggA sizeA encA (fun _ => rfl) (fun a v hv => by simp [encA] at hv; rcases hv with rfl | rfl <;> rfl) cf hO g #[] g0 0 cap l.toArray w eg (fun m os dk _ a b => hc a b _) hH hblk (by simp; omega)
    have hcon : Calls Tryz.prog 131 #[.slice (some ⟨g0, 0, none⟩) l.toArray.size cap, .func (.func g) #[] #[]] w _ := hcon
    refine hcon.mono fun e w' hp => ?_
    obtain ⟨rfl, d', n, os, hperm, hsort, hw⟩ := hp
    have hsz : d'.toList.length = l.length := by have := hperm.1; simpa using this
    have hpm : d'.toList.Perm l := by
      have := hperm.2.2
      have e1 : d'.extract 0 l.toArray.size = d' := by rw [← hperm.1]; simp
      have e2 : l.toArray.extract 0 l.toArray.size = l.toArray := by simp
      rw [e1, e2] at this
      exact this
    have hF : (flatK encA 2 d').toList = d'.toList.flatMap encA := flatK_list d'.toList
    have hF2 : (flatK encA 2 d').size = l.length * 2 := by rw [size_flatK]; have : d'.size = l.length := by simpa using hsz
                                                           rw [this]
    have hheap : w'.heap[g0]? = some (.cells (putCells (fun v : Value => v) 0 (flatK encA 2 d') cur) 103 (0, 0)) := by
      rw [hw, sortWorldK, heap_grow_old _ _ (by simp [putRowK, putRow, mapBlock, Sort.ahead]; exact hblk)]
      simp [putRowK, putRow, mapBlock, Sort.ahead, Array.getElem?_modify, hh, onCells]
      rfl
    have hgr : w.grownBy w' (some g0) := by
      rw [hw]
      refine ⟨rfl, rfl, rfl, ?_, fun k hk hne => ?_⟩
      · simp [sortWorldK, grow, putRowK, putRow, mapBlock, Sort.ahead]
      · rw [sortWorldK, heap_grow_old _ _ (by simp [putRowK, putRow, mapBlock, Sort.ahead]; exact hk)]
        have : g0 ≠ k := fun e => hne (by rw [e])
        simp [putRowK, putRow, mapBlock, Sort.ahead, Array.getElem?_modify, this]
    have hpw : d'.toList.Pairwise (fun a b => ltOf cf b a = false) := List.pairwise_iff_getElem.2 fun i j hi hj hij => by
      have hd : d'.size = l.length := by simpa using hsz
      have := hsort i j (Nat.zero_le _) hij (by simp; rw [hsz] at hj; exact hj)
      rw [getElem!_pos d' j (by simpa using hj), getElem!_pos d' i (by simpa using hi)] at this
      simpa using this
    have hfm : (d'.toList.flatMap encA).length = d'.toList.length * 2 := by rw [← hF, Array.length_toList, hF2, hsz]
    obtain ⟨q1, q2, q3⟩ := ret_row (r' := .own (.slice (some ⟨g0, 0, none⟩) l.length cap) 103 2 d'.toList.length (gOf Arc.cells d'.toList)) hS hoff hgr (fun b hb _ => by cases hb; rfl) (fun b hb => by left; exact hb) fun he => by
      refine ⟨d'.toList.flatMap encA, ⟨hfm, .inr ⟨g0, cap, _, by rw [hsz], hbg, hheap, by rw [hsz]; exact hnc, hcm, by simp [putCells, hcs], ?_⟩⟩, fun i hi => rfl, fun u hu => ?_, fun i hi j A hA => ?_⟩
      · apply List.ext_getElem?
        intro t
        rw [hsz]
        by_cases ht : t < l.length * 2
        · rw [List.getElem?_take_of_lt ht, ← hF, Array.getElem?_toList, Array.getElem?_toList]
          have hct : t < cur.size := by rw [hcs]; omega
          have hft : t < (flatK encA 2 d').size := by rw [hF2]; exact ht
          rw [Array.getElem?_eq_getElem hft]
          simp only [putCells, Array.getElem?_mapIdx, Array.getElem?_eq_getElem hct, Option.map_some]
          rw [if_pos ⟨Nat.zero_le _, by omega⟩, Nat.sub_zero, getElem!_pos _ t hft]
        · rw [List.getElem?_eq_none (by rw [List.length_take]; omega), List.getElem?_eq_none (by rw [hfm, hsz]; omega)]
      · obtain ⟨a, -, ha⟩ := List.mem_flatMap.1 hu
        simp [encA] at ha
        rcases ha with rfl | rfl <;> rfl
      · have hj : j < 2 := (List.getElem?_eq_some_iff.1 hA).1
        have e := fl_get encA_len d'.toList i hi j hj
        have hg : gOf Arc.cells d'.toList i = (d'.toList[i]).cells := by rw [gOf, getD_get hi]
        rw [hg] at hA
        have : j = 0 ∨ j = 1 := by omega
        rcases this with rfl | rfl
        · exact ⟨.int .u32 (d'.toList[i]).at0, e, by cases hA; exact .v _⟩
        · exact ⟨.int .i64 (d'.toList[i]).shard, e, by cases hA; exact .v _⟩
    exact ⟨_, _, _, ⟨rfl, d'.toList, hpm, hpw, rfl⟩, rfl, .tup (us := []) rfl (by simp), q1, q2, q3⟩
end Go.Proofs.YtbogfmgfafdjiaaGreatDoor

/- The order by points. -/
namespace Go.Proofs.YtbogfmgfafdjiaaGreatDoor
set_option linter.unusedVariables false
set_option linter.unusedSimpArgs false
set_option maxHeartbeats 8000000
open Go.Shelf Go.RowKit Go.Lib Go.Sort
set_option maxRecDepth 4000

theorem lt_at (a b : Arc) : ltOf (fun x y : Arc => cmpI x.at0 y.at0) a b = decide (a.at0 < b.at0) := by
  show decide (cmpI a.at0 b.at0 < 0) = _
  unfold cmpI
  by_cases h : a.at0 < b.at0
  · simp [h]
  · rw [if_neg h]
    split <;> simp [h]
theorem swo_at : SWO (ltOf fun x y : Arc => cmpI x.at0 y.at0) where
  irrefl x := by rw [lt_at]; simp
  trans x y z h1 h2 := by rw [lt_at] at *; simp at *; omega
  ntrans x y z h1 h2 := by rw [lt_at] at *; simp at *; omega
theorem enter_half (args : Array Value) (w : World) : (callFunc 253 args).run Tryz.prog w = .ok (.enter 253 args) w := enters_of Tryz.func253 (by kernel_rfl) rfl args w
/-- Sorted by points. -/
theorem sort_half (id : Nat) (l : List Arc) (x : Value) (hl : 0 < l.length) (hb : l.length ≤ 100000) :
    FnC Tryz.prog 131 [.ref id x, .fn (.func 253) []] [(id, .own x 103 2 l.length (gOf Arc.cells l))]
      (fun r F' => r = .tup [] ∧ ∃ d : List Arc, d.Perm l ∧ d.Pairwise (fun a b => a.at0 ≤ b.at0) ∧ F' = [(id, .own x 103 2 d.length (gOf Arc.cells d))]) := by
  intro off w vs h1 h2 h3 h4
  refine (sort_fnc id l x hl hb _ swo_at 253 enter_half (fun a b W => half1 a b W) off w vs h1 h2 h3 h4).mono ?_
  rintro e w' ⟨r, F', u, ⟨hr, d, hd1, hd2, hF⟩, hrest⟩
  exact ⟨r, F', u, ⟨hr, d, hd1, hd2.imp fun {a b} h => by rw [lt_at] at h; simp at h; omega, hF⟩, hrest⟩
end Go.Proofs.YtbogfmgfafdjiaaGreatDoor

/- The order of marks: cmp.Or. -/
namespace Go.Proofs.YtbogfmgfafdjiaaGreatDoor
set_option linter.unusedVariables false
set_option linter.unusedSimpArgs false
set_option maxHeartbeats 8000000
open Go.RowKit Go.Lib
set_option maxRecDepth 100000

def orI (a b : Int) : Int := if a = 0 then b else a
theorem or_p (a b : Int) (g : Nat) (W : World) (h0 : W.cell? ⟨g, 0, none⟩ = some (.int .i64 a)) (h1 : W.cell? ⟨g, 1, none⟩ = some (.int .i64 b)) :
    Calls Tryz.prog 133 #[.slice (some ⟨g, 0, none⟩) 2 2] W fun e w' => e = .returned (.int .i64 (orI a b)) ∧ w' = W := by
  have hf : a ≠ 0 → orI a b = a := fun h => by rw [orI, if_neg h]
  have hg : a = 0 → orI a b = b := fun h => by rw [orI, if_pos h]
  have hb : b = 0 → b = 0 := id
  go_enter Tryz.func133, Tryz.ntmps133
  by_cases ha : a = 0
  · subst ha
    have e1 := hg rfl
    rw [e1]
    clear e1 hf hg
    by_cases hz : b = 0
    · subst hz
      go_wp2
      refine wp_loop_rounds 3 ?_
      rw [rounds_succ]
      go_wp2
      rw [rounds_succ]
      go_wp2
      rw [rounds_succ]
      go_wp2
      go_ret
      exact ⟨rfl, rfl⟩
    · go_wp2
      refine wp_loop_rounds 2 ?_
      rw [rounds_succ]
      go_wp2
      rw [rounds_succ]
      go_wp2
      go_ret
      exact ⟨rfl, rfl⟩
  · rw [hf ha]
    clear hf hg
    go_wp2
    refine wp_loop_rounds 1 ?_
    rw [rounds_succ]
    go_wp2
    go_ret
    exact ⟨rfl, rfl⟩
end Go.Proofs.YtbogfmgfafdjiaaGreatDoor

/- Sorted by points, then by shards. -/
namespace Go.Proofs.YtbogfmgfafdjiaaGreatDoor
set_option linter.unusedVariables false
set_option linter.unusedSimpArgs false
set_option maxHeartbeats 8000000
open Go.Shelf Go.RowKit Go.Lib Go.Sort
set_option maxRecDepth 100000

theorem nan64 (x : Int) (w : World) : Calls Tryz.prog 213 #[.int .i64 x] w fun e w' => e = .returned (.bool false) ∧ w' = w := by
  go_enter Tryz.func213, Tryz.ntmps213
  go_wp2
  go_ret
  exact ⟨by simp, rfl⟩
theorem cmp64 (x y : Int) (w : World) : Calls Tryz.prog 135 #[.int .i64 x, .int .i64 y] w fun e w' => e = .returned (.int .i64 (cmpI x y)) ∧ w' = w := by
  go_enter Tryz.func135, Tryz.ntmps135
  go_wp2_with (go_at_call 213; refine (nan64 _ _).mono ?_; rintro e w' ⟨rfl, hw⟩; rw [hw])
  all_goals (go_ret; refine ⟨?_, rfl⟩; unfold cmpI; (repeat' split) <;> first | rfl | (exfalso; omega))
theorem two_blocks (W : World) (o1 o2 : Obj) : ((W.alloc o1).alloc o2).drew.heap[W.heap.size]? = some o1 ∧ ((W.alloc o1).alloc o2).drew.heap[W.heap.size + 1]? = some o2 ∧ ((W.alloc o1).alloc o2).drew = grow (W.drewN 1) #[o1, o2] := by
  refine ⟨?_, ?_, ?_⟩
  · show ((W.heap.push o1).push o2)[W.heap.size]? = _
    rw [Array.getElem?_push, Array.getElem?_push, if_neg (by simp), if_pos rfl]
  · show ((W.heap.push o1).push o2)[W.heap.size + 1]? = _
    rw [Array.getElem?_push, if_pos (by simp)]
  · rw [alloc_eq_grow, alloc_eq_grow, grow_grow]; rfl
def cmpA (x y : Arc) : Int := orI (cmpI x.at0 y.at0) (cmpI x.shard y.shard)
theorem build2 (x y : Arc) (W : World) : Calls Tryz.prog 132 #[.agg #[.int .u32 x.at0, .int .i64 x.shard], .agg #[.int .u32 y.at0, .int .i64 y.shard]] W fun e w' => e = .returned (.int .i64 (cmpA x y)) ∧ ∃ q os', w' = grow (W.drewN q) os' := by
  have hcon := fun W' => cmp32 x.at0 y.at0 W'
  have hcon2 := fun W' => cmp64 x.shard y.shard W'
  have hor := or_p (cmpI x.at0 y.at0) (cmpI x.shard y.shard)
  rw [cmpA]
  generalize orI (cmpI x.at0 y.at0) (cmpI x.shard y.shard) = r0 at hor ⊢
  generalize cmpI x.at0 y.at0 = r at hcon hor
  generalize cmpI x.shard y.shard = s at hcon2 hor
  go_enter Tryz.func132, Tryz.ntmps132
  go_wp2_with fail
  obtain ⟨w1, hw1⟩ : ∃ w1, w1 = ((W.alloc (Obj.cells #[Value.int IntKind.u32 x.at0, Value.int IntKind.i64 x.shard] 103 (0, 0))).alloc (Obj.cells #[Value.int IntKind.u32 y.at0, Value.int IntKind.i64 y.shard] 103 (0, 0))) := ⟨_, rfl⟩
  obtain ⟨w2, hw2⟩ : ∃ w2, w2 = w1.drew := ⟨_, rfl⟩
  obtain ⟨b1, b2, b3⟩ := two_blocks W (Obj.cells #[Value.int IntKind.u32 x.at0, Value.int IntKind.i64 x.shard] 103 (0, 0)) (Obj.cells #[Value.int IntKind.u32 y.at0, Value.int IntKind.i64 y.shard] 103 (0, 0))
  rw [← hw1, ← hw2] at b1 b2 b3
  have c1 : w2.cell? ⟨W.heap.size, 0, none⟩ = some (.int .u32 x.at0) := by simp only [World.cell?, b1]; rfl
  have c2 : w2.cell? ⟨W.heap.size, 1, none⟩ = some (.int .i64 x.shard) := by simp only [World.cell?, b1]; rfl
  have c3 : w2.cell? ⟨W.heap.size + 1, 0, none⟩ = some (.int .u32 y.at0) := by simp only [World.cell?, b2]; rfl
  have c4 : w2.cell? ⟨W.heap.size + 1, 1, none⟩ = some (.int .i64 y.shard) := by simp only [World.cell?, b2]; rfl
  have hq : ∃ q os', w2 = grow (W.drewN q) os' := ⟨1, _, b3⟩
  clear b1 b2 b3
  rw [← hw1]
  refine wp_region_still_tail 10 mixed (by kernel_rfl) ?_
  simp only [List.take_succ_cons, List.take_zero, List.drop_succ_cons, List.drop_zero]
  change wpStill _ _ w1.drew _ _ _
  rw [← hw2]
  replace hw2 := Lib.hid hw2
  replace hw1 := Lib.hid hw1
  replace hq := Lib.hid hq
  iterate 4 still_step
  still_call (hcon _)
  iterate 4 still_step
  still_call (hcon2 _)
  refine wpStill_nil ?_
  change wpList _ _ _ _ _ w1.drew
  rw [← hw2.out]
  clear hw2 hw1 c1 c2 c3 c4
  go_wp2_with (go_at_call 133; refine (hor _ _ (by simp) (by simp)).mono ?_; rintro e w' ⟨rfl, rfl⟩)
  go_ret
  obtain ⟨q, os', h⟩ := hq.out
  exact ⟨rfl, q, _, by rw [h, alloc_eq_grow, grow_grow]⟩
theorem cmpA_neg (a b : Arc) : (cmpA a b < 0) ↔ (a.at0 < b.at0 ∨ a.at0 = b.at0 ∧ a.shard < b.shard) := by
  unfold cmpA orI cmpI
  by_cases h1 : a.at0 < b.at0
  · simp [h1]
  · by_cases h2 : a.at0 > b.at0
    · simp [h1, h2]; omega
    · have h3 : a.at0 = b.at0 := by omega
      by_cases h4 : a.shard < b.shard
      · simp [h3, h4]
      · by_cases h5 : a.shard > b.shard
        · simp [h3, h4, h5]
        · simp [h3, h4, h5]
theorem lt_lex (a b : Arc) : ltOf cmpA a b = decide (a.at0 < b.at0 ∨ a.at0 = b.at0 ∧ a.shard < b.shard) := by
  show decide (cmpA a b < 0) = _
  rw [decide_eq_decide]
  exact cmpA_neg a b
theorem swo_lex : SWO (ltOf cmpA) where
  irrefl x := by rw [lt_lex]; simp
  trans x y z h1 h2 := by rw [lt_lex] at *; simp at *; omega
  ntrans x y z h1 h2 := by rw [lt_lex] at *; simp at *; omega
theorem enter_build (args : Array Value) (w : World) : (callFunc 132 args).run Tryz.prog w = .ok (.enter 132 args) w := enters_of Tryz.func132 (by kernel_rfl) rfl args w
/-- Sorted by points, then by shards. -/
theorem sort_build (id : Nat) (l : List Arc) (x : Value) (hl : 0 < l.length) (hb : l.length ≤ 100000) :
    FnC Tryz.prog 131 [.ref id x, .fn (.func 132) []] [(id, .own x 103 2 l.length (gOf Arc.cells l))]
      (fun r F' => r = .tup [] ∧ ∃ d : List Arc, d.Perm l ∧ d.Pairwise lexA ∧ F' = [(id, .own x 103 2 d.length (gOf Arc.cells d))]) := by
  intro off w vs h1 h2 h3 h4
  refine (sort_fnc id l x hl hb cmpA swo_lex 132 enter_build (fun a b W => build2 a b W) off w vs h1 h2 h3 h4).mono ?_
  rintro e w' ⟨r, F', u, ⟨hr, d, hd1, hd2, hF⟩, hrest⟩
  exact ⟨r, F', u, ⟨hr, d, hd1, hd2.imp fun {a b} h => by rw [lt_lex] at h; simp at h; unfold lexA; omega, hF⟩, hrest⟩
end Go.Proofs.YtbogfmgfafdjiaaGreatDoor

/- slices.IndexFunc over numbers, where the function looks at what is one's own. -/
namespace Go.Proofs.YtbogfmgfafdjiaaGreatDoor
set_option linter.unusedVariables false
set_option linter.unusedSimpArgs false
set_option maxHeartbeats 8000000
open Go.RowKit
set_option maxRecDepth 4000

theorem IxI {n f : Nat} (el : Nat → Int) {caps : List AV} {F : Rows} (p : Nat → Bool) (hf : callable Tryz.prog f = true) (hp : ∀ i, i < n → FnC Tryz.prog f (.v (.int .i64 (el i)) :: caps) F (fun r F' => r = .v (.bool (p i)) ∧ F' = F)) :
    FnC Tryz.prog 82 [.lst 1 n (fun i => [.v (.int .i64 (el i))]), .fn (.func f) caps] F (fun r F' => r = .v (.int .i64 (pidx p n)) ∧ F' = F) := by
  refine FnC.intro Tryz.func82 rfl Tryz.ntmps82 rfl ?_; intro off w0
  refine lenAt (sz := 1) (n := n) (g := fun i => [.v (.int .i64 (el i))]) 0 rfl fun hn => ?_
  ((repeat refine S.seq ?_); refine wG (k := ?_); try (refine L.nil ?_))
  ((repeat refine S.seq ?_); refine wG (k := ?_); try (refine L.nil ?_))
  refine S.block (S.loop (ι := { k : Nat // k ≤ n ∧ ∀ j, j < k → p j = false }) (fun k => [(8, .v (.int .i64 k.1)), (7, .v (.int .i64 n)), (1, .fn (.func f) caps), (0, .lst 1 n (fun i => [.v (.int .i64 (el i))]))]) (fun _ => F) (fun k => n - k.1) ?_ ?_)
  · exact fun a w h => ⟨⟨0, Nat.zero_le _, fun j hj => absurd hj (by omega)⟩, h.weak (by (repeat' (first | exact True.intro | exact Imp.refl _ | refine ⟨?_, ?_⟩))) (List.Sublist.refl _)⟩
  rintro ⟨k, hk, hno⟩
  dsimp only
  ((repeat refine S.seq ?_); refine wG (k := ?_); try (refine L.nil ?_))
  refine S.seq (S.cond rfl (fun h => S.skip ?_) (fun h => S.exit ?_))
  · have h := of_dec h
    refine S.seq (S.block ?_)
    ((repeat refine S.seq ?_); refine wG (k := ?_); try (refine L.nil ?_))
    ((repeat refine S.seq ?_); refine wG (k := ?_); try (refine L.nil ?_))
    refine L.call (G := F) (H := []) rfl rfl rfl rfl rfl rfl rfl ⟨trivial, by exact sd⟩ hf (Imps.refl (.v (.int .i64 (el k)) :: caps)) (by simp) (hp k (by omega)) ?_
    rintro r F' ⟨rfl, rfl⟩
    refine L.nil ?_
    refine rowsEq F' (List.append_nil _) ?_
    refine S.cond rfl (fun hb => ?_) (fun hb => S.skip ?_)
    · ((repeat refine S.seq ?_); refine wG (k := ?_); try (refine L.nil ?_))
      refine S.ret (E.ret (T := tt) tt_ok rfl rfl (by exact sd) (Imp.of_eq ?_) (List.Sublist.refl _) ⟨rfl, rfl⟩)
      rw [pidx_some (by omega) hb hno]
      rfl
    · ((repeat refine S.seq ?_); refine wG (k := ?_); try (refine L.nil ?_))
      exact fun a w hR => ⟨⟨k + 1, by omega, fun j hj => by rcases Nat.lt_or_ge j k with h | h; exact hno j h; (have : j = k := by omega); subst this; exact hb⟩, by simp only; omega, hR.weak (by (repeat' (first | exact True.intro | exact Imp.refl _ | refine ⟨?_, ?_⟩))) (List.Sublist.refl _)⟩
  · have h := of_dec' h
    ((repeat refine S.seq ?_); refine wG (k := ?_); try (refine L.nil ?_))
    refine S.ret (E.ret (T := tt) tt_ok rfl rfl (by exact sd) (Imp.of_eq ?_) (List.Sublist.refl _) ⟨rfl, rfl⟩)
    rw [pidx_none (fun j hj => hno j (by omega))]
    rfl

end Go.Proofs.YtbogfmgfafdjiaaGreatDoor

/- slices.Clone, on abstract values. -/
namespace Go.Proofs.YtbogfmgfafdjiaaGreatDoor
set_option linter.unusedVariables false
set_option linter.unusedSimpArgs false
set_option maxHeartbeats 8000000
open Go.RowKit
set_option maxRecDepth 4000

theorem ClnArc {n : Nat} {g : Nat → List AV} (hb : n * 16 ≤ 140737488355328) (id : Nat) :
    FnC Tryz.prog 38 [.lst 2 n g] [] (fun r F' => ∃ x, r = .ref id x ∧ F' = [(id, .own x 103 2 n g)]) := by
  refine FnC.intro Tryz.func38 rfl Tryz.ntmps38 rfl ?_; intro off w0
  ((repeat refine S.seq ?_); refine wG (k := ?_); try (refine L.nil ?_))
  repeat refine S.seq ?_
  refine S.region (L.run (T := tt) 1 tt_ok rfl rfl (by exact sd) ?_)
  refine L.isNil (T := tt) tt_ok rfl rfl rfl rfl rfl rfl trivial fun b h0 => L.nil ?_
  ((repeat refine S.seq ?_); refine S.cond rfl (fun h => ?_) (fun h => ?_) <;> (try first | refine S.skip ?_ | refine S.exit ?_))
  · ((repeat refine S.seq ?_); refine wG (k := ?_); try (refine L.nil ?_))
    have hn := h0 h
    subst hn
    exact S.ret (nilRow id 103 2 g (E.ret (T := tt) tt_ok rfl rfl (by exact sd) (Imp.vref rfl) (List.Sublist.refl _) ⟨_, rfl, rfl⟩))
  · repeat refine S.seq ?_
    refine S.region (L.buildSlice (T := tt) 0 tt_ok rfl rfl rfl rfl rfl rfl (by decide) (by decide) rfl rfl (by exact sd) fun x => ?_)
    refine L.run (T := tt) 1 tt_ok rfl rfl (by exact sd) ?_
    refine L.append (T := tt) tt_ok rfl rfl rfl rfl rfl rfl rfl rfl rfl rfl (by exact sd) ⟨rfl, by decide, by decide⟩ (by simpa using hb) fun x1 => ?_
    (refine wL (k := ?_); try (refine L.nil ?_))
    refine S.ret (rowsEq [(0, .own x1 103 2 n g)] (by simp [setF, joinG_zero]) (renum [(id, .own x1 103 2 n g)] 2 (.ref id x1) rfl rfl Imp.ref ?_))
    exact E.ret (T := tt) tt_ok rfl rfl (by exact sd) (Imp.refl _) (List.Sublist.refl _) ⟨_, rfl, rfl⟩

end Go.Proofs.YtbogfmgfafdjiaaGreatDoor

/- More words for maps: a place of a map, what is stored there, a key that goes. -/
namespace Go.Proofs.YtbogfmgfafdjiaaGreatDoor
set_option linter.unusedVariables false
set_option linter.unusedSimpArgs false
set_option maxHeartbeats 8000000
open Go.RowKit
open Go.Maps (Keyed)
set_option maxRecDepth 4000

theorem same_born : ∀ (l : List MapEntry), l.Pairwise (fun x y => x.born ≠ y.born) → ∀ x ∈ l, ∀ y ∈ l, x.born = y.born → x = y
  | [], _, x, hx, _, _, _ => by cases hx
  | a :: t, hp, x, hx, y, hy, hxy => by
    rw [List.pairwise_cons] at hp
    rcases List.mem_cons.1 hx with h | h
    · rcases List.mem_cons.1 hy with h' | h'
      · rw [h, h']
      · subst h; exact absurd hxy (hp.1 y h')
    · rcases List.mem_cons.1 hy with h' | h'
      · subst h'; exact absurd hxy.symm (hp.1 x h)
      · exact same_born t hp.2 x h y h' hxy

theorem keyed_set {l : List MapEntry} (h4 : l.Pairwise fun x y => x.key ≠ y.key) {j : Nat} {e2 e3 : MapEntry} (f2 : l[j]? = some e2) (hk : e3.key = e2.key) :
    ((l.set j e3).Pairwise fun x y => x.key ≠ y.key) ∧ (∀ e ∈ l.set j e3, (e ∈ l ∧ e.key ≠ e2.key) ∨ e = e3) ∧ ∀ key, (∀ e ∈ l.set j e3, e.key ≠ key) → key ≠ e2.key ∧ ∀ e ∈ l, e.key ≠ key := by
  have hjl := (List.getElem?_eq_some_iff.1 f2).1
  have hm : (l.set j e3).map (·.key) = l.map (·.key) := by
    apply List.ext_getElem?
    intro i
    simp only [List.getElem?_map, List.getElem?_set]
    by_cases hi : j = i
    · subst hi
      rw [if_pos rfl, if_pos hjl, f2]
      simp [hk]
    · rw [if_neg hi]
  refine ⟨?_, fun e he => ?_, fun key hne => ?_⟩
  · have h1 : (l.map (·.key)).Pairwise (· ≠ ·) := List.pairwise_map.2 h4
    rw [← hm] at h1
    exact List.pairwise_map.1 h1
  · obtain ⟨i, hi⟩ := List.getElem?_of_mem he
    rw [List.getElem?_set] at hi
    by_cases hji : j = i
    · rw [if_pos hji, if_pos (by omega)] at hi
      cases hi
      exact .inr rfl
    · rw [if_neg hji] at hi
      refine .inl ⟨List.mem_of_getElem? hi, fun hek => ?_⟩
      have := List.pairwise_iff_getElem.1 h4
      obtain ⟨hil, he1⟩ := List.getElem?_eq_some_iff.1 hi
      have he2 := (List.getElem?_eq_some_iff.1 f2).2
      rcases Nat.lt_or_gt_of_ne hji with hlt | hgt
      · exact this j i hjl hil hlt (by rw [he1, he2, hek])
      · exact this i j hil hjl hgt (by rw [he1, he2, hek])
  · have hn : key ∉ (l.set j e3).map (·.key) := fun h => by
      obtain ⟨e, he, hke⟩ := List.mem_map.1 h
      exact hne e he hke
    rw [hm] at hn
    exact ⟨fun h => hn (List.mem_map.2 ⟨e2, List.mem_of_getElem? f2, h.symm⟩), fun e he hke => hn (List.mem_map.2 ⟨e, he, hke⟩)⟩

section
variable {P : Program} {T : Types} {c : Ctx} {σ σ1 : Slots} {F F1 : Rows} {rdf : List (Nat × List Nat)} {Q : Exit → Act → World → Prop} {ops : Array Oper} {rest : List Oper} {o : Oper} {listed : Array Bool}

/-- The place of a key in a map. -/
theorem O.mapEntry {t k e : TypeId} {x y : Operand} {id b d : Nat} {X z kv : Value} {B : AV} {p q : Prop} {m : List (Value × AV)} (hT : TOk P T) (K : Keyed P k) (ho : o.op = .mapEntry t x y) (hg : o.guard = none) (hd : o.dst = some d) (hdN : Nat.blt d c.N = true) (ht : tdOf T t = some (.map k e)) (hz : (P.info? e).bind (·.zero) = some z)
    (hx : evalS σ x = some (.ref id X, p)) (hy : evalS σ y = some (B, q)) (hkv : keyV B = some kv) (hrow : F.lookup id = some (.map b (kOf P k) m)) (hC : p ∧ q ∧ X = .map (some b) ∧ kOf P k kv = true) :
    O P ops c o σ F Q [id] Nat (fun s => (d, .tup [mlook m kv z, .v (.int .i64 s)]) :: σ) (fun s => setF id id (.mapE b (kOf P k) ((kv, mlook m kv z) :: m) kv s) F) := by
  intro a w hR KK hK
  refine Op1.plain hg ?_
  obtain ⟨hp, hq, hX, hkey⟩ := hC
  obtain ⟨ti, hti, htd⟩ := tdOf_some ht
  have hm := (hT.told hti).map htd
  have hxv : a.eval x = .map (some b) := by
    have h := hR.evals hx hp
    generalize a.eval x = v at h
    cases h
    exact hX
  have hyv : a.eval y = kv := keyV_rep hkv (hR.evals hy hq)
  obtain ⟨zi, hzi, hzz⟩ := Option.bind_eq_some_iff.1 hz
  obtain ⟨es, clock, hh, h1, h2, h3, h4, hst⟩ := hR.sat.at hrow
  obtain ⟨lx, hlx⟩ := Option.isSome_iff_exists.1 hkey
  have hlt := hR.sat.lt (lookup_mem hrow) (b := b) rfl
  rcases find_at K h1 hkey w with ⟨f1, f2⟩ | ⟨j', e2, f1, f2, f3⟩
  · have hnone : mlook m kv z = .v z := by rw [mlook, h3 kv f2]; rfl
    have hrun : (execOp a.eval o).run P w = .ok (.value (.tuple #[z, .int .i64 clock])) (ChangeMaps.setBlock w b (.map (es.push ⟨kv, z, clock⟩) (clock + 1))) := by
      simp [execOp, ho, hxv, hyv, Instr.mapEntry, run_underlying hm, MapKept.run_getObj_map hh, K.check w false hlx, f1, zero_at hzi hzz, MapKept.run_setObj_map _ hh, Result.andThen, ChangeMaps.setBlock, goInt]
    obtain ⟨k1, k2, k3, k4⟩ := hR.write (i' := id) (r' := .mapE b (kOf P k) ((kv, mlook m kv z) :: m) kv clock) hrow (w' := ChangeMaps.setBlock w b (.map (es.push ⟨kv, z, clock⟩) (clock + 1))) (by simp [ChangeMaps.setBlock]) rfl rfl rfl
      (fun b' hlt' hne => heap_setBlock_ne w b b' _ (fun e => hne (by rw [e]; rfl))) (fun b' hb' => .inl hb') (fun he => by
        refine ⟨es.push ⟨kv, z, clock⟩, clock + 1, heap_setBlock_at w b _ hlt, fun e hm' => ?_, fun e hm' => ?_, fun key hne => ?_, ?_, hst.push _ _, ⟨kv, z, clock⟩, by simp, rfl, rfl⟩
        · simp only [Array.toList_push, List.mem_append, List.mem_singleton] at hm'
          rcases hm' with hm' | rfl
          · exact h1 e hm'
          · exact hkey
        · simp only [Array.toList_push, List.mem_append, List.mem_singleton] at hm'
          rcases hm' with hm' | rfl
          · obtain ⟨A', hA', hr'⟩ := h2 e hm'
            exact ⟨A', by rw [mget_cons_other _ _ (Ne.symm (f2 e hm'))]; exact hA', hr'.ext he⟩
          · exact ⟨_, mget_cons_same _ _ _, by rw [hnone]; exact .v z⟩
        · simp only [Array.toList_push, List.mem_append, List.mem_singleton] at hne
          rw [mget_cons_other _ _ (fun e => hne _ (.inr rfl) e)]
          exact h3 key fun e he' => hne e (.inl he')
        · simp only [Array.toList_push]
          refine List.pairwise_append.2 ⟨h4, by simp, fun x hx y hy => ?_⟩
          rw [List.mem_singleton] at hy
          subst hy
          exact f2 x hx)
    simp only [Oper.wp]
    rw [hrun, Oper.upon_value, hd]
    exact hK clock _ _ (hR.step (of_blt hdN) k1 k2 k3 k4.ext (.tup (us := [z, .int .i64 clock]) rfl fun j A u hA hu => by
      match j with
      | 0 => simp at hA hu; subst hA; subst hu; rw [hnone]; exact .v z
      | 1 => simp at hA hu; subst hA; subst hu; exact .v _
      | j + 2 => simp at hA)) k4 ⟨_, by rw [hd]⟩
  · have hget : es[j']? = some e2 := by simpa using f2
    have hsame : (es.modify j' fun e => { e with key := kv }) = es := by
      apply Array.ext'
      apply List.ext_getElem?
      intro i
      simp only [Array.toList_modify, List.getElem?_modify]
      by_cases hi : j' = i
      · subst hi
        rw [f2]
        simp [← f3]
      · simp [hi]
    have hmem2 := List.mem_of_getElem? f2
    obtain ⟨A2, hA2, hr2⟩ := h2 e2 hmem2
    rw [f3] at hA2
    have hr3 : Rep (Own c.off F) w (mlook m kv z) e2.val := by
      have hsome : mlook m kv z = A2 := by rw [mlook, hA2]; rfl
      rw [hsome]
      exact hr2
    have hrun : (execOp a.eval o).run P w = .ok (.value (.tuple #[e2.val, .int .i64 e2.born])) (ChangeMaps.setBlock w b (.map es clock)) := by
      simp [execOp, ho, hxv, hyv, Instr.mapEntry, run_underlying hm, MapKept.run_getObj_map hh, K.check w false hlx, f1, hget, f3, K.stays w hlx, MapKept.run_setObj_map _ hh, Result.andThen, ChangeMaps.setBlock, goInt, hsame]
    obtain ⟨k1, k2, k3, k4⟩ := hR.write (i' := id) (r' := .mapE b (kOf P k) ((kv, mlook m kv z) :: m) kv e2.born) hrow (w' := ChangeMaps.setBlock w b (.map es clock)) (by simp [ChangeMaps.setBlock]) rfl rfl rfl
      (fun b' hlt' hne => heap_setBlock_ne w b b' _ (fun e => hne (by rw [e]; rfl))) (fun b' hb' => .inl hb') (fun he => by
        refine ⟨es, clock, heap_setBlock_at w b _ hlt, h1, fun e hm' => ?_, fun key hne => ?_, h4, hst, e2, hmem2, f3, rfl⟩
        · obtain ⟨A', hA', hr'⟩ := h2 e hm'
          by_cases hek : e.key = kv
          · rw [hek] at hA'
            exact ⟨A', by rw [hek, mget_cons_same, mlook, hA']; rfl, hr'.ext he⟩
          · exact ⟨A', by rw [mget_cons_other _ _ (Ne.symm hek)]; exact hA', hr'.ext he⟩
        · rw [mget_cons_other _ _ (fun e => hne e2 hmem2 (f3.trans e))]
          exact h3 key hne)
    simp only [Oper.wp]
    rw [hrun, Oper.upon_value, hd]
    exact hK e2.born _ _ (hR.step (of_blt hdN) k1 k2 k3 k4.ext (.tup (us := [e2.val, .int .i64 e2.born]) rfl fun j A u hA hu => by
      match j with
      | 0 => simp at hA hu; subst hA; subst hu; exact hr3.ext k4.ext
      | 1 => simp at hA hu; subst hA; subst hu; exact .v _
      | j + 2 => simp at hA)) k4 ⟨_, by rw [hd]⟩

/-- What is stored at a place of a map. -/
theorem O.entryStore {t : TypeId} {x y z : Operand} {id b s : Nat} {s' : Int} {X kv : Value} {A : AV} {p q r : Prop} {Kf : Value → Bool} {m : List (Value × AV)} (ho : o.op = .entryStore t x y z) (hg : o.guard = none) (hd : o.dst = none)
    (hx : evalS σ x = some (.ref id X, p)) (hy : evalS σ y = some (.v (.int .i64 s'), q)) (hz : evalS σ z = some (A, r)) (hrow : F.lookup id = some (.mapE b Kf m kv s)) (hC : p ∧ q ∧ r ∧ X = .map (some b) ∧ s' = s) :
    O P ops c o σ F Q [id] Unit (fun _ => σ) (fun _ => setF id id (.map b Kf ((kv, A) :: m)) F) := by
  intro a w hR KK hK
  refine Op1.plain hg ?_
  obtain ⟨hp, hq, hr, hX, hs⟩ := hC
  have hxv : a.eval x = .map (some b) := by
    have h := hR.evals hx hp
    generalize a.eval x = v at h
    cases h
    exact hX
  have hyv : a.eval y = .int .i64 s := by
    have h := hR.evals hy hq
    generalize a.eval y = v at h
    cases h
    rw [hs]
  have hzr := hR.evals hz hr
  obtain ⟨es, clock, hh, h1, h2, h3, h4, hst, e0, he0, hek, heb⟩ := hR.sat.at hrow
  have hlt := hR.sat.lt (lookup_mem hrow) (b := b) rfl
  obtain ⟨i, hi, hie⟩ : ∃ i, es.findIdx? (fun e => (e.born : Int) == (s : Int)) = some i ∧ es.toList[i]? = some e0 := by
    cases hf : es.findIdx? (fun e => (e.born : Int) == (s : Int)) with
    | none =>
      rw [Array.findIdx?_eq_none_iff] at hf
      have := hf e0 (Array.mem_toList_iff.1 he0)
      simp [heb] at this
    | some i =>
      obtain ⟨hil, hpi, -⟩ := Array.findIdx?_eq_some_iff_getElem.1 hf
      refine ⟨i, rfl, ?_⟩
      have hb : es[i].born = s := by simp at hpi; omega
      have : es[i] = e0 := same_born _ hst.2 es[i] (by simp) e0 he0 (by rw [hb, heb])
      rw [← this]
      simp [hil]
  have hil : i < es.toList.length := (List.getElem?_eq_some_iff.1 hie).1
  have hlist : (es.modify i fun e => { e with val := a.eval z }).toList = es.toList.set i { e0 with val := a.eval z } := by
    apply List.ext_getElem?
    intro j
    simp only [Array.toList_modify, List.getElem?_modify, List.getElem?_set]
    by_cases hj : i = j
    · subst hj
      rw [hie]
      simp [hil]
      simpa using hil
    · simp [hj]
  obtain ⟨q1, q2, q3⟩ := keyed_set h4 hie (e3 := { e0 with val := a.eval z }) rfl
  have hrun : (execOp a.eval o).run P w = .ok .skip (ChangeMaps.setBlock w b (.map (es.modify i fun e => { e with val := a.eval z }) clock)) := by
    simp [execOp, ho, hxv, hyv, Instr.entryStore, MapKept.run_getObj_map hh, asInt, asIntOf, hi, MapKept.run_setObj_map _ hh, Result.andThen, ChangeMaps.setBlock]
  obtain ⟨k1, k2, k3, k4⟩ := hR.write (i' := id) (r' := .map b Kf ((kv, A) :: m)) hrow (w' := ChangeMaps.setBlock w b (.map (es.modify i fun e => { e with val := a.eval z }) clock)) (by simp [ChangeMaps.setBlock]) rfl rfl rfl
    (fun b' hlt' hne => heap_setBlock_ne w b b' _ (fun e => hne (by rw [e]; rfl))) (fun b' hb' => .inl hb') (fun he => by
      refine ⟨_, clock, heap_setBlock_at w b _ hlt, fun e hm' => ?_, fun e hm' => ?_, fun key hne => ?_, by rw [hlist]; exact q1, hst.mods (e3 := ⟨e0.key, a.eval z, 0⟩) hie (by rw [hlist])⟩
      · rw [hlist] at hm'
        rcases q2 e hm' with ⟨g1, -⟩ | rfl
        · exact h1 e g1
        · exact h1 e0 he0
      · rw [hlist] at hm'
        rcases q2 e hm' with ⟨g1, g2⟩ | rfl
        · obtain ⟨A', hA', hr'⟩ := h2 e g1
          exact ⟨A', by rw [mget_cons_other _ _ (fun e' => g2 (by rw [hek, ← e']))]; exact hA', hr'.ext he⟩
        · exact ⟨A, by rw [show ({ e0 with val := a.eval z } : MapEntry).key = kv from hek, mget_cons_same], hzr.ext he⟩
      · rw [hlist] at hne
        obtain ⟨g1, g2⟩ := q3 key hne
        rw [mget_cons_other _ _ (fun e' => g1 (by rw [hek, ← e']))]
        exact h3 key g2)
  simp only [Oper.wp]
  rw [hrun, Oper.upon_skip, hd]
  exact hK () _ _ (hR.step_none k1 k2 k3 k4.ext) k4 ⟨undef, by rw [hd]⟩

/-- 'delete(m, k)'. -/
theorem O.mapDel {t k e : TypeId} {x y : Operand} {id b : Nat} {X kv : Value} {B : AV} {p q : Prop} {m : List (Value × AV)} (hT : TOk P T) (K : Keyed P k) (ho : o.op = .call { callee := .builtin .delete, args := #[x, y], argTypes := #[t, k] }) (hg : o.guard = none) (hd : o.dst = none) (ht : tdOf T t = some (.map k e))
    (hx : evalS σ x = some (.ref id X, p)) (hy : evalS σ y = some (B, q)) (hkv : keyV B = some kv) (hrow : F.lookup id = some (.map b (kOf P k) m)) (hC : p ∧ q ∧ X = .map (some b) ∧ kOf P k kv = true) :
    O P ops c o σ F Q [id] Unit (fun _ => σ) (fun _ => setF id id (.map b (kOf P k) (mdel m kv)) F) := by
  intro a w hR KK hK
  refine Op1.plain hg ?_
  obtain ⟨hp, hq, hX, hkey⟩ := hC
  obtain ⟨ti, hti, htd⟩ := tdOf_some ht
  have hm := (hT.told hti).map htd
  have hxv : a.eval x = .map (some b) := by
    have h := hR.evals hx hp
    generalize a.eval x = v at h
    cases h
    exact hX
  have hyv : a.eval y = kv := keyV_rep hkv (hR.evals hy hq)
  obtain ⟨es, clock, hh, h1, h2, h3, h4, hst⟩ := hR.sat.at hrow
  obtain ⟨lx, hlx⟩ := Option.isSome_iff_exists.1 hkey
  have hlt := hR.sat.lt (lookup_mem hrow) (b := b) rfl
  obtain ⟨es', hrun, hsub, q1, q2⟩ : ∃ es', (execOp a.eval o).run P w = .ok (.value (.tuple #[])) (ChangeMaps.setBlock w b (.map es' clock)) ∧ es'.toList.Sublist es.toList ∧ (∀ e ∈ es'.toList, e.key ≠ kv) ∧ ∀ e ∈ es.toList, e.key ≠ kv → e ∈ es'.toList := by
    rcases find_at K h1 hkey w with ⟨f1, f2⟩ | ⟨j', e2, f1, f2, f3⟩
    · refine ⟨es, ?_, List.Sublist.refl _, f2, fun e he _ => he⟩
      simp [execOp, ho, resolve, invoke, builtin, hxv, hyv, Builtin.delete_, run_underlying hm, MapKept.run_getObj_map hh, K.check w _ hlx, f1, MapKept.run_setObj_map _ hh, Result.andThen, ChangeMaps.setBlock]
    · have hjl : j' < es.toList.length := (List.getElem?_eq_some_iff.1 f2).1
      have hl : (es.eraseIdxIfInBounds j').toList = es.toList.eraseIdx j' := by
        unfold Array.eraseIdxIfInBounds
        rw [dif_pos (by simpa using hjl)]
        simp
      refine ⟨es.eraseIdxIfInBounds j', ?_, by rw [hl]; exact List.eraseIdx_sublist _ _, fun e he hek => ?_, fun e he hne => ?_⟩
      · simp [execOp, ho, resolve, invoke, builtin, hxv, hyv, Builtin.delete_, run_underlying hm, MapKept.run_getObj_map hh, K.check w _ hlx, f1, MapKept.run_setObj_map _ hh, Result.andThen, ChangeMaps.setBlock]
      · rw [hl, List.mem_eraseIdx_iff_getElem?] at he
        obtain ⟨i, hij, hi⟩ := he
        have := List.pairwise_iff_getElem.1 h4
        obtain ⟨hil, he1⟩ := List.getElem?_eq_some_iff.1 hi
        have he2 := (List.getElem?_eq_some_iff.1 f2).2
        rcases Nat.lt_or_gt_of_ne hij with hlt' | hgt
        · exact this i j' hil hjl hlt' (by rw [he1, he2, hek, f3])
        · exact this j' i hjl hil hgt (by rw [he1, he2, hek, f3])
      · rw [hl, List.mem_eraseIdx_iff_getElem?]
        obtain ⟨i, hi⟩ := List.getElem?_of_mem he
        exact ⟨i, fun e' => hne (by rw [e', f2] at hi; cases hi; exact f3), hi⟩
  obtain ⟨k1, k2, k3, k4⟩ := hR.write (i' := id) (r' := .map b (kOf P k) (mdel m kv)) hrow (w' := ChangeMaps.setBlock w b (.map es' clock)) (by simp [ChangeMaps.setBlock]) rfl rfl rfl
    (fun b' hlt' hne => heap_setBlock_ne w b b' _ (fun e => hne (by rw [e]; rfl))) (fun b' hb' => .inl hb') (fun he => by
      refine ⟨es', clock, heap_setBlock_at w b _ hlt, fun e hm' => h1 e (hsub.subset hm'), fun e hm' => ?_, fun key hne => ?_, h4.sublist hsub, fun e hm' => hst.1 e (hsub.subset hm'), hst.2.sublist hsub⟩
      · obtain ⟨A', hA', hr'⟩ := h2 e (hsub.subset hm')
        exact ⟨A', by rw [mget_del_other (Ne.symm (q1 e hm'))]; exact hA', hr'.ext he⟩
      · by_cases hk : kv = key
        · rw [← hk]; exact mget_del_same kv m
        · rw [mget_del_other hk]
          exact h3 key fun e he' hek => hne e (q2 e he' (fun e' => hk (e'.symm.trans hek))) hek)
  simp only [Oper.wp]
  rw [hrun, Oper.upon_value, hd]
  exact hK () _ _ (hR.step_none k1 k2 k3 k4.ext) k4 ⟨_, by rw [hd]⟩
end

end Go.Proofs.YtbogfmgfafdjiaaGreatDoor

/- Rows that nobody names: families of objects behind the rows that are named. -/
namespace Go.Proofs.YtbogfmgfafdjiaaGreatDoor
set_option linter.unusedVariables false
set_option linter.unusedSimpArgs false
set_option maxHeartbeats 8000000
open Go.RowKit
set_option maxRecDepth 4000

theorem Sub.of : ∀ (G : Rows) {F H : Rows}, F.Perm (G ++ H) → Sub F G
  | [], _, _, _ => .refl _
  | r :: t, F, H, h => .pick (by simpa using h) (Sub.of t (List.Perm.refl _))
theorem Sub.self (D : Rows) : Sub D D := Sub.of D (by rw [List.append_nil])
theorem Sub.drop {r : Nat × Row} {F G : Rows} (h : Sub F G) : Sub (r :: F) G := by
  obtain ⟨H, hH⟩ := h.perm
  exact Sub.of G (H := r :: H) ((List.Perm.cons r hH).trans List.perm_middle.symm)

/-- The same rows in another order, under other numbers. -/
theorem R.rows {c : Ctx} {σ : Slots} {F G : Rows} {a : Act} {w : World} (h : R c σ F a w) (hF : (F.map (·.2)).Perm (G.map (·.2))) : R c σ G a w := by
  have hmem : ∀ r : Row, (∃ i, (i, r) ∈ G) ↔ ∃ i, (i, r) ∈ F := fun r => by
    have h1 : r ∈ G.map (·.2) ↔ r ∈ F.map (·.2) := hF.symm.mem_iff
    simpa using h1
  have hown : ∀ b, Own c.off G b ↔ Own c.off F b := fun b => by
    unfold Own
    constructor
    · rintro (h | ⟨⟨i, r⟩, h1, h2⟩)
      · exact .inl h
      · obtain ⟨j, hj⟩ := (hmem r).1 ⟨i, h1⟩; exact .inr ⟨_, hj, h2⟩
    · rintro (h | ⟨⟨i, r⟩, h1, h2⟩)
      · exact .inl h
      · obtain ⟨j, hj⟩ := (hmem r).2 ⟨i, h1⟩; exact .inr ⟨_, hj, h2⟩
  have hless : Ext (Own c.off F) (Own c.off G) w w := Ext.less (fun b hb => (hown b).1 hb) w
  refine ⟨h.len, h.defers, h.hoff, h.kept, fun ⟨i, r⟩ hr b hb => ?_, ⟨fun ⟨i, r⟩ hr => ?_, ?_, fun ⟨i, r⟩ hr b hb => ?_⟩, fun k A hA => (h.slots k A hA).ext hless⟩
  · obtain ⟨j, hj⟩ := (hmem r).1 ⟨i, hr⟩; exact h.fresh _ hj b hb
  · obtain ⟨j, hj⟩ := (hmem r).1 ⟨i, hr⟩; exact (h.sat.rows _ hj).ext hless fun _ _ => rfl
  · have h1 : (G.map (·.2)).Pairwise fun r s : Row => ∀ b, r.block = some b → s.block ≠ some b :=
      (hF.pairwise_iff (fun {x y} hxy b h1 h2 => hxy b h2 h1)).1 (List.pairwise_map.2 h.sat.nodup)
    exact List.pairwise_map.1 h1
  · obtain ⟨j, hj⟩ := (hmem r).1 ⟨i, hr⟩; exact h.sat.off _ hj b hb
theorem rowsPm {c : Ctx} {σ : Slots} {F : Rows} {K : Act → World → Prop} (G : Rows) (h : (F.map (·.2)).Perm (G.map (·.2))) (next : ∀ a w, R c σ G a w → K a w) : ∀ a w, R c σ F a w → K a w := fun a w hR => next a w (hR.rows h)

def tl (l : List Row) : Rows := l.map fun r => (900, r)
theorem tl_snd (l : List Row) : (tl l).map (·.2) = l := by
  unfold tl
  rw [List.map_map]
  exact List.map_id' l

/-- Four families. -/
def dyn4 (A B C M : List Row) : List Row := A ++ (B ++ (C ++ M))
theorem pull {X Y Z : List Row} {r : Row} (h : Y.Perm (r :: Z)) : (X ++ Y).Perm (r :: (X ++ Z)) := (List.Perm.append_left X h).trans List.perm_middle
theorem erase_pm : ∀ {l : List Row} {k : Nat} (h : k < l.length), (l[k] :: l.eraseIdx k).Perm l
  | [], k, h => absurd h (Nat.not_lt_zero k)
  | a :: t, 0, h => List.Perm.refl _
  | a :: t, k + 1, h => (List.Perm.swap _ _ _).trans (List.Perm.cons a (erase_pm (l := t) (by simpa using h)))
theorem pull1 {l : List Row} {k : Nat} {r : Row} (h : l[k]? = some r) : l.Perm (r :: l.eraseIdx k) := by
  obtain ⟨hk, rfl⟩ := List.getElem?_eq_some_iff.1 h
  exact (erase_pm hk).symm
theorem push1 {l : List Row} {k : Nat} {r : Row} (h : k < l.length) : (r :: l.eraseIdx k).Perm (l.set k r) := by
  have h1 := erase_pm (l := l.set k r) (k := k) (by simpa using h)
  rwa [List.getElem_set_self, List.eraseIdx_set_eq] at h1
theorem last1 {l : List Row} {r : Row} : (r :: l).Perm (l ++ [r]) := (List.perm_append_singleton r l).symm
section
variable {A B C M A' B' C' M' : List Row} {r : Row}
theorem inA (h : A.Perm (r :: A')) : (dyn4 A B C M).Perm (r :: dyn4 A' B C M) := List.Perm.append_right _ h
theorem inB (h : B.Perm (r :: B')) : (dyn4 A B C M).Perm (r :: dyn4 A B' C M) := pull (List.Perm.append_right _ h)
theorem inC (h : C.Perm (r :: C')) : (dyn4 A B C M).Perm (r :: dyn4 A B C' M) := pull (pull (List.Perm.append_right _ h))
theorem inM (h : M.Perm (r :: M')) : (dyn4 A B C M).Perm (r :: dyn4 A B C M') := pull (pull (pull h))
end

/-- The same of a map is known. -/
theorem Row.sat.same {own : Nat → Prop} {w : World} {b : Nat} {K : Value → Bool} {m m' : List (Value × AV)} (h : Row.sat own w (.map b K m)) (hm : ∀ k, mget m k = mget m' k) : Row.sat own w (.map b K m') := by
  obtain ⟨es, clock, hh, h1, h2, h3, h4⟩ := h
  exact ⟨es, clock, hh, h1, fun e he => by obtain ⟨A, hA, hr⟩ := h2 e he; exact ⟨A, (hm _).symm.trans hA, hr⟩, fun key hk => (hm _).symm.trans (h3 key hk), h4⟩

/-- Rows that say less, one by one. -/
inductive Says : List Row → List Row → Prop
  | nil : Says [] []
  | cons {r s : Row} {F G : List Row} (hb : s.block = r.block) (hs : ∀ own w, Row.sat own w r → Row.sat own w s) (t : Says F G) : Says (r :: F) (s :: G)
theorem Says.refl : ∀ F : List Row, Says F F
  | [] => .nil
  | r :: t => .cons rfl (fun _ _ h => h) (Says.refl t)
theorem Says.app {A B C D : List Row} (h : Says A B) (k : Says C D) : Says (A ++ C) (B ++ D) := by
  induction h with
  | nil => exact k
  | cons hb hs _ ih => exact .cons hb hs ih
theorem Says.blocks {A B : List Row} (h : Says A B) : A.map Row.block = B.map Row.block := by
  induction h with
  | nil => rfl
  | cons hb _ _ ih => rw [List.map_cons, List.map_cons, ih, hb]
theorem Says.mem {A B : List Row} (h : Says A B) {s : Row} (hm : s ∈ B) : ∃ r ∈ A, s.block = r.block ∧ ∀ own w, Row.sat own w r → Row.sat own w s := by
  induction h with
  | nil => cases hm
  | cons hb hs _ ih =>
    rcases List.mem_cons.1 hm with rfl | hm
    · exact ⟨_, List.mem_cons_self, hb, hs⟩
    · obtain ⟨r, h1, h2⟩ := ih hm
      exact ⟨r, List.mem_cons_of_mem _ h1, h2⟩
theorem R.says {c : Ctx} {σ : Slots} {F G : Rows} {a : Act} {w : World} (h : R c σ F a w) (hF : Says (F.map (·.2)) (G.map (·.2))) : R c σ G a w := by
  have hbl := hF.blocks
  have own0 : ∀ (X : Rows) b, Own c.off X b ↔ c.off b ∨ some b ∈ (X.map (·.2)).map Row.block := fun X b => by
    unfold Own
    simp only [List.map_map, List.mem_map, Function.comp]
  have hown : ∀ b, Own c.off G b ↔ Own c.off F b := fun b => by rw [own0, own0, hbl]
  have hless : Ext (Own c.off F) (Own c.off G) w w := Ext.less (fun b hb => (hown b).1 hb) w
  have hmem : ∀ i r, (i, r) ∈ G → ∃ j s, (j, s) ∈ F ∧ r.block = s.block ∧ ∀ own w, Row.sat own w s → Row.sat own w r := fun i r hr => by
    obtain ⟨s, h1, h2, h3⟩ := hF.mem (s := r) (List.mem_map.2 ⟨(i, r), hr, rfl⟩)
    obtain ⟨⟨j, s'⟩, h4, rfl⟩ := List.mem_map.1 h1
    exact ⟨j, s', h4, h2, h3⟩
  refine ⟨h.len, h.defers, h.hoff, h.kept, fun ⟨i, r⟩ hr b hb => ?_, ⟨fun ⟨i, r⟩ hr => ?_, ?_, fun ⟨i, r⟩ hr b hb => ?_⟩, fun k A hA => (h.slots k A hA).ext hless⟩
  · obtain ⟨j, s, h1, h2, -⟩ := hmem i r hr; exact h.fresh _ h1 b (by rw [← h2]; exact hb)
  · obtain ⟨j, s, h1, h2, h3⟩ := hmem i r hr; exact h3 _ _ ((h.sat.rows _ h1).ext hless fun _ _ => rfl)
  · have h1 : ((F.map (·.2)).map Row.block).Pairwise fun x y => ∀ b, x = some b → y ≠ some b := List.pairwise_map.2 (List.pairwise_map.2 h.sat.nodup)
    rw [hbl] at h1
    exact List.pairwise_map.1 (List.pairwise_map.1 h1)
  · obtain ⟨j, s, h1, h2, -⟩ := hmem i r hr; exact h.sat.off _ h1 b (by rw [← h2]; exact hb)
theorem rowsSay {c : Ctx} {σ : Slots} {F : Rows} {K : Act → World → Prop} (G : Rows) (h : Says (F.map (·.2)) (G.map (·.2))) (next : ∀ a w, R c σ G a w → K a w) : ∀ a w, R c σ F a w → K a w := fun a w hR => next a w (hR.says h)

/-- A row that says less. -/
theorem rowSay {c : Ctx} {σ : Slots} {F : Rows} {K : Act → World → Prop} (id : Nat) {r : Row} (r' : Row) (hrow : F.lookup id = some r) (hb : r'.block = r.block) (hs : ∀ own w, Row.sat own w r → Row.sat own w r') (next : ∀ a w, R c σ (setF id id r' F) a w → K a w) : ∀ a w, R c σ F a w → K a w := fun a w hR => by
  refine next a w ?_
  obtain ⟨L1, L2, h1, h2⟩ := setF_split hrow
  rw [h2]
  have hsat := hR.sat
  rw [h1] at hsat
  obtain ⟨g1, g2⟩ := hsat.turn (i' := id) (r' := r') (w' := w) hR.off (Nat.le_refl _) (fun _ _ _ => rfl) (fun b h => .inl (by rw [← hb]; exact h)) fun he => hs _ _ ((hsat.rows (id, r) (by simp)).ext he fun _ _ => rfl)
  refine ⟨hR.len, hR.defers, hR.hoff, hR.kept, fun s hs b hbk => ?_, g1, fun k A hA => (hR.slots k A hA).ext (by rw [h1]; exact g2)⟩
  rcases List.mem_append.1 hs with h3 | h3
  · exact hR.fresh s (by rw [h1]; simp [h3]) b hbk
  · rcases List.mem_cons.1 h3 with rfl | h3
    · exact hR.fresh (id, r) (by rw [h1]; simp) b (by rw [← hb]; exact hbk)
    · exact hR.fresh s (by rw [h1]; simp [h3]) b hbk
theorem mapSay {c : Ctx} {σ : Slots} {F : Rows} {K : Act → World → Prop} (id : Nat) {b : Nat} {Kf : Value → Bool} {m : List (Value × AV)} (m' : List (Value × AV)) (hrow : F.lookup id = some (.map b Kf m)) (hm : ∀ k, mget m k = mget m' k) (next : ∀ a w, R c σ (setF id id (.map b Kf m') F) a w → K a w) : ∀ a w, R c σ F a w → K a w :=
  rowSay id (.map b Kf m') hrow rfl (fun _ _ h => h.same hm) next
/-- The elements of a row, told otherwise. -/
theorem ownSay {own : Nat → Prop} {w : World} {x : Value} {E sz n n' : Nat} {g g' : Nat → List AV} (hn : n = n') (hg : ∀ i, i < n → Imps (g i) (g' i)) (h : Row.sat own w (.own x E sz n g)) : Row.sat own w (.own x E sz n' g') := by
  subst hn
  obtain ⟨us, ho, hl, h1, hr⟩ := h
  refine ⟨us, ho, fun i hi => by rw [← ((hg i hi).get).1]; exact hl i hi, h1, fun i hi j A hA => ?_⟩
  have hlt := (List.getElem?_eq_some_iff.1 hA).1
  obtain ⟨h2, h3⟩ := (hg i hi).get
  obtain ⟨B, hB, hi'⟩ := h3 j A hA
  obtain ⟨u, hu, hrep⟩ := hr i hi j B hB
  exact ⟨u, hu, hi' _ _ _ hrep⟩

/-- What is known of a slot, by the rows. -/
theorem slotW {c : Ctx} {σ : Slots} {F : Rows} {K : Act → World → Prop} (d : Nat) {A : AV} (B : AV) (hd : σ.lookup d = some A) (hi : ∀ w, Sat c.off F w → ∀ x, Rep (Own c.off F) w A x → Rep (Own c.off F) w B x) (next : ∀ a w, R c ((d, B) :: σ) F a w → K a w) : ∀ a w, R c σ F a w → K a w := fun a w hR => by
  refine next a w ⟨hR.len, hR.defers, hR.hoff, hR.kept, hR.fresh, hR.sat, fun k C hC => ?_⟩
  rw [lookup_cons] at hC
  split at hC
  · rename_i e; subst e; cases hC; exact hi w hR.sat _ (hR.slots k A hd)
  · exact hR.slots k C hC
theorem ownRef {off : Nat → Prop} {F : Rows} (id : Nat) {x : Value} {E sz n : Nat} {g : Nat → List AV} (h : F.lookup id = some (.own x E sz n g)) : ∀ w, Sat off F w → ∀ u, Rep (Own off F) w (.v x) u → Rep (Own off F) w (.ref id x) u := fun w hS u hu => by
  cases hu
  obtain ⟨us, ho, -⟩ := hS.at h
  obtain ⟨A, cap, rfl, -⟩ := own_form0 ho
  exact .ref id _ rfl
theorem H.tellW {P : Program} {c : Ctx} {σ σ1 : Slots} {F F1 : Rows} {rdf : List (Nat × List Nat)} {Q : Exit → Act → World → Prop} {ops : Array Oper} {fuel : Nat} {listed : Array Bool} (d : Nat) {A : AV} (B : AV) (hd : σ.lookup d = some A) (hi : ∀ w, Sat c.off F w → ∀ x, Rep (Own c.off F) w A x → Rep (Own c.off F) w B x) (next : H P ops c ((d, B) :: σ) F rdf fuel listed ((d, B) :: σ) F Q) : H P ops c σ1 F1 rdf fuel listed σ F Q := by
  refine H.rebase ?_
  intro w1 a w hI
  have hb : R c ((d, B) :: σ) F a w1 := slotW (K := R c ((d, B) :: σ) F) d B hd hi (fun _ _ h => h) a w1 hI.base
  have hn : R c ((d, B) :: σ) F a w := slotW (K := R c ((d, B) :: σ) F) d B hd hi (fun _ _ h => h) a w hI.now
  exact next w1 a w ⟨hb, hn, hI.ext, hI.closed, hI.keep, hI.st⟩

theorem sureRef {P : Program} {c : Ctx} {σ : Slots} {F : Rows} {rd : List Nat} {o : Oper} (id : Nat) {x : Value} {E sz n : Nat} {g : Nat → List AV} (h : Sure P c σ F rd o (.v x)) (hrow : F.lookup id = some (.own x E sz n g)) : Sure P c σ F rd o (.ref id x) := fun a w1 hR => by
  obtain ⟨u, h1, h2⟩ := h a w1 hR
  exact ⟨u, ownRef id hrow w1 hR.sat u h1, h2⟩

theorem Imp.ptrv (id b o : Nat) : Imp (.ptr id b o) (.v (.pointer (some ⟨b, o, none⟩))) := fun own w u h => by cases h; exact .v _
theorem Imp.vptr (id b o : Nat) : Imp (.v (.pointer (some ⟨b, o, none⟩))) (.ptr id b o) := fun own w u h => by cases h; exact .ptr id b o
theorem Imp.refv (id : Nat) (x : Value) : Imp (.ref id x) (.v x) := fun own w u h => by cases h; exact .v _

end Go.Proofs.YtbogfmgfafdjiaaGreatDoor

/- Halving at the program. -/
namespace Go.Proofs.YtbogfmgfafdjiaaGreatDoor
set_option linter.unusedVariables false
set_option linter.unusedSimpArgs false
set_option maxHeartbeats 8000000
open Go.RowKit
set_option maxRecDepth 4000

def halveA (l : List Arc) (s o : Int) : List Arc := if (!mayA l || decide (o < 0) || decide (o ≥ 16)) = true then [] else hvS l s o
theorem exTo_len (l : List Arc) (s o : Int) : ∀ k, (exTo l s o k).length ≤ k
  | 0 => by simp [exTo]
  | k + 1 => by
    have ih := exTo_len l s o k
    rw [exTo, exE]
    split <;> simp only [List.length_append, List.length_cons, List.length_nil] <;> omega
theorem halve_p (l : List Arc) (s o : Int) (hl : l.length ≤ 500) (hft : ∀ a ∈ l, 0 ≤ a.at0 ∧ a.at0 < 4294967296) : PFn Tryz.prog 181 [arcs l, .v (.int .i64 s), .v (.int .i64 o)] (arcs (halveA l s o)) := by
  refine FnC.intro Tryz.func181 rfl Tryz.ntmps181 rfl ?_; intro off w0
  ((repeat refine S.seq ?_); refine wG (k := ?_); try (refine L.nil ?_))
  ((repeat refine S.seq ?_); refine wG (k := ?_); try (refine L.nil ?_))
  refine wP ((ringmay_p l)) (k := ?_)
  (refine wL (k := ?_); try (refine L.nil ?_))
  ((repeat refine S.seq ?_); refine S.cond rfl (fun h1 => ?_) (fun h1 => ?_) <;> (try first | refine S.skip ?_ | refine S.exit ?_))
  · ((repeat refine S.seq ?_); refine wG (k := ?_); try (refine L.nil ?_))
    ((repeat refine S.seq ?_); refine S.ret ?_)
    refine E.retP (T := tt) tt_ok rfl rfl (by exact sd) ?_
    rw [halveA, if_pos h1]
    exact Imp.nil _ _
  have h2 : mayA l = true := by
    simp only [Bool.or_eq_false_iff, Bool.not_eq_false'] at h1
    exact h1.1.1
  have hm := mayA_of h2
  have hf : Fit l := ⟨hm, hft⟩
  have hone := hm.one
  rw [halveA, if_neg (by rw [h1]; decide)]
  repeat refine S.seq ?_
  refine S.region ?_
  (refine wL (k := ?_); try (refine L.nil ?_))
  refine L.call (G := []) (H := []) rfl rfl rfl rfl rfl rfl rfl ⟨trivial, by exact sd⟩ rfl (by exact Imps.refl [arcs l]) (List.Perm.refl _) (ClnArc (n := l.length) (g := gOf Arc.cells l) (by omega) 60) ?_
  rintro r F' ⟨x0, rfl, rfl⟩
  (refine wL (k := ?_); try (refine L.nil ?_))
  ((repeat refine S.seq ?_); refine wG (k := ?_); try (refine L.nil ?_))
  repeat refine S.seq ?_
  refine S.cut (ι := Value) (fun x => [(7, .ref 60 x)]) (fun x => [(60, .own x 103 2 (l ++ exTo l s o l.length).length (gOf Arc.cells (l ++ exTo l s o l.length)))]) ?_ ?_
  · refine S.block (S.loop (ι := { p : Nat × Value // p.1 ≤ l.length }) (fun p => [(0, arcs l), (1, .v (.int .i64 s)), (2, .v (.int .i64 o)), (7, .ref 60 p.1.2), (24, arcs l), (25, .v (.int .i64 l.length)), (26, .v (.int .i64 p.1.1))])
      (fun p => [(60, .own p.1.2 103 2 (l ++ exTo l s o p.1.1).length (gOf Arc.cells (l ++ exTo l s o p.1.1)))]) (fun p => l.length - p.1.1) ?_ ?_)
    · exact fun a w hR => ⟨⟨(0, x0), Nat.zero_le _⟩, hR.weakP (by (repeat' (first | exact True.intro | exact Imp.refl _ | refine ⟨?_, ?_⟩))) (Sub.of _ (by simp only [exTo, List.append_nil]; exact List.Perm.refl _))⟩
    rintro ⟨⟨k, x⟩, hk⟩
    dsimp only at hk ⊢
    have hxl := exTo_len l s o k
    obtain ⟨m, hmm⟩ : ∃ m, m = l ++ exTo l s o k := ⟨_, rfl⟩
    have hml : m.length ≤ 1000 := by rw [hmm, List.length_append]; omega
    rw [← hmm]
    ((repeat refine S.seq ?_); refine wG (k := ?_); try (refine L.nil ?_))
    ((repeat refine S.seq ?_); refine S.cond rfl (fun hc => ?_) (fun hc => ?_) <;> (try first | refine S.skip ?_ | refine S.exit ?_))
    · have hk' : k < l.length := by have := of_dec hc; omega
      have hw := widA_le l k
      repeat refine S.seq ?_
      refine S.block ?_
      repeat refine S.seq ?_
      refine S.region ?_
      (refine wL (k := ?_); try (refine L.nil ?_))
      refine wA 9 (k := fun b9 => ?_)
      (refine wL (k := ?_); try (refine L.nil ?_))
      refine wS (k := ?_)
      refine L.nil ?_
      ((repeat refine S.seq ?_); refine wG (k := ?_); try (refine L.nil ?_))
      refine wP ((width_p l k hk' (by omega))) (k := ?_)
      (refine wL (k := ?_); try (refine L.nil ?_))
      ((repeat refine S.seq ?_); refine wG (k := ?_); try (refine L.nil ?_))
      ((repeat refine S.seq ?_); refine S.cond rfl (fun h3 => ?_) (fun h3 => ?_) <;> (try first | refine S.skip ?_ | refine S.exit ?_))
      · have h3' : (l.getD k default).shard = s ∧ widA l k ≥ 2 := by
          simp only [Bool.and_eq_true, decide_eq_true_eq, beq_iff_eq] at h3
          exact h3
        obtain ⟨e, he⟩ : ∃ e : Arc, e = ⟨((l.getD k default).at0 + widA l k / 2) % 4294967296, o⟩ := ⟨_, rfl⟩
        ((repeat refine S.seq ?_); refine wG (k := ?_); try (refine L.nil ?_))
        refine slotAs 50 e.av rfl (Imp.of_eq ?_) ?_
        · have e0 : IntKind.u32.wrap ((l.getD k default).at0 + IntKind.u32.wrap (IntKind.u64.wrap ((widA l k).tdiv 2))) = ((l.getD k default).at0 + widA l k / 2) % 4294967296 := by
            have e1 : (widA l k).tdiv 2 = widA l k / 2 := Int.tdiv_eq_ediv_of_nonneg hw.1
            have e2 : ∀ z, IntKind.u32.wrap z = z % 4294967296 := fun _ => rfl
            rw [e1, u64_id (by omega) (by omega), e2, e2]
            omega
          rw [he, ← e0]
          rfl
        refine wF 61 (k := fun x51 => ?_)
        refine wY (k := fun y52 => ?_)
        refine ownAs 60 (gOf Arc.cells (m ++ [e])) rfl (show m.length + 1 = (m ++ [e]).length by simp) (fun i hi => app1_h Arc.cells m e _ rfl rfl hi) ?_
        (refine wL (k := ?_); try (refine L.nil ?_))
        ((repeat refine S.seq ?_); refine wG (k := ?_); try (refine L.nil ?_))
        exact fun a w hR => ⟨⟨(k + 1, y52), hk'⟩, by show l.length - (k + 1) < l.length - k; omega, (hR.weakP (by (repeat' (first | exact True.intro | exact Imp.refl _ | refine ⟨?_, ?_⟩))) (by rw [exTo, exE, if_pos h3', ← he, ← List.append_assoc, ← hmm]; (repeat (first | exact Sub.refl _ | refine Sub.pick (by first | exact p0 | exact pS p0 | exact pS (pS p0) | exact pS (pS (pS p0)) | exact pS (pS (pS (pS p0))) | exact pS (pS (pS (pS (pS p0))))) ?_))))⟩
      have h3' : ¬ ((l.getD k default).shard = s ∧ widA l k ≥ 2) := by
        rintro ⟨g1, g2⟩
        have g1 : (l.getD (k : Int).toNat default).shard = s := g1
        rw [g1, decide_eq_true g2] at h3
        simp at h3
      ((repeat refine S.seq ?_); refine wG (k := ?_); try (refine L.nil ?_))
      exact fun a w hR => ⟨⟨(k + 1, x), hk'⟩, by show l.length - (k + 1) < l.length - k; omega, (hR.weakP (by (repeat' (first | exact True.intro | exact Imp.refl _ | refine ⟨?_, ?_⟩))) (by rw [exTo, exE, if_neg h3', List.append_nil, ← hmm]; (repeat (first | exact Sub.refl _ | refine Sub.pick (by first | exact p0 | exact pS p0 | exact pS (pS p0) | exact pS (pS (pS p0)) | exact pS (pS (pS (pS p0))) | exact pS (pS (pS (pS (pS p0))))) ?_))))⟩
    have hk' : k = l.length := by have := of_dec' hc; omega
    subst hk'
    rw [hmm]
    exact fun a w hR => ⟨x, hR.weakP (by (repeat' (first | exact True.intro | exact Imp.refl _ | refine ⟨?_, ?_⟩))) (by (repeat (first | exact Sub.refl _ | refine Sub.pick (by first | exact p0 | exact pS p0 | exact pS (pS p0) | exact pS (pS (pS p0)) | exact pS (pS (pS (pS p0))) | exact pS (pS (pS (pS (pS p0))))) ?_)))⟩
  intro x
  have hxl := exTo_len l s o l.length
  obtain ⟨m, hmm⟩ : ∃ m, m = l ++ exTo l s o l.length := ⟨_, rfl⟩
  have hml : m.length ≤ 1000 := by rw [hmm, List.length_append]; omega
  have hm1 : 0 < m.length := by rw [hmm, List.length_append]; omega
  rw [← hmm]
  repeat refine S.seq ?_
  refine S.region ?_
  (refine wL (k := ?_); try (refine L.nil ?_))
  refine L.call (G := [(60, .own x 103 2 m.length (gOf Arc.cells m))]) (H := []) rfl rfl rfl rfl rfl rfl rfl ⟨trivial, by exact sd⟩ rfl (by exact Imps.refl [.ref 60 x, .fn (.func 253) []]) (List.Perm.refl _) (sort_half 60 m x hm1 (by omega)) ?_
  rintro r F' ⟨rfl, d, hd1, hd2, rfl⟩
  have hde : d = hvS l s o := sorted_eq hf s o (by rw [← hmm]; exact hd1) hd2
  have hdl : d.length ≤ 1000 := by rw [hd1.length_eq]; exact hml
  refine L.nil ?_
  refine rowsEq [(60, .own x 103 2 d.length (gOf Arc.cells d))] rfl ?_
  refine freezeSlot 7 60 rfl rfl rfl (slotAs 7 (arcs d) rfl (Imp.refl _) ?_)
  ((repeat refine S.seq ?_); refine wG (k := ?_); try (refine L.nil ?_))
  ((repeat refine S.seq ?_); refine S.cond rfl (fun h4 => ?_) (fun h4 => ?_) <;> (try first | refine S.skip ?_ | refine S.exit ?_))
  · have := of_dec h4
    omega
  ((repeat refine S.seq ?_); refine wG (k := ?_); try (refine L.nil ?_))
  (((repeat refine S.seq ?_); refine S.ret ?_); refine wRt (k := Imp.of_eq ?_))
  rw [← hde]
  rfl
end Go.Proofs.YtbogfmgfafdjiaaGreatDoor

/- A ring of weights at the program. -/
namespace Go.Proofs.YtbogfmgfafdjiaaGreatDoor
set_option linter.unusedVariables false
set_option linter.unusedSimpArgs false
set_option maxHeartbeats 8000000
open Go.RowKit
set_option maxRecDepth 4000

def intW (w : List Int) : AV := .lst 1 w.length (fun i => [.v (.int .i64 (w.getD i 0))])
theorem build1_p (z : Int) : PFn Tryz.prog 129 [.v (.int .i64 z)] (.v (.bool (!decide (z = 0)))) := by
  refine FnC.intro Tryz.func129 rfl Tryz.ntmps129 rfl ?_; intro off w0
  ((repeat refine S.seq ?_); refine wG (k := ?_); try (refine L.nil ?_))
  ((repeat refine S.seq ?_); refine wG (k := ?_); try (refine L.nil ?_))
  (((repeat refine S.seq ?_); refine S.ret ?_); refine wRt (k := Imp.of_eq ?_))
  rfl
theorem pidx_any (p : Nat → Bool) (n : Nat) : decide (pidx p n ≥ 0) = (List.range n).any p := by
  rcases pidx_cases p n with ⟨h, hno⟩ | ⟨k, hk, hp, -, h⟩
  · rw [h]
    have : (List.range n).any p = false := by
      rw [List.any_eq_false]
      intro i hi
      rw [hno i (List.mem_range.1 hi)]
      decide
    rw [this]
    rfl
  · rw [h]
    have : (List.range n).any p = true := List.any_eq_true.2 ⟨k, List.mem_range.2 hk, hp⟩
    rw [this, decide_eq_true (by omega)]
theorem contains_p (w : List Int) : PFn Tryz.prog 48 [intW w, .fn (.func 129) []] (.v (.bool (someW w))) := by
  refine FnC.intro Tryz.func48 rfl Tryz.ntmps48 rfl ?_; intro off w0
  ((repeat refine S.seq ?_); refine wG (k := ?_); try (refine L.nil ?_))
  repeat refine S.seq ?_
  refine S.region ?_
  (refine wL (k := ?_); try (refine L.nil ?_))
  refine L.call (G := []) (H := []) rfl rfl rfl rfl rfl rfl rfl ⟨trivial, by exact sd⟩ rfl (by exact Imps.refl [intW w, .fn (.func 129) []]) (List.Perm.refl _) (IxI (n := w.length) (f := 129) (caps := []) (F := []) (fun i => w.getD i 0) (fun i => !decide (w.getD i 0 = 0)) rfl (fun i hi => build1_p (w.getD i 0))) ?_
  rintro r F' ⟨rfl, rfl⟩
  (refine wL (k := ?_); try (refine L.nil ?_))
  (((repeat refine S.seq ?_); refine S.ret ?_); refine wRt (k := Imp.of_eq ?_))
  rw [pidx_any]
  rfl
theorem bldA_bad {w : List Int} (h : okW w = false) : bldA w = [] ∧ bldE w = 1 := by
  rw [bldA, bldE, h]
  exact ⟨rfl, rfl⟩

theorem bad_fit {w : List Int} {k : Nat} (hk : k < w.length) (h : badW w k = true) : okW w = false := by
  have : fitW w = false := by
    unfold fitW
    rw [Bool.eq_false_iff]
    intro h2
    have := List.all_eq_true.1 h2 k (List.mem_range.2 hk)
    rw [h] at this
    cases this
  rw [okW, this, Bool.and_false]
theorem mksW_le {w : List Int} : ∀ k, (∀ i, i < k → badW w i = false) → (mksW w k).length ≤ 32 * k
  | 0, _ => by simp [mksW]
  | k + 1, ik => by
    have ih := mksW_le k fun i hi => ik i (by omega)
    have hb := ik k (by omega)
    unfold badW at hb
    rw [Bool.or_eq_false_iff, decide_eq_false_iff_not, decide_eq_false_iff_not] at hb
    rw [mksW, List.length_append, mks_len, wts]
    omega
theorem mksW_one (w : List Int) (k i : Nat) : mksW w k ++ mks k (i + 1) = (mksW w k ++ mks k i) ++ [⟨mrkF k i, k⟩] := by rw [mks, List.append_assoc]

theorem build_p (w : List Int) (hw : ∀ z ∈ w, fitI z) : PFn Tryz.prog 83 [intW w] (.tup [arcs (bldA w), .v (.int .i64 (bldE w))]) := by
  have hwf : ∀ i, fitI (w.getD i 0) := fun i => by
    by_cases h : i < w.length
    · rw [List.getD_eq_getElem?_getD, List.getElem?_eq_getElem h]
      exact hw _ (List.getElem_mem _)
    · rw [List.getD_eq_getElem?_getD, List.getElem?_eq_none (by omega)]
      unfold fitI; decide
  refine FnC.intro Tryz.func83 rfl Tryz.ntmps83 rfl ?_; intro off w0
  ((repeat refine S.seq ?_); refine wG (k := ?_); try (refine L.nil ?_))
  repeat refine S.seq ?_
  refine S.region ?_
  (refine wL (k := ?_); try (refine L.nil ?_))
  refine wQ (fun _ => contains_p w) (k := ?_)
  (refine wL (k := ?_); try (refine L.nil ?_))
  ((repeat refine S.seq ?_); refine S.cond rfl (fun h1 => ?_) (fun h1 => ?_) <;> (try first | refine S.skip ?_ | refine S.exit ?_))
  · ((repeat refine S.seq ?_); refine wG (k := ?_); try (refine L.nil ?_))
    ((repeat refine S.seq ?_); refine S.ret ?_)
    have h1' : (lenW w || !someW w) = true := h1
    obtain ⟨e1, e2⟩ := bldA_bad (w := w) (by
      rw [okW]
      cases h : lenW w
      · rw [h, Bool.false_or, Bool.not_eq_true'] at h1'
        rw [h1']; rfl
      · rfl)
    refine E.retP (T := tt) tt_ok rfl rfl (by exact sd) ?_
    rw [e1, e2]
    exact Imp.tup ⟨Imp.nil _ _, Imp.refl _, trivial⟩
  have h1' : (lenW w || !someW w) = false := h1
  rw [Bool.or_eq_false_iff] at h1'
  have hlen : 1 ≤ w.length ∧ w.length ≤ 16 := by
    have := h1'.1
    unfold lenW at this
    rw [Bool.or_eq_false_iff, decide_eq_false_iff_not, decide_eq_false_iff_not] at this
    omega
  ((repeat refine S.seq ?_); refine wG (k := ?_); try (refine L.nil ?_))
  ((repeat refine S.seq ?_); refine wG (k := ?_); try (refine L.nil ?_))
  refine nilRow 60 103 2 (gOf Arc.cells []) (slotAs 4 (.ref 60 (.slice none 0 0)) rfl (Imp.vref rfl) ?_)
  repeat refine S.seq ?_
  refine S.cut (ι := { x : Value // fitW w = true }) (fun x => [(4, .ref 60 x.1)]) (fun x => [(60, .own x.1 103 2 (mksAll w).length (gOf Arc.cells (mksAll w)))]) ?_ ?_
  · refine S.block (S.loop (ι := { p : Nat × Value // p.1 ≤ w.length ∧ ∀ i, i < p.1 → badW w i = false }) (fun p => [(0, intW w), (4, .ref 60 p.1.2), (21, intW w), (22, .v (.int .i64 w.length)), (23, .v (.int .i64 p.1.1))])
      (fun p => [(60, .own p.1.2 103 2 (mksW w p.1.1).length (gOf Arc.cells (mksW w p.1.1)))]) (fun p => w.length - p.1.1) ?_ ?_)
    · exact fun a w1 h => ⟨⟨(0, .slice none 0 0), Nat.zero_le _, fun i hi => by omega⟩, h.weakP (by (repeat' (first | exact True.intro | exact Imp.refl _ | refine ⟨?_, ?_⟩))) (by (repeat (first | exact Sub.refl _ | refine Sub.pick (by first | exact p0 | exact pS p0 | exact pS (pS p0) | exact pS (pS (pS p0)) | exact pS (pS (pS (pS p0))) | exact pS (pS (pS (pS (pS p0))))) ?_)))⟩
    rintro ⟨⟨k, x⟩, hk, ik⟩
    dsimp only at hk ik ⊢
    have hwk := hwf k
    ((repeat refine S.seq ?_); refine wG (k := ?_); try (refine L.nil ?_))
    ((repeat refine S.seq ?_); refine S.cond rfl (fun h2 => ?_) (fun h2 => ?_) <;> (try first | refine S.skip ?_ | refine S.exit ?_))
    · have h2 : k < w.length := by have := of_dec h2; omega
      have hml : (mksW w k).length ≤ 32 * k := mksW_le k ik
      repeat refine S.seq ?_
      refine S.block ?_
      ((repeat refine S.seq ?_); refine wG (k := ?_); try (refine L.nil ?_))
      ((repeat refine S.seq ?_); refine wG (k := ?_); try (refine L.nil ?_))
      ((repeat refine S.seq ?_); refine S.cond rfl (fun h3 => ?_) (fun h3 => ?_) <;> (try first | refine S.skip ?_ | refine S.exit ?_))
      · ((repeat refine S.seq ?_); refine wG (k := ?_); try (refine L.nil ?_))
        ((repeat refine S.seq ?_); refine S.ret ?_)
        obtain ⟨e1, e2⟩ := bldA_bad (bad_fit h2 h3)
        refine E.retP (T := tt) tt_ok rfl rfl (by exact sd) ?_
        rw [e1, e2]
        exact Imp.tup ⟨Imp.nil _ _, Imp.refl _, trivial⟩
      have h3' : 0 ≤ w.getD k 0 ∧ w.getD k 0 ≤ 4 := by
        have h3' : badW w k = false := h3
        unfold badW at h3'
        rw [Bool.or_eq_false_iff, decide_eq_false_iff_not, decide_eq_false_iff_not] at h3'
        omega
      ((repeat refine S.seq ?_); refine wG (k := ?_); try (refine L.nil ?_))
      obtain ⟨n, hn⟩ : ∃ n : Nat, n = wts w k := ⟨_, rfl⟩
      have hn1 : ((n : Nat) : Int) = w.getD k 0 * 8 := by rw [hn, wts]; omega
      have hn2 : n ≤ 32 := by omega
      refine slotAs 35 (.v (.int .i64 ((n : Nat) : Int))) rfl (Imp.of_eq (by rw [hn1]; rfl)) ?_
      repeat refine S.seq ?_
      refine S.cut (ι := Value) (fun x => [(0, intW w), (4, .ref 60 x), (21, intW w), (22, .v (.int .i64 w.length)), (23, .v (.int .i64 k))]) (fun x => [(60, .own x 103 2 (mksW w (k + 1)).length (gOf Arc.cells (mksW w (k + 1))))]) ?_ ?_
      · refine S.block (S.loop (ι := { p : Nat × Value // p.1 ≤ n }) (fun p => [(0, intW w), (4, .ref 60 p.1.2), (5, .v (.int .i64 k)), (21, intW w), (22, .v (.int .i64 w.length)), (23, .v (.int .i64 k)), (35, .v (.int .i64 ((n : Nat) : Int))), (36, .v (.int .i64 p.1.1))])
          (fun p => [(60, .own p.1.2 103 2 (mksW w k ++ mks k p.1.1).length (gOf Arc.cells (mksW w k ++ mks k p.1.1)))]) (fun p => n - p.1.1) ?_ ?_)
        · exact fun a w1 h => ⟨⟨(0, x), Nat.zero_le _⟩, h.weakP (by (repeat' (first | exact True.intro | exact Imp.refl _ | refine ⟨?_, ?_⟩))) (by rw [mks, List.append_nil]; (repeat (first | exact Sub.refl _ | refine Sub.pick (by first | exact p0 | exact pS p0 | exact pS (pS p0) | exact pS (pS (pS p0)) | exact pS (pS (pS (pS p0))) | exact pS (pS (pS (pS (pS p0))))) ?_)))⟩
        rintro ⟨⟨i, y⟩, hi⟩
        dsimp only at hi ⊢
        obtain ⟨m, hm⟩ : ∃ m, m = mksW w k ++ mks k i := ⟨_, rfl⟩
        have hmlen : m.length ≤ 1000 := by rw [hm, List.length_append, mks_len]; omega
        rw [← hm]
        ((repeat refine S.seq ?_); refine wG (k := ?_); try (refine L.nil ?_))
        ((repeat refine S.seq ?_); refine S.cond rfl (fun h4 => ?_) (fun h4 => ?_) <;> (try first | refine S.skip ?_ | refine S.exit ?_))
        · have h4 : i < n := by have := of_dec h4; omega
          repeat refine S.seq ?_
          refine S.block ?_
          ((repeat refine S.seq ?_); refine wG (k := ?_); try (refine L.nil ?_))
          repeat refine S.seq ?_
          refine S.region ?_
          (refine wL (k := ?_); try (refine L.nil ?_))
          refine wP ((pmark_p (k : Int) (i : Int) (by omega) (by omega) (by omega) (by omega))) (k := ?_)
          rw [markT_eq (by omega) (by omega) (by omega) (by omega)]
          (refine wL (k := ?_); try (refine L.nil ?_))
          obtain ⟨e, he⟩ : ∃ e : Arc, e = ⟨mrkF k i, k⟩ := ⟨_, rfl⟩
          refine slotAs 44 e.av rfl (Imp.of_eq (by rw [he]; rfl)) ?_
          refine wF 61 (k := fun x45 => ?_)
          refine wY (k := fun y46 => ?_)
          refine ownAs 60 (gOf Arc.cells (m ++ [e])) rfl (show m.length + 1 = (m ++ [e]).length by simp) (fun j hj => app1_h Arc.cells m e _ rfl rfl hj) ?_
          (refine wL (k := ?_); try (refine L.nil ?_))
          ((repeat refine S.seq ?_); refine wG (k := ?_); try (refine L.nil ?_))
          exact fun a w1 hR => ⟨⟨(i + 1, y46), h4⟩, by show n - (i + 1) < n - i; omega, (hR.weakP (by (repeat' (first | exact True.intro | exact Imp.refl _ | refine ⟨?_, ?_⟩))) (by rw [mksW_one, ← hm, ← he]; (repeat (first | exact Sub.refl _ | refine Sub.pick (by first | exact p0 | exact pS p0 | exact pS (pS p0) | exact pS (pS (pS p0)) | exact pS (pS (pS (pS p0))) | exact pS (pS (pS (pS (pS p0))))) ?_))))⟩
        have h4 := of_dec' h4
        have hi' : i = n := by omega
        subst hi'
        rw [hm]
        exact fun a w1 hR => ⟨y, hR.weakP (by (repeat' (first | exact True.intro | exact Imp.refl _ | refine ⟨?_, ?_⟩))) (by rw [mksW, ← hn]; (repeat (first | exact Sub.refl _ | refine Sub.pick (by first | exact p0 | exact pS p0 | exact pS (pS p0) | exact pS (pS (pS p0)) | exact pS (pS (pS (pS p0))) | exact pS (pS (pS (pS (pS p0))))) ?_)))⟩
      intro y
      ((repeat refine S.seq ?_); refine wG (k := ?_); try (refine L.nil ?_))
      refine fun a w1 hR => ⟨⟨(k + 1, y), h2, fun i hi => ?_⟩, by show w.length - (k + 1) < w.length - k; omega, hR.weakP (by (repeat' (first | exact True.intro | exact Imp.refl _ | refine ⟨?_, ?_⟩))) (by (repeat (first | exact Sub.refl _ | refine Sub.pick (by first | exact p0 | exact pS p0 | exact pS (pS p0) | exact pS (pS (pS p0)) | exact pS (pS (pS (pS p0))) | exact pS (pS (pS (pS (pS p0))))) ?_)))⟩
      by_cases e : i = k
      · rw [e]; exact h3
      · exact ik i (by omega)
    have h2 := of_dec' h2
    have hk' : k = w.length := by omega
    subst hk'
    refine fun a w1 hR => ⟨⟨x, ?_⟩, hR.weakP (by (repeat' (first | exact True.intro | exact Imp.refl _ | refine ⟨?_, ?_⟩))) (by (repeat (first | exact Sub.refl _ | refine Sub.pick (by first | exact p0 | exact pS p0 | exact pS (pS p0) | exact pS (pS (pS p0)) | exact pS (pS (pS (pS p0))) | exact pS (pS (pS (pS (pS p0))))) ?_)))⟩
    unfold fitW
    exact List.all_eq_true.2 fun i hi => by rw [ik i (List.mem_range.1 hi)]; rfl
  rintro ⟨x, hfw⟩
  dsimp only
  have hok : okW w = true := by rw [okW, h1'.1, hfw]; have := h1'.2; rw [Bool.not_eq_false'] at this; rw [this]; rfl
  have hOk := (okW_iff w).1 hok
  have hm1 : 1 ≤ (mksAll w).length := mksW_pos hOk
  have hm2 : (mksAll w).length ≤ 32 * w.length := mksW_len hOk w.length (Nat.le_refl _)
  obtain ⟨m, hm⟩ : ∃ m, m = mksAll w := ⟨_, rfl⟩
  rw [← hm] at hm1 hm2 ⊢
  repeat refine S.seq ?_
  refine S.region ?_
  (refine wL (k := ?_); try (refine L.nil ?_))
  refine L.call (G := [(60, .own x 103 2 m.length (gOf Arc.cells m))]) (H := []) rfl rfl rfl rfl rfl rfl rfl ⟨trivial, by exact sd⟩ rfl (by exact Imps.refl [.ref 60 x, .fn (.func 132) []]) (List.Perm.refl _) (sort_build 60 m x hm1 (by omega)) ?_
  rintro r F' ⟨rfl, d, hd1, hd2, rfl⟩
  have hdl : d.length ≤ 1000 := by rw [hd1.length_eq]; omega
  refine L.nil ?_
  refine rowsEq [(60, .own x 103 2 d.length (gOf Arc.cells d))] rfl ?_
  repeat refine S.seq ?_
  refine S.region ?_
  (refine wL (k := ?_); try (refine L.nil ?_))
  refine L.call (G := [(60, .own x 103 2 d.length (gOf Arc.cells d))]) (H := []) rfl rfl rfl rfl rfl rfl rfl ⟨trivial, by exact sd⟩ rfl (by exact Imps.refl [.ref 60 x, .fn (.func 137) []]) (List.Perm.refl _) (compact_p d x (by omega)) ?_
  rintro r F' ⟨y, rfl, rfl⟩
  rw [cpt_eq (w := w) (hm ▸ hd1) hd2]
  (refine wL (k := ?_); try (refine L.nil ?_))
  have e1 : bldA w = (mksAll w).foldl putA [] := by rw [bldA, if_pos hok]
  have e2 : bldE w = 0 := by rw [bldE, if_pos hok]
  rw [← e1]
  refine rowsEq [(60, .own y 103 2 (bldA w).length (gOf Arc.cells (bldA w)))] rfl ?_
  refine freezeSlot 2 60 rfl rfl rfl ?_
  (((repeat refine S.seq ?_); refine S.ret ?_); refine wRt (k := ?_))
  rw [e2]
  exact Imp.refl _
end Go.Proofs.YtbogfmgfafdjiaaGreatDoor

/- slices.IndexFunc over arcs, where the function looks at what is one's own. -/
namespace Go.Proofs.YtbogfmgfafdjiaaGreatDoor
set_option linter.unusedVariables false
set_option linter.unusedSimpArgs false
set_option maxHeartbeats 8000000
open Go.RowKit
set_option maxRecDepth 4000

theorem IxA (l : List Arc) {f : Nat} {caps : List AV} {F : Rows} (p : Nat → Bool) (hf : callable Tryz.prog f = true) (hp : ∀ i, i < l.length → FnC Tryz.prog f (.agg (Arc.cells (l.getD i default)) :: caps) F (fun r F' => r = .v (.bool (p i)) ∧ F' = F)) :
    FnC Tryz.prog 214 [arcs l, .fn (.func f) caps] F (fun r F' => r = .v (.int .i64 (pidx p l.length)) ∧ F' = F) := by
  refine FnC.intro Tryz.func214 rfl Tryz.ntmps214 rfl ?_; intro off w0
  refine lenAt (sz := 2) (n := l.length) (g := gOf Arc.cells l) 0 rfl fun hn => ?_
  ((repeat refine S.seq ?_); refine wG (k := ?_); try (refine L.nil ?_))
  ((repeat refine S.seq ?_); refine wG (k := ?_); try (refine L.nil ?_))
  refine S.block (S.loop (ι := { k : Nat // k ≤ l.length ∧ ∀ j, j < k → p j = false }) (fun k => [(8, .v (.int .i64 k.1)), (7, .v (.int .i64 l.length)), (1, .fn (.func f) caps), (0, arcs l)]) (fun _ => F) (fun k => l.length - k.1) ?_ ?_)
  · exact fun a w h => ⟨⟨0, Nat.zero_le _, fun j hj => absurd hj (by omega)⟩, h.weak (by (repeat' (first | exact True.intro | exact Imp.refl _ | refine ⟨?_, ?_⟩))) (List.Sublist.refl _)⟩
  rintro ⟨k, hk, hno⟩
  dsimp only
  ((repeat refine S.seq ?_); refine wG (k := ?_); try (refine L.nil ?_))
  refine S.seq (S.cond rfl (fun h => S.skip ?_) (fun h => S.exit ?_))
  · have h := of_dec h
    refine S.seq (S.block ?_)
    ((repeat refine S.seq ?_); refine wG (k := ?_); try (refine L.nil ?_))
    ((repeat refine S.seq ?_); refine wG (k := ?_); try (refine L.nil ?_))
    refine L.call (G := F) (H := []) rfl rfl rfl rfl rfl rfl rfl ⟨trivial, by exact sd⟩ hf (Imps.refl (.agg (Arc.cells (l.getD k default)) :: caps)) (by simp) (hp k (by omega)) ?_
    rintro r F' ⟨rfl, rfl⟩
    refine L.nil ?_
    refine rowsEq F' (List.append_nil _) ?_
    refine S.cond rfl (fun hb => ?_) (fun hb => S.skip ?_)
    · ((repeat refine S.seq ?_); refine wG (k := ?_); try (refine L.nil ?_))
      refine S.ret (E.ret (T := tt) tt_ok rfl rfl (by exact sd) (Imp.of_eq ?_) (List.Sublist.refl _) ⟨rfl, rfl⟩)
      rw [pidx_some (by omega) hb hno]
      rfl
    · ((repeat refine S.seq ?_); refine wG (k := ?_); try (refine L.nil ?_))
      exact fun a w hR => ⟨⟨k + 1, by omega, fun j hj => by rcases Nat.lt_or_ge j k with h | h; exact hno j h; (have : j = k := by omega); subst this; exact hb⟩, by simp only; omega, hR.weak (by (repeat' (first | exact True.intro | exact Imp.refl _ | refine ⟨?_, ?_⟩))) (List.Sublist.refl _)⟩
  · have h := of_dec' h
    ((repeat refine S.seq ?_); refine wG (k := ?_); try (refine L.nil ?_))
    refine S.ret (E.ret (T := tt) tt_ok rfl rfl (by exact sd) (Imp.of_eq ?_) (List.Sublist.refl _) ⟨rfl, rfl⟩)
    rw [pidx_none (fun j hj => hno j (by omega))]
    rfl

end Go.Proofs.YtbogfmgfafdjiaaGreatDoor

/- Tables: which may be. -/
namespace Go.Proofs.YtbogfmgfafdjiaaGreatDoor
set_option linter.unusedVariables false
set_option linter.unusedSimpArgs false
set_option maxHeartbeats 8000000
open Go.RowKit
set_option maxRecDepth 4000

structure Tab where
  ep : Int
  ar : List Arc
  no : List Int
instance : Inhabited Tab := ⟨⟨0, [], []⟩⟩
def Tab.cells (t : Tab) : List AV := [.v (.int .i64 t.ep), arcs t.ar, intW t.no]
def Tab.av (t : Tab) : AV := .agg t.cells
def hasP (l : List Arc) (s : Int) (i : Nat) : Bool := decide ((l.getD i default).shard = s)
def hasA (l : List Arc) (s : Int) : Bool := (List.range l.length).any (hasP l s)
def badNo (t : Tab) (i : Nat) : Bool := decide (t.no.getD i 0 < -1) || decide (t.no.getD i 0 ≥ 4)
def badAr (t : Tab) (i : Nat) : Bool := decide ((t.ar.getD i default).shard ≥ t.no.length) || decide (t.no.getD (t.ar.getD i default).shard.toNat 0 < 0)
def headT (t : Tab) : Bool := (((decide (t.ep < 1) || decide (t.ep > 1073741824)) || !mayA t.ar) || decide ((t.no.length : Int) < 1)) || decide ((t.no.length : Int) > 16)
def mayT (t : Tab) : Bool := (!headT t && !((List.range t.no.length).any (badNo t))) && !((List.range t.ar.length).any (badAr t))

theorem contArc (l : List Arc) {f : Nat} {caps : List AV} {F : Rows} (p : Nat → Bool) (hf : callable Tryz.prog f = true) (hp : ∀ i, i < l.length → FnC Tryz.prog f (.agg (Arc.cells (l.getD i default)) :: caps) F (fun r F' => r = .v (.bool (p i)) ∧ F' = F)) :
    FnC Tryz.prog 138 [arcs l, .fn (.func f) caps] F (fun r F' => r = .v (.bool ((List.range l.length).any p)) ∧ F' = F) := by
  refine FnC.intro Tryz.func138 rfl Tryz.ntmps138 rfl ?_; intro off w0
  ((repeat refine S.seq ?_); refine wG (k := ?_); try (refine L.nil ?_))
  repeat refine S.seq ?_
  refine S.region ?_
  (refine wL (k := ?_); try (refine L.nil ?_))
  refine L.call (G := F) (H := []) rfl rfl rfl rfl rfl rfl rfl ⟨trivial, by exact sd⟩ rfl (by exact Imps.refl [arcs l, .fn (.func f) caps]) (by simp) (IxA l p hf hp) ?_
  rintro r F' ⟨rfl, rfl⟩
  (refine wL (k := ?_); try (refine L.nil ?_))
  refine rowsEq F' (List.append_nil _) ?_
  ((repeat refine S.seq ?_); refine S.ret ?_)
  exact E.ret (T := tt) tt_ok rfl rfl (by exact sd) (Imp.of_eq (by rw [← pidx_any]; rfl)) (List.Sublist.refl _) ⟨rfl, rfl⟩
theorem contInt (w : List Int) {f : Nat} (p : Nat → Bool) (hf : callable Tryz.prog f = true) (hp : ∀ i, i < w.length → PFn Tryz.prog f [.v (.int .i64 (w.getD i 0))] (.v (.bool (p i)))) :
    PFn Tryz.prog 48 [intW w, .fn (.func f) []] (.v (.bool ((List.range w.length).any p))) := by
  refine FnC.intro Tryz.func48 rfl Tryz.ntmps48 rfl ?_; intro off w0
  ((repeat refine S.seq ?_); refine wG (k := ?_); try (refine L.nil ?_))
  repeat refine S.seq ?_
  refine S.region ?_
  (refine wL (k := ?_); try (refine L.nil ?_))
  refine L.call (G := []) (H := []) rfl rfl rfl rfl rfl rfl rfl ⟨trivial, by exact sd⟩ rfl (by exact Imps.refl [intW w, .fn (.func f) []]) (List.Perm.refl _) (IxI (n := w.length) (f := f) (caps := []) (F := []) (fun i => w.getD i 0) p hf (fun i hi => hp i hi)) ?_
  rintro r F' ⟨rfl, rfl⟩
  (refine wL (k := ?_); try (refine L.nil ?_))
  (((repeat refine S.seq ?_); refine S.ret ?_); refine wRt (k := Imp.of_eq ?_))
  rw [pidx_any]
  rfl
theorem has1_p (a : Arc) (s : Int) (b : Nat) : FnC Tryz.prog 139 [.agg a.cells, .ptr 3 b 0] [(3, .blk b 3 [.v (.int .i64 s)])] (fun r F' => r = .v (.bool (decide (a.shard = s))) ∧ F' = [(3, .blk b 3 [.v (.int .i64 s)])]) := by
  refine FnC.intro Tryz.func139 rfl Tryz.ntmps139 rfl ?_; intro off w0
  repeat refine S.seq ?_
  refine S.region ?_
  refine wB 2 (k := fun b2 => ?_)
  (refine wL (k := ?_); try (refine L.nil ?_))
  ((repeat refine S.seq ?_); refine wG (k := ?_); try (refine L.nil ?_))
  ((repeat refine S.seq ?_); refine S.ret ?_)
  exact E.ret (T := tt) tt_ok rfl rfl (by exact sd) (F' := [(3, .blk b 3 [.v (.int .i64 s)])]) (Imp.of_eq rfl) (by (repeat (first | exact List.nil_sublist _ | refine List.Sublist.cons_cons _ ?_ | refine List.Sublist.cons _ ?_))) ⟨rfl, rfl⟩
theorem has_p (l : List Arc) (s : Int) : PFn Tryz.prog 84 [arcs l, .v (.int .i64 s)] (.v (.bool (hasA l s))) := by
  refine FnC.intro Tryz.func84 rfl Tryz.ntmps84 rfl ?_; intro off w0
  repeat refine S.seq ?_
  refine S.region ?_
  refine wB 3 (k := fun b3 => ?_)
  (refine wL (k := ?_); try (refine L.nil ?_))
  repeat refine S.seq ?_
  refine S.region ?_
  (refine wL (k := ?_); try (refine L.nil ?_))
  refine L.call (G := [(3, .blk b3 3 [.v (.int .i64 s)])]) (H := []) rfl rfl rfl rfl rfl rfl rfl ⟨trivial, by exact sd⟩ rfl (by exact Imps.refl [arcs l, .fn (.func 139) [.ptr 3 b3 0]]) (List.Perm.refl _) (contArc l (hasP l s) rfl (fun i hi => has1_p (l.getD i default) s b3)) ?_
  rintro r F' ⟨rfl, rfl⟩
  (refine wL (k := ?_); try (refine L.nil ?_))
  (((repeat refine S.seq ?_); refine S.ret ?_); refine wRt (k := Imp.of_eq ?_))
  rfl
theorem may1_p (z : Int) : PFn Tryz.prog 163 [.v (.int .i64 z)] (.v (.bool (decide (z < -1) || decide (z ≥ 4)))) := by
  refine FnC.intro Tryz.func163 rfl Tryz.ntmps163 rfl ?_; intro off w0
  ((repeat refine S.seq ?_); refine wG (k := ?_); try (refine L.nil ?_))
  ((repeat refine S.seq ?_); refine wG (k := ?_); try (refine L.nil ?_))
  (((repeat refine S.seq ?_); refine S.ret ?_); refine wRt (k := Imp.of_eq ?_))
  rfl
theorem may2_p (t : Tab) (a : Arc) (h0 : 0 ≤ a.shard) (b : Nat) : FnC Tryz.prog 164 [.agg a.cells, .ptr 1 b 0] [(1, .blk b 82 t.cells)] (fun r F' => r = .v (.bool (decide (a.shard ≥ t.no.length) || decide (t.no.getD a.shard.toNat 0 < 0))) ∧ F' = [(1, .blk b 82 t.cells)]) := by
  unfold Tab.cells Arc.cells
  refine FnC.intro Tryz.func164 rfl Tryz.ntmps164 rfl ?_; intro off w0
  repeat refine S.seq ?_
  refine S.region ?_
  refine wB 2 (k := fun b2 => ?_)
  (refine wL (k := ?_); try (refine L.nil ?_))
  ((repeat refine S.seq ?_); refine wG (k := ?_); try (refine L.nil ?_))
  ((repeat refine S.seq ?_); refine S.ret ?_)
  exact E.ret (T := tt) tt_ok rfl rfl (by exact sd) (F' := [(1, .blk b 82 t.cells)]) (Imp.of_eq rfl) (by (repeat (first | exact List.nil_sublist _ | refine List.Sublist.cons_cons _ ?_ | refine List.Sublist.cons _ ?_))) ⟨rfl, rfl⟩
theorem tabmay_p (t : Tab) : PFn Tryz.prog 98 [t.av] (.v (.bool (mayT t))) := by
  unfold Tab.av
  refine FnC.intro Tryz.func98 rfl Tryz.ntmps98 rfl ?_; intro off w0
  repeat refine S.seq ?_
  refine S.region ?_
  refine wB 1 (k := fun b1 => ?_)
  (refine wL (k := ?_); try (refine L.nil ?_))
  repeat refine S.seq ?_
  refine S.region ?_
  unfold Tab.cells
  (refine wL (k := ?_); try (refine L.nil ?_))
  refine wQ (fun _ => ringmay_p t.ar) (k := ?_)
  (refine wL (k := ?_); try (refine L.nil ?_))
  ((repeat refine S.seq ?_); refine S.cond rfl (fun h1 => ?_) (fun h1 => ?_) <;> (try first | refine S.skip ?_ | refine S.exit ?_))
  · have h1 : headT t = true := h1
    ((repeat refine S.seq ?_); refine wG (k := ?_); try (refine L.nil ?_))
    (((repeat refine S.seq ?_); refine S.ret ?_); refine wRt (k := Imp.of_eq ?_))
    rw [mayT, h1]
    rfl
  have h1 : headT t = false := h1
  have hm : mayA t.ar = true := by
    unfold headT at h1
    simp only [Bool.or_eq_false_iff, Bool.not_eq_false'] at h1
    exact h1.1.1.2
  repeat refine S.seq ?_
  refine S.region ?_
  (refine wL (k := ?_); try (refine L.nil ?_))
  refine wP ((contInt t.no (badNo t) rfl (fun i hi => may1_p (t.no.getD i 0)))) (k := ?_)
  (refine wL (k := ?_); try (refine L.nil ?_))
  ((repeat refine S.seq ?_); refine S.cond rfl (fun h2 => ?_) (fun h2 => ?_) <;> (try first | refine S.skip ?_ | refine S.exit ?_))
  · ((repeat refine S.seq ?_); refine wG (k := ?_); try (refine L.nil ?_))
    (((repeat refine S.seq ?_); refine S.ret ?_); refine wRt (k := Imp.of_eq ?_))
    rw [mayT, h2, h1]
    rfl
  repeat refine S.seq ?_
  refine S.region ?_
  (refine wL (k := ?_); try (refine L.nil ?_))
  refine L.call (G := [(1, .blk b1 82 t.cells)]) (H := []) rfl rfl rfl rfl rfl rfl rfl ⟨trivial, by exact sd⟩ rfl (by exact Imps.refl [arcs t.ar, .fn (.func 164) [.ptr 1 b1 0]]) (List.Perm.refl _) (contArc t.ar (badAr t) rfl (fun i hi => may2_p t (t.ar.getD i default) (((mayA_of hm).shard i hi).1) b1)) ?_
  rintro r F' ⟨rfl, rfl⟩
  (refine wL (k := ?_); try (refine L.nil ?_))
  (((repeat refine S.seq ?_); refine S.ret ?_); refine wRt (k := Imp.of_eq ?_))
  rw [mayT, h2, h1]
  rfl
theorem changes_p (t : Tab) (s : Int) : PFn Tryz.prog 180 [t.av, .v (.int .i64 s)] (.v (.bool ((mayT t && hasA t.ar s) && decide (t.ep < 1073741824)))) := by
  unfold Tab.av
  refine FnC.intro Tryz.func180 rfl Tryz.ntmps180 rfl ?_; intro off w0
  repeat refine S.seq ?_
  refine S.region ?_
  refine wB 2 (k := fun b2 => ?_)
  (refine wL (k := ?_); try (refine L.nil ?_))
  repeat refine S.seq ?_
  refine S.region ?_
  unfold Tab.cells
  (refine wL (k := ?_); try (refine L.nil ?_))
  refine wP ((tabmay_p t)) (k := ?_)
  (refine wL (k := ?_); try (refine L.nil ?_))
  refine wQ (fun _ => has_p t.ar s) (k := ?_)
  (refine wL (k := ?_); try (refine L.nil ?_))
  (((repeat refine S.seq ?_); refine S.ret ?_); refine wRt (k := Imp.of_eq ?_))
  rfl
end Go.Proofs.YtbogfmgfafdjiaaGreatDoor

/- Tables as bytes: the plain law. -/
namespace Go.Proofs.YtbogfmgfafdjiaaGreatDoor
set_option linter.unusedVariables false
set_option linter.unusedSimpArgs false
set_option maxHeartbeats 8000000
open Go.RowKit
set_option maxRecDepth 4000

def u8C (x : UInt8) : List AV := [.v (.int .u8 (x.toNat : Int))]
def bytesL (l : List UInt8) : AV := .lst 1 l.length (gOf u8C l)
def strL (l : List UInt8) : ByteArray := ⟨l.toArray⟩
theorem strL_g (l : List UInt8) {i : Nat} (h : i < l.length) : gOf u8C l i = byteG (strL l) i := by
  rw [gOf, byteG, strL, Array.getD_eq_getD_getElem?, List.getElem?_toArray, List.getD_eq_getElem?_getD, List.getElem?_eq_getElem h]
  rfl
theorem strL_size (l : List UInt8) : (strL l).size = l.length := by simp [strL, ByteArray.size]
theorem strL_inj {a b : List UInt8} (h : strL a = strL b) : a = b := by
  have := congrArg (fun x => x.data.toList) h
  simpa [strL] using this
theorem drop_g {α : Type} [Inhabited α] (f : α → List AV) (l : List α) (k i : Nat) : gOf f l (i + k) = gOf f (l.drop k) i := by
  unfold gOf
  rw [List.getD_eq_getElem?_getD, List.getD_eq_getElem?_getD, List.getElem?_drop, Nat.add_comm]
theorem take_gg {α : Type} [Inhabited α] (f : α → List AV) (l : List α) {k i : Nat} (h : i < k) : gOf f l i = gOf f (l.take k) i := by
  unfold gOf
  rw [List.getD_eq_getElem?_getD, List.getD_eq_getElem?_getD, List.getElem?_take_of_lt h]

/-- A number's byte. -/
def byteOf (n : Int) (k : Nat) : UInt8 := UInt8.ofNat ((n.fdiv (2 ^ (8 * k))) % 256).toNat
def numL (n : Int) : Nat → List UInt8
  | 0 => []
  | k + 1 => byteOf n k :: numL n k
theorem numL_len (n : Int) : ∀ k, (numL n k).length = k
  | 0 => rfl
  | k + 1 => by rw [numL, List.length_cons, numL_len n k]
theorem wrap_u8 (z : Int) : IntKind.u8.wrap z = ((UInt8.ofNat (z % 256).toNat).toNat : Int) := by
  have e : IntKind.u8.wrap z = z % 256 := rfl
  rw [e, UInt8.toNat_ofNat']
  omega
def by8 (z : Int) : UInt8 := UInt8.ofNat (z % 256).toNat
theorem by8_nat (z : Int) : ((by8 z).toNat : Int) = z % 256 := (wrap_u8 z).symm
def shl8 (a : Int) : Int := IntKind.i64.wrap (a * 2 ^ min 8 64)
def accS (a : Int) (c : UInt8) : Int := IntKind.i64.wrap ((BitVec.ofInt IntKind.i64.bits (shl8 a) ||| BitVec.ofInt IntKind.i64.bits (IntKind.i64.wrap (c.toNat : Int))).toNat : Int)
theorem bv_nat {n : Nat} (h : n < 18446744073709551616) : (BitVec.ofInt 64 (n : Int)).toNat = n := by
  rw [BitVec.toNat_ofInt]
  omega
theorem accS_eq {a : Nat} (c : UInt8) (h : a < 1099511627776) : accS (a : Int) c = ((a * 256 + c.toNat : Nat) : Int) := by
  have hc : c.toNat < 256 := c.toNat_lt
  have e1 : shl8 (a : Int) = ((a * 256 : Nat) : Int) := by
    have : (a : Int) * 2 ^ min 8 64 = (a : Int) * 256 := rfl
    rw [shl8, this, IntWalk.i64_in _ (by omega)]
    omega
  have e2 : IntKind.i64.wrap (c.toNat : Int) = (c.toNat : Int) := IntWalk.i64_in _ (by omega)
  rw [accS, e1, e2]
  show IntKind.i64.wrap (((BitVec.ofInt 64 ((a * 256 : Nat) : Int)) ||| (BitVec.ofInt 64 (c.toNat : Int))).toNat : Int) = _
  rw [BitVec.toNat_or, bv_nat (by omega), bv_nat (by omega)]
  have e3 : a * 256 ||| c.toNat = a * 256 + c.toNat := by
    have := Nat.shiftLeft_add_eq_or_of_lt (i := 8) (b := c.toNat) (by omega) a
    rw [Nat.shiftLeft_eq] at this
    exact this.symm
  rw [e3, IntWalk.i64_in _ (by omega)]
theorem acc0 (c : UInt8) : accS 0 c = (c.toNat : Int) := by
  have := accS_eq (a := 0) c (by omega)
  simpa using this
theorem acc_by8 (z : Int) : accS 0 (by8 z) = z % 256 := by rw [acc0, by8_nat]
theorem byteOf_nat {n : Int} (h : 0 ≤ n) (k : Nat) : ((byteOf n k).toNat : Int) = n / 2 ^ (8 * k) % 256 := by
  have hp : (0 : Int) ≤ 2 ^ (8 * k) := Int.le_of_lt (Int.pow_pos (by decide))
  rw [byteOf, Int.fdiv_eq_ediv_of_nonneg _ hp]
  exact by8_nat _
theorem acc1 {n : Int} (h : 0 ≤ n) (h1 : n < 256) : (numL n 1).foldl accS 0 = n := by
  show accS 0 (byteOf n 0) = n
  have b0 := byteOf_nat h 0
  have : (2 : Int) ^ (8 * 0) = 1 := rfl
  rw [this] at b0
  rw [acc0]
  omega
theorem acc2 {n : Int} (h : 0 ≤ n) (h1 : n < 65536) : (numL n 2).foldl accS 0 = n := by
  show accS (accS 0 (byteOf n 1)) (byteOf n 0) = n
  have b0 := byteOf_nat h 0
  have b1 := byteOf_nat h 1
  have e0 : (2 : Int) ^ (8 * 0) = 1 := rfl
  have e1 : (2 : Int) ^ (8 * 1) = 256 := rfl
  rw [e0] at b0
  rw [e1] at b1
  have c1 := (byteOf n 1).toNat_lt
  rw [acc0, accS_eq _ (by omega)]
  omega
theorem acc4 {n : Int} (h : 0 ≤ n) (h1 : n < 4294967296) : (numL n 4).foldl accS 0 = n := by
  show accS (accS (accS (accS 0 (byteOf n 3)) (byteOf n 2)) (byteOf n 1)) (byteOf n 0) = n
  have b0 := byteOf_nat h 0
  have b1 := byteOf_nat h 1
  have b2 := byteOf_nat h 2
  have b3 := byteOf_nat h 3
  have e0 : (2 : Int) ^ (8 * 0) = 1 := rfl
  have e1 : (2 : Int) ^ (8 * 1) = 256 := rfl
  have e2 : (2 : Int) ^ (8 * 2) = 65536 := rfl
  have e3 : (2 : Int) ^ (8 * 3) = 16777216 := rfl
  rw [e0] at b0
  rw [e1] at b1
  rw [e2] at b2
  rw [e3] at b3
  have c1 := (byteOf n 1).toNat_lt
  have c2 := (byteOf n 2).toNat_lt
  have c3 := (byteOf n 3).toNat_lt
  rw [acc0, accS_eq _ (by omega), accS_eq _ (by omega), accS_eq _ (by omega)]
  omega

/-- The parts of a table's bytes. -/
def noL (l : List Int) : List UInt8 := l.map fun n => by8 (n + 1)
def arB (a : Arc) : List UInt8 := numL a.at0 4 ++ [by8 a.shard]
def arL (l : List Arc) : List UInt8 := l.flatMap arB
def putL (t : Tab) : List UInt8 := numL t.ep 4 ++ (numL t.no.length 1 ++ (noL t.no ++ (numL t.ar.length 2 ++ arL t.ar)))
structure MayT (t : Tab) : Prop where
  ep : 1 ≤ t.ep ∧ t.ep ≤ 1073741824
  ar : MayA t.ar
  no : 1 ≤ t.no.length ∧ t.no.length ≤ 16
  nod : ∀ n ∈ t.no, -1 ≤ n ∧ n < 4
theorem mayT_of {t : Tab} (h : mayT t = true) : MayT t := by
  unfold mayT at h
  rw [Bool.and_eq_true, Bool.and_eq_true, Bool.not_eq_true', Bool.not_eq_true'] at h
  obtain ⟨⟨h1, h2⟩, -⟩ := h
  unfold headT at h1
  simp only [Bool.or_eq_false_iff, Bool.not_eq_false', decide_eq_false_iff_not] at h1
  obtain ⟨⟨⟨⟨a1, a2⟩, a3⟩, a4⟩, a5⟩ := h1
  refine ⟨by omega, mayA_of a3, by omega, fun n hn => ?_⟩
  obtain ⟨i, hi, rfl⟩ := List.getElem_of_mem hn
  have := List.any_eq_false.1 h2 i (List.mem_range.2 hi)
  unfold badNo at this
  rw [List.getD_eq_getElem?_getD, List.getElem?_eq_getElem hi, Option.getD_some] at this
  simp only [Bool.or_eq_true, decide_eq_true_eq] at this
  omega
theorem mayT_fits {t : Tab} (h : MayT t) {a : Arc} (ha : a ∈ t.ar) : 0 ≤ a.shard ∧ a.shard < 16 := by
  obtain ⟨i, hi, rfl⟩ := List.getElem_of_mem ha
  have := h.ar.shard i hi
  rwa [getD_get hi] at this

theorem noL_len (l : List Int) : (noL l).length = l.length := List.length_map _
theorem arL_len : ∀ l : List Arc, (arL l).length = 5 * l.length
  | [] => rfl
  | a :: t => by
    rw [arL, List.flatMap_cons, List.length_append, ← arL, arL_len t, arB, List.length_append, numL_len]
    simp only [List.length_cons, List.length_nil]; omega
theorem putL_len (t : Tab) : (putL t).length = 7 + t.no.length + 5 * t.ar.length := by
  simp only [putL, List.length_append, numL_len, noL_len, arL_len]
  omega
theorem noL_inj : ∀ {a b : List Int}, (∀ n ∈ a, -1 ≤ n ∧ n < 4) → (∀ n ∈ b, -1 ≤ n ∧ n < 4) → noL a = noL b → a = b
  | [], [], _, _, _ => rfl
  | [], _ :: _, _, _, h => by cases h
  | _ :: _, [], _, _, h => by cases h
  | x :: s, y :: t, ha, hb, h => by
    have h1 : by8 (x + 1) = by8 (y + 1) ∧ noL s = noL t := by
      unfold noL at h
      rw [List.map_cons, List.map_cons] at h
      exact List.cons.inj h
    have e := congrArg (fun c => (c.toNat : Int)) h1.1
    simp only [by8_nat] at e
    have hx := ha x List.mem_cons_self
    have hy := hb y List.mem_cons_self
    rw [noL_inj (fun n hn => ha n (List.mem_cons_of_mem _ hn)) (fun n hn => hb n (List.mem_cons_of_mem _ hn)) h1.2, show x = y by omega]
theorem arL_inj : ∀ {a b : List Arc}, (∀ x ∈ a, (0 ≤ x.shard ∧ x.shard < 16) ∧ 0 ≤ x.at0 ∧ x.at0 < 4294967296) → (∀ x ∈ b, (0 ≤ x.shard ∧ x.shard < 16) ∧ 0 ≤ x.at0 ∧ x.at0 < 4294967296) → arL a = arL b → a = b
  | [], [], _, _, _ => rfl
  | [], y :: t, _, _, h => by have := congrArg List.length h; rw [arL_len, arL_len] at this; simp at this
  | x :: s, [], _, _, h => by have := congrArg List.length h; rw [arL_len, arL_len] at this; simp at this
  | x :: s, y :: t, ha, hb, h => by
    have h1 : numL x.at0 4 ++ ([by8 x.shard] ++ arL s) = numL y.at0 4 ++ ([by8 y.shard] ++ arL t) := by
      have e : ∀ (z : Arc) (u : List Arc), arL (z :: u) = numL z.at0 4 ++ ([by8 z.shard] ++ arL u) := fun z u => by
        rw [arL, List.flatMap_cons, arB, List.append_assoc]; rfl
      rw [← e, ← e, h]
    obtain ⟨h2, h3⟩ := List.append_inj h1 (by rw [numL_len, numL_len])
    obtain ⟨h4, h5⟩ := List.append_inj h3 rfl
    have hx := ha x List.mem_cons_self
    have hy := hb y List.mem_cons_self
    have e1 : x.at0 = y.at0 := by rw [← acc4 hx.2.1 hx.2.2, ← acc4 hy.2.1 hy.2.2, h2]
    have e2 := congrArg (fun c => (c.toNat : Int)) (List.cons.inj h4).1
    simp only [by8_nat] at e2
    rw [arL_inj (fun n hn => ha n (List.mem_cons_of_mem _ hn)) (fun n hn => hb n (List.mem_cons_of_mem _ hn)) h5, Arc.ext' e1 (show x.shard = y.shard by omega)]
def in32 (t : Tab) : Prop := ∀ a ∈ t.ar, 0 ≤ a.at0 ∧ a.at0 < 4294967296
/-- No table's bytes begin another one's. -/
theorem put_pre {t u : Tab} (ht : MayT t) (hu : MayT u) (rt : in32 t) (ru : in32 u) {x y : List UInt8} (h : putL t ++ x = putL u ++ y) : t = u ∧ x = y := by
  simp only [putL, List.append_assoc] at h
  obtain ⟨h1, h⟩ := List.append_inj h (by rw [numL_len, numL_len])
  obtain ⟨h2, h⟩ := List.append_inj h (by rw [numL_len, numL_len])
  have e1 : t.ep = u.ep := by
    have a := ht.ep
    have b := hu.ep
    rw [← acc4 (n := t.ep) (by omega) (by omega), ← acc4 (n := u.ep) (by omega) (by omega), h1]
  have e2 : t.no.length = u.no.length := by
    have a := ht.no
    have b := hu.no
    have : ((t.no.length : Nat) : Int) = (u.no.length : Nat) := by rw [← acc1 (n := (t.no.length : Int)) (by omega) (by omega), ← acc1 (n := (u.no.length : Int)) (by omega) (by omega), h2]
    omega
  obtain ⟨h3, h⟩ := List.append_inj h (by rw [noL_len, noL_len, e2])
  obtain ⟨h4, h⟩ := List.append_inj h (by rw [numL_len, numL_len])
  have e3 : t.ar.length = u.ar.length := by
    have a := ht.ar.most
    have b := hu.ar.most
    have : ((t.ar.length : Nat) : Int) = (u.ar.length : Nat) := by rw [← acc2 (n := (t.ar.length : Int)) (by omega) (by omega), ← acc2 (n := (u.ar.length : Int)) (by omega) (by omega), h4]
    omega
  obtain ⟨h5, h⟩ := List.append_inj h (by rw [arL_len, arL_len, e3])
  have e4 := noL_inj ht.nod hu.nod h3
  have e5 := arL_inj (fun x hx => ⟨mayT_fits ht hx, rt x hx⟩) (fun x hx => ⟨mayT_fits hu hx, ru x hx⟩) h5
  refine ⟨?_, h⟩
  cases t; cases u
  cases e1; cases e4; cases e5; rfl
/-- What bytes are read as. -/
noncomputable def getF (b : List UInt8) : Tab × Int := by
  classical
  exact if h : ∃ t : Tab, mayT t = true ∧ in32 t ∧ putL t = b then (Classical.choose h, 0) else (⟨0, [], []⟩, 2)
theorem getF_ok {b : List UInt8} {t : Tab} (h1 : mayT t = true) (h2 : in32 t) (h3 : putL t = b) : getF b = (t, 0) := by
  have h : ∃ t : Tab, mayT t = true ∧ in32 t ∧ putL t = b := ⟨t, h1, h2, h3⟩
  rw [getF, dif_pos h]
  obtain ⟨c1, c2, c3⟩ := Classical.choose_spec h
  have := (put_pre (x := []) (y := []) (mayT_of c1) (mayT_of h1) c2 h2 (by rw [List.append_nil, List.append_nil, c3, h3])).1
  rw [this]
theorem getF_err {b : List UInt8} (h : ∀ t : Tab, mayT t = true → in32 t → putL t ≠ b) : getF b = (⟨0, [], []⟩, 2) := by
  rw [getF, dif_neg]
  rintro ⟨t, h1, h2, h3⟩
  exact h t h1 h2 h3
end Go.Proofs.YtbogfmgfafdjiaaGreatDoor

/-
  DERIVED: THE SHELF's CONTRACTS AT THIS DUMP, IN PLAIN WORDS (tools/lay-plain.mjs out of 'TryzDkShelf.lean', which tools/lay-shelf.mjs wrote): THE SAME DECLARATIONS UNDER THE SAME NAMES: 'import', 'namespace', 'open', 'def', 'theorem' AND NOTHING ELSE: no command of the shelf's: FOR A HAND-IN. Each laying: the table of numbers ('.._ren') and one theorem, a field a fact of the dump's own or the kernel's comparison; each contract: ONE APPLICATION.
-/
namespace Go.Proofs
open Go.Shelf
def Tryz.lays169_ren : Go.Shelf.Ren := ⟨fun | 169 => 25 | n => n, fun | 70 => 53 | 9 => 9 | 0 => 0 | 72 => 56 | 37 => 54 | 127 => 161 | 3 => 3 | 5 => 5 | n => n, fun | n => n⟩
theorem Tryz.lays169 : Go.Proofs.Lays.n169 Tryz.prog Tryz.lays169_ren := {
  mixed := by kernel_rfl
  f169 := Tryz.func25.trans (congrArg some (by kernel_rfl))
  t0 := Tryz.underlying0
  a0 := Tryz.isAgg0
  z0 := Tryz.sizeOf0
  v0 := Tryz.zeroValue0
  t3 := Tryz.underlying3
  a3 := Tryz.isAgg3
  z3 := Tryz.sizeOf3
  v3 := Tryz.zeroValue3
  t9 := Tryz.underlying9
  a9 := Tryz.isAgg9
  z9 := Tryz.sizeOf9
  v9 := Tryz.zeroValue9
  t37 := Tryz.underlying54
  a37 := Tryz.isAgg54
  z37 := Tryz.sizeOf54
  v37 := Tryz.zeroValue54
  t70 := Tryz.underlying53
  a70 := Tryz.isAgg53
  z70 := Tryz.sizeOf53
  v70 := Tryz.zeroValue53
  t72 := Tryz.underlying56
  a72 := Tryz.isAgg56
  z72 := Tryz.sizeOf56
  v72 := Tryz.zeroValue56
  t127 := Tryz.underlying161
  a127 := Tryz.isAgg161
  z127 := Tryz.sizeOf161
  v127 := Tryz.zeroValue161 }
theorem Tryz.Builder_Extra_169 : Builder.Extra Tryz.prog Tryz.lays169_ren := {
  sizeBuilder := by kernel_rfl
  liesBuilder := by kernel_rfl
  t5 := Tryz.underlying5
  a5 := Tryz.isAgg5
  z5 := Tryz.sizeOf5
  v5 := Tryz.zeroValue5
  infoByte := by kernel_rfl
  cellsByte := by kernel_rfl
  sizeByte := by kernel_rfl
  neB5 := by decide }
def Tryz.lays160_ren : Go.Shelf.Ren := ⟨fun | 160 => 96 | 232 => 154 | 231 => 153 | 227 => 155 | 234 => 157 | 233 => 156 | 236 => 159 | 235 => 158 | 228 => 234 | 271 => 236 | 151 => 235 | 197 => 150 | 120 => 298 | 152 => 297 | 260 => 229 | 137 => 337 | 119 => 338 | 224 => 232 | 225 => 231 | 217 => 230 | 266 => 295 | n => n, fun | 9 => 9 | 4 => 4 | 3 => 3 | 5 => 5 | 117 => 284 | 116 => 283 | 0 => 0 | 124 => 287 | 21 => 21 | 105 => 278 | 46 => 22 | 119 => 409 | 139 => 412 | 138 => 411 | n => n, fun | 3 => 1 | 4 => 2 | n => n⟩
theorem Tryz.lays160 : Go.Proofs.Lays.n160 Tryz.prog Tryz.lays160_ren := {
  mixed := by kernel_rfl
  f119 := Tryz.func338.trans (congrArg some (by kernel_rfl))
  f120 := Tryz.func298.trans (congrArg some (by kernel_rfl))
  f137 := Tryz.func337.trans (congrArg some (by kernel_rfl))
  f151 := Tryz.func235.trans (congrArg some (by kernel_rfl))
  f152 := Tryz.func297.trans (congrArg some (by kernel_rfl))
  f160 := Tryz.func96.trans (congrArg some (by kernel_rfl))
  f197 := Tryz.func150.trans (congrArg some (by kernel_rfl))
  f217 := Tryz.func230.trans (congrArg some (by kernel_rfl))
  f224 := Tryz.func232.trans (congrArg some (by kernel_rfl))
  f225 := Tryz.func231.trans (congrArg some (by kernel_rfl))
  f227 := Tryz.func155.trans (congrArg some (by kernel_rfl))
  f228 := Tryz.func234.trans (congrArg some (by kernel_rfl))
  f231 := Tryz.func153.trans (congrArg some (by kernel_rfl))
  f232 := Tryz.func154.trans (congrArg some (by kernel_rfl))
  f233 := Tryz.func156.trans (congrArg some (by kernel_rfl))
  f234 := Tryz.func157.trans (congrArg some (by kernel_rfl))
  f235 := Tryz.func158.trans (congrArg some (by kernel_rfl))
  f236 := Tryz.func159.trans (congrArg some (by kernel_rfl))
  f260 := Tryz.func229.trans (congrArg some (by kernel_rfl))
  f266 := Tryz.func295.trans (congrArg some (by kernel_rfl))
  f271 := Tryz.func236.trans (congrArg some (by kernel_rfl))
  t0 := Tryz.underlying0
  a0 := Tryz.isAgg0
  z0 := Tryz.sizeOf0
  v0 := Tryz.zeroValue0
  t3 := Tryz.underlying3
  a3 := Tryz.isAgg3
  z3 := Tryz.sizeOf3
  v3 := Tryz.zeroValue3
  t4 := Tryz.underlying4
  a4 := Tryz.isAgg4
  z4 := Tryz.sizeOf4
  v4 := Tryz.zeroValue4
  t5 := Tryz.underlying5
  a5 := Tryz.isAgg5
  z5 := Tryz.sizeOf5
  v5 := Tryz.zeroValue5
  t9 := Tryz.underlying9
  a9 := Tryz.isAgg9
  z9 := Tryz.sizeOf9
  v9 := Tryz.zeroValue9
  t21 := Tryz.underlying21
  a21 := Tryz.isAgg21
  z21 := Tryz.sizeOf21
  v21 := Tryz.zeroValue21
  t46 := Tryz.underlying22
  a46 := Tryz.isAgg22
  z46 := Tryz.sizeOf22
  v46 := Tryz.zeroValue22
  t105 := Tryz.underlying278
  a105 := Tryz.isAgg278
  z105 := Tryz.sizeOf278
  v105 := Tryz.zeroValue278
  t116 := Tryz.underlying283
  a116 := Tryz.isAgg283
  z116 := Tryz.sizeOf283
  t117 := Tryz.underlying284
  a117 := Tryz.isAgg284
  z117 := Tryz.sizeOf284
  v117 := Tryz.zeroValue284
  t119 := Tryz.underlying409
  a119 := Tryz.isAgg409
  z119 := Tryz.sizeOf409
  t124 := Tryz.underlying287
  a124 := Tryz.isAgg287
  z124 := Tryz.sizeOf287
  v124 := Tryz.zeroValue287
  t138 := Tryz.underlying411
  a138 := Tryz.isAgg411
  z138 := Tryz.sizeOf411
  v138 := Tryz.zeroValue411
  t139 := Tryz.underlying412
  a139 := Tryz.isAgg412
  z139 := Tryz.sizeOf412
  v139 := Tryz.zeroValue412
  g3 := by kernel_rfl
  g4 := by kernel_rfl }
def Tryz.lays172_ren : Go.Shelf.Ren := ⟨fun | 172 => 97 | 244 => 160 | 245 => 161 | 247 => 237 | 279 => 238 | 280 => 239 | 281 => 240 | 282 => 241 | 287 => 299 | 316 => 300 | 171 => 63 | 205 => 301 | 321 => 339 | 322 => 340 | 243 => 101 | 246 => 166 | 283 => 242 | 284 => 243 | 285 => 244 | 286 => 245 | 129 => 210 | 317 => 302 | 318 => 303 | 319 => 304 | 320 => 305 | 337 => 341 | 338 => 342 | n => n, fun | 9 => 9 | 3 => 3 | 75 => 58 | 76 => 59 | 4 => 4 | 5 => 5 | 167 => 350 | 37 => 54 | 0 => 0 | 85 => 351 | 2 => 2 | 168 => 353 | 53 => 277 | 175 => 416 | 46 => 22 | 210 => 419 | 127 => 161 | 145 => 451 | 143 => 449 | 21 => 21 | 171 => 356 | 173 => 358 | 212 => 422 | 51 => 101 | 20 => 20 | 213 => 423 | 232 => 473 | 233 => 474 | 80 => 62 | n => n, fun | 15 => 3 | 16 => 4 | 17 => 5 | 18 => 6 | 19 => 7 | n => n⟩
theorem Tryz.lays172 : Go.Proofs.Lays.n172 Tryz.prog Tryz.lays172_ren := {
  mixed := by kernel_rfl
  f129 := Tryz.func210.trans (congrArg some (by kernel_rfl))
  f171 := Tryz.func63.trans (congrArg some (by kernel_rfl))
  f172 := Tryz.func97.trans (congrArg some (by kernel_rfl))
  f205 := Tryz.func301.trans (congrArg some (by kernel_rfl))
  f243 := Tryz.func101.trans (congrArg some (by kernel_rfl))
  f244 := Tryz.func160.trans (congrArg some (by kernel_rfl))
  f245 := Tryz.func161.trans (congrArg some (by kernel_rfl))
  f246 := Tryz.func166.trans (congrArg some (by kernel_rfl))
  f247 := Tryz.func237.trans (congrArg some (by kernel_rfl))
  f279 := Tryz.func238.trans (congrArg some (by kernel_rfl))
  f280 := Tryz.func239.trans (congrArg some (by kernel_rfl))
  f281 := Tryz.func240.trans (congrArg some (by kernel_rfl))
  f282 := Tryz.func241.trans (congrArg some (by kernel_rfl))
  f283 := Tryz.func242.trans (congrArg some (by kernel_rfl))
  f284 := Tryz.func243.trans (congrArg some (by kernel_rfl))
  f285 := Tryz.func244.trans (congrArg some (by kernel_rfl))
  f286 := Tryz.func245.trans (congrArg some (by kernel_rfl))
  f287 := Tryz.func299.trans (congrArg some (by kernel_rfl))
  f316 := Tryz.func300.trans (congrArg some (by kernel_rfl))
  f317 := Tryz.func302.trans (congrArg some (by kernel_rfl))
  f318 := Tryz.func303.trans (congrArg some (by kernel_rfl))
  f319 := Tryz.func304.trans (congrArg some (by kernel_rfl))
  f320 := Tryz.func305.trans (congrArg some (by kernel_rfl))
  f321 := Tryz.func339.trans (congrArg some (by kernel_rfl))
  f322 := Tryz.func340.trans (congrArg some (by kernel_rfl))
  f337 := Tryz.func341.trans (congrArg some (by kernel_rfl))
  f338 := Tryz.func342.trans (congrArg some (by kernel_rfl))
  t0 := Tryz.underlying0
  a0 := Tryz.isAgg0
  z0 := Tryz.sizeOf0
  v0 := Tryz.zeroValue0
  t2 := Tryz.underlying2
  a2 := Tryz.isAgg2
  z2 := Tryz.sizeOf2
  v2 := Tryz.zeroValue2
  t3 := Tryz.underlying3
  a3 := Tryz.isAgg3
  z3 := Tryz.sizeOf3
  v3 := Tryz.zeroValue3
  t4 := Tryz.underlying4
  a4 := Tryz.isAgg4
  z4 := Tryz.sizeOf4
  v4 := Tryz.zeroValue4
  t5 := Tryz.underlying5
  a5 := Tryz.isAgg5
  z5 := Tryz.sizeOf5
  v5 := Tryz.zeroValue5
  t9 := Tryz.underlying9
  a9 := Tryz.isAgg9
  z9 := Tryz.sizeOf9
  v9 := Tryz.zeroValue9
  t20 := Tryz.underlying20
  a20 := Tryz.isAgg20
  z20 := Tryz.sizeOf20
  v20 := Tryz.zeroValue20
  t21 := Tryz.underlying21
  a21 := Tryz.isAgg21
  z21 := Tryz.sizeOf21
  v21 := Tryz.zeroValue21
  t37 := Tryz.underlying54
  a37 := Tryz.isAgg54
  z37 := Tryz.sizeOf54
  v37 := Tryz.zeroValue54
  t46 := Tryz.underlying22
  a46 := Tryz.isAgg22
  z46 := Tryz.sizeOf22
  v46 := Tryz.zeroValue22
  t51 := Tryz.underlying101
  a51 := Tryz.isAgg101
  z51 := Tryz.sizeOf101
  v51 := Tryz.zeroValue101
  t53 := Tryz.underlying277
  a53 := Tryz.isAgg277
  z53 := Tryz.sizeOf277
  v53 := Tryz.zeroValue277
  t75 := Tryz.underlying58
  a75 := Tryz.isAgg58
  z75 := Tryz.sizeOf58
  v75 := Tryz.zeroValue58
  t76 := Tryz.underlying59
  a76 := Tryz.isAgg59
  z76 := Tryz.sizeOf59
  v76 := Tryz.zeroValue59
  t85 := Tryz.underlying351
  a85 := Tryz.isAgg351
  z85 := Tryz.sizeOf351
  v85 := Tryz.zeroValue351
  t127 := Tryz.underlying161
  a127 := Tryz.isAgg161
  z127 := Tryz.sizeOf161
  v127 := Tryz.zeroValue161
  t143 := Tryz.underlying449
  a143 := Tryz.isAgg449
  z143 := Tryz.sizeOf449
  v143 := Tryz.zeroValue449
  t145 := Tryz.underlying451
  a145 := Tryz.isAgg451
  z145 := Tryz.sizeOf451
  v145 := Tryz.zeroValue451
  t167 := Tryz.underlying350
  a167 := Tryz.isAgg350
  z167 := Tryz.sizeOf350
  v167 := Tryz.zeroValue350
  t168 := Tryz.underlying353
  a168 := Tryz.isAgg353
  z168 := Tryz.sizeOf353
  v168 := Tryz.zeroValue353
  t171 := Tryz.underlying356
  a171 := Tryz.isAgg356
  z171 := Tryz.sizeOf356
  v171 := Tryz.zeroValue356
  t173 := Tryz.underlying358
  a173 := Tryz.isAgg358
  z173 := Tryz.sizeOf358
  v173 := Tryz.zeroValue358
  t175 := Tryz.underlying416
  a175 := Tryz.isAgg416
  z175 := Tryz.sizeOf416
  v175 := Tryz.zeroValue416
  t210 := Tryz.underlying419
  a210 := Tryz.isAgg419
  z210 := Tryz.sizeOf419
  v210 := Tryz.zeroValue419
  t212 := Tryz.underlying422
  a212 := Tryz.isAgg422
  z212 := Tryz.sizeOf422
  v212 := Tryz.zeroValue422
  t213 := Tryz.underlying423
  a213 := Tryz.isAgg423
  z213 := Tryz.sizeOf423
  t232 := Tryz.underlying473
  a232 := Tryz.isAgg473
  z232 := Tryz.sizeOf473
  v232 := Tryz.zeroValue473
  t233 := Tryz.underlying474
  a233 := Tryz.isAgg474
  z233 := Tryz.sizeOf474
  v233 := Tryz.zeroValue474
  g15 := by kernel_rfl
  g16 := by kernel_rfl
  g17 := by kernel_rfl
  g18 := by kernel_rfl
  g19 := by kernel_rfl }
def Tryz.lays143_ren : Go.Shelf.Ren := ⟨fun | 143 => 94 | 219 => 152 | 217 => 230 | 225 => 231 | 224 => 232 | 267 => 233 | 266 => 295 | 314 => 296 | n => n, fun | 9 => 9 | 3 => 3 | 4 => 4 | 5 => 5 | 46 => 22 | 146 => 413 | 51 => 101 | n => n, fun | 1 => 0 | n => n⟩
theorem Tryz.lays143 : Go.Proofs.Lays.n143 Tryz.prog Tryz.lays143_ren := {
  mixed := by kernel_rfl
  f143 := Tryz.func94.trans (congrArg some (by kernel_rfl))
  f217 := Tryz.func230.trans (congrArg some (by kernel_rfl))
  f219 := Tryz.func152.trans (congrArg some (by kernel_rfl))
  f224 := Tryz.func232.trans (congrArg some (by kernel_rfl))
  f225 := Tryz.func231.trans (congrArg some (by kernel_rfl))
  f266 := Tryz.func295.trans (congrArg some (by kernel_rfl))
  f267 := Tryz.func233.trans (congrArg some (by kernel_rfl))
  f314 := Tryz.func296.trans (congrArg some (by kernel_rfl))
  t3 := Tryz.underlying3
  a3 := Tryz.isAgg3
  z3 := Tryz.sizeOf3
  v3 := Tryz.zeroValue3
  t4 := Tryz.underlying4
  a4 := Tryz.isAgg4
  z4 := Tryz.sizeOf4
  v4 := Tryz.zeroValue4
  t5 := Tryz.underlying5
  a5 := Tryz.isAgg5
  z5 := Tryz.sizeOf5
  v5 := Tryz.zeroValue5
  t9 := Tryz.underlying9
  a9 := Tryz.isAgg9
  z9 := Tryz.sizeOf9
  v9 := Tryz.zeroValue9
  t46 := Tryz.underlying22
  a46 := Tryz.isAgg22
  z46 := Tryz.sizeOf22
  v46 := Tryz.zeroValue22
  t51 := Tryz.underlying101
  a51 := Tryz.isAgg101
  z51 := Tryz.sizeOf101
  v51 := Tryz.zeroValue101
  t146 := Tryz.underlying413
  a146 := Tryz.isAgg413
  z146 := Tryz.sizeOf413
  v146 := Tryz.zeroValue413
  g1 := by kernel_rfl }
def Tryz.lays138_ren : Go.Shelf.Ren := ⟨fun | 138 => 93 | 195 => 149 | 218 => 151 | 143 => 94 | 219 => 152 | 217 => 230 | 225 => 231 | 224 => 232 | 267 => 233 | 266 => 295 | 314 => 296 | n => n, fun | 9 => 9 | 3 => 3 | 4 => 4 | 5 => 5 | 0 => 0 | 46 => 22 | 146 => 413 | 51 => 101 | n => n, fun | 1 => 0 | n => n⟩
theorem Tryz.lays138 : Go.Proofs.Lays.n138 Tryz.prog Tryz.lays138_ren := {
  mixed := by kernel_rfl
  f138 := Tryz.func93.trans (congrArg some (by kernel_rfl))
  f143 := Tryz.func94.trans (congrArg some (by kernel_rfl))
  f195 := Tryz.func149.trans (congrArg some (by kernel_rfl))
  f217 := Tryz.func230.trans (congrArg some (by kernel_rfl))
  f218 := Tryz.func151.trans (congrArg some (by kernel_rfl))
  f219 := Tryz.func152.trans (congrArg some (by kernel_rfl))
  f224 := Tryz.func232.trans (congrArg some (by kernel_rfl))
  f225 := Tryz.func231.trans (congrArg some (by kernel_rfl))
  f266 := Tryz.func295.trans (congrArg some (by kernel_rfl))
  f267 := Tryz.func233.trans (congrArg some (by kernel_rfl))
  f314 := Tryz.func296.trans (congrArg some (by kernel_rfl))
  t0 := Tryz.underlying0
  a0 := Tryz.isAgg0
  z0 := Tryz.sizeOf0
  v0 := Tryz.zeroValue0
  t3 := Tryz.underlying3
  a3 := Tryz.isAgg3
  z3 := Tryz.sizeOf3
  v3 := Tryz.zeroValue3
  t4 := Tryz.underlying4
  a4 := Tryz.isAgg4
  z4 := Tryz.sizeOf4
  v4 := Tryz.zeroValue4
  t5 := Tryz.underlying5
  a5 := Tryz.isAgg5
  z5 := Tryz.sizeOf5
  v5 := Tryz.zeroValue5
  t9 := Tryz.underlying9
  a9 := Tryz.isAgg9
  z9 := Tryz.sizeOf9
  v9 := Tryz.zeroValue9
  t46 := Tryz.underlying22
  a46 := Tryz.isAgg22
  z46 := Tryz.sizeOf22
  v46 := Tryz.zeroValue22
  t51 := Tryz.underlying101
  a51 := Tryz.isAgg101
  z51 := Tryz.sizeOf101
  v51 := Tryz.zeroValue101
  t146 := Tryz.underlying413
  a146 := Tryz.isAgg413
  z146 := Tryz.sizeOf413
  v146 := Tryz.zeroValue413
  g1 := by kernel_rfl }
def Tryz.lays221_ren : Go.Shelf.Ren := ⟨fun | 221 => 57 | 268 => 92 | 138 => 93 | 143 => 94 | 195 => 149 | 197 => 150 | 218 => 151 | 219 => 152 | 260 => 229 | 217 => 230 | 225 => 231 | 224 => 232 | 267 => 233 | 266 => 295 | 314 => 296 | n => n, fun | 9 => 9 | 3 => 3 | 31 => 30 | 4 => 4 | 0 => 0 | 105 => 278 | 21 => 21 | 5 => 5 | 46 => 22 | 119 => 409 | 139 => 412 | 138 => 411 | 146 => 413 | 51 => 101 | n => n, fun | 1 => 0 | 3 => 1 | 4 => 2 | n => n⟩
theorem Tryz.lays221 : Go.Proofs.Lays.n221 Tryz.prog Tryz.lays221_ren := {
  mixed := by kernel_rfl
  f138 := Tryz.func93.trans (congrArg some (by kernel_rfl))
  f143 := Tryz.func94.trans (congrArg some (by kernel_rfl))
  f195 := Tryz.func149.trans (congrArg some (by kernel_rfl))
  f197 := Tryz.func150.trans (congrArg some (by kernel_rfl))
  f217 := Tryz.func230.trans (congrArg some (by kernel_rfl))
  f218 := Tryz.func151.trans (congrArg some (by kernel_rfl))
  f219 := Tryz.func152.trans (congrArg some (by kernel_rfl))
  f221 := Tryz.func57.trans (congrArg some (by kernel_rfl))
  f224 := Tryz.func232.trans (congrArg some (by kernel_rfl))
  f225 := Tryz.func231.trans (congrArg some (by kernel_rfl))
  f260 := Tryz.func229.trans (congrArg some (by kernel_rfl))
  f266 := Tryz.func295.trans (congrArg some (by kernel_rfl))
  f267 := Tryz.func233.trans (congrArg some (by kernel_rfl))
  f268 := Tryz.func92.trans (congrArg some (by kernel_rfl))
  f314 := Tryz.func296.trans (congrArg some (by kernel_rfl))
  t0 := Tryz.underlying0
  a0 := Tryz.isAgg0
  z0 := Tryz.sizeOf0
  v0 := Tryz.zeroValue0
  t3 := Tryz.underlying3
  a3 := Tryz.isAgg3
  z3 := Tryz.sizeOf3
  v3 := Tryz.zeroValue3
  t4 := Tryz.underlying4
  a4 := Tryz.isAgg4
  z4 := Tryz.sizeOf4
  v4 := Tryz.zeroValue4
  t5 := Tryz.underlying5
  a5 := Tryz.isAgg5
  z5 := Tryz.sizeOf5
  v5 := Tryz.zeroValue5
  t9 := Tryz.underlying9
  a9 := Tryz.isAgg9
  z9 := Tryz.sizeOf9
  v9 := Tryz.zeroValue9
  t21 := Tryz.underlying21
  a21 := Tryz.isAgg21
  z21 := Tryz.sizeOf21
  v21 := Tryz.zeroValue21
  t31 := Tryz.underlying30
  a31 := Tryz.isAgg30
  z31 := Tryz.sizeOf30
  v31 := Tryz.zeroValue30
  t46 := Tryz.underlying22
  a46 := Tryz.isAgg22
  z46 := Tryz.sizeOf22
  v46 := Tryz.zeroValue22
  t51 := Tryz.underlying101
  a51 := Tryz.isAgg101
  z51 := Tryz.sizeOf101
  v51 := Tryz.zeroValue101
  t105 := Tryz.underlying278
  a105 := Tryz.isAgg278
  z105 := Tryz.sizeOf278
  v105 := Tryz.zeroValue278
  t119 := Tryz.underlying409
  a119 := Tryz.isAgg409
  z119 := Tryz.sizeOf409
  t138 := Tryz.underlying411
  a138 := Tryz.isAgg411
  z138 := Tryz.sizeOf411
  v138 := Tryz.zeroValue411
  t139 := Tryz.underlying412
  a139 := Tryz.isAgg412
  z139 := Tryz.sizeOf412
  v139 := Tryz.zeroValue412
  t146 := Tryz.underlying413
  a146 := Tryz.isAgg413
  z146 := Tryz.sizeOf413
  v146 := Tryz.zeroValue413
  g1 := by kernel_rfl
  g3 := by kernel_rfl
  g4 := by kernel_rfl }
end Go.Proofs

/- A strings.Builder, on abstract values. -/
namespace Go.Proofs.YtbogfmgfafdjiaaGreatDoor
set_option linter.unusedVariables false
set_option linter.unusedSimpArgs false
set_option maxHeartbeats 8000000
open Go.RowKit Go.Shelf
set_option maxRecDepth 4000

def bldP (u : Bool) (b : Nat) : Value := if u then .pointer (some ⟨b, 0, none⟩) else .pointer none
theorem two_of {us : List Value} (h : us.length = 2) : ∃ x y, us = [x, y] := by
  match us, h with
  | [x, y], _ => exact ⟨x, y, rfl⟩
theorem chk_one (b : Nat) (w : World) (h0 : w.cell? ⟨b, 0, none⟩ = some (.pointer none)) (hsh : w.shape? b = some (56, 2)) (hfz : w.frozen? ⟨b, 0, none⟩ = false) :
    Calls Tryz.prog 58 #[.pointer (some ⟨b, 0, none⟩)] w fun e w' => e = .returned (.tuple #[]) ∧ w' = w.setCell ⟨b, 0, none⟩ (.pointer (some ⟨b, 0, none⟩)) := by
  obtain ⟨j, hj, hjs⟩ := Option.map_eq_some_iff.1 Tryz.Builder_Extra_169.sizeBuilder
  have hlies := Tryz.Builder_Extra_169.liesBuilder
  have mixed : Tryz.prog.follows .mixedOrders = true := mixed
  have ta := Tryz.underlying56; have aa := Tryz.isAgg56; have za := Tryz.sizeOf56; have va := Tryz.zeroValue56; have ua := run_underlying Tryz.underlying56
  have tb := Tryz.underlying53; have ab := Tryz.isAgg53; have zb := Tryz.sizeOf53; have vb := Tryz.zeroValue53; have ub := run_underlying Tryz.underlying53
  have tc := Tryz.underlying4; have ac := Tryz.isAgg4; have zc := Tryz.sizeOf4; have vc := Tryz.zeroValue4; have uc := run_underlying Tryz.underlying4
  have td := Tryz.underlying200; have ad := Tryz.isAgg200; have zd := Tryz.sizeOf200; have vd := Tryz.zeroValue200; have ud := run_underlying Tryz.underlying200
  go_enter Tryz.func58, Tryz.ntmps58
  go_wp2
  rw [Lib.run_to_unsafe w ⟨b, 0, none⟩ tb td hj (by rw [hjs]; decide) hsh (Nat.zero_lt_succ 1)]
  simp only [Result.andThen]
  rw [Oper.upon_value]
  go_wp2
  rw [run_callFunc_extern Tryz.func95 (by kernel_rfl) (by kernel_rfl) (by kernel_rfl) (e := Extern.AbiNoEscape.same) (by kernel_rfl)]
  rw [Lib.run_noEscape]
  simp only [Result.andThen]
  rw [Oper.upon_value]
  go_wp2
  rw [Lib.run_from_unsafe w ⟨b, 0, none⟩ td tb hj hsh hlies]
  simp only [Result.andThen]
  rw [Oper.upon_value]
  go_wp2
  go_end0
  exact ⟨rfl, rfl⟩
theorem chk_two (b : Nat) (w : World) (h0 : w.cell? ⟨b, 0, none⟩ = some (.pointer (some ⟨b, 0, none⟩))) :
    Calls Tryz.prog 58 #[.pointer (some ⟨b, 0, none⟩)] w fun e w' => e = .returned (.tuple #[]) ∧ w' = w := by
  obtain ⟨j, hj, _⟩ := Option.map_eq_some_iff.1 Tryz.Builder_Extra_169.sizeBuilder
  have mixed : Tryz.prog.follows .mixedOrders = true := mixed
  have ta := Tryz.underlying56; have aa := Tryz.isAgg56; have za := Tryz.sizeOf56; have va := Tryz.zeroValue56; have ua := run_underlying Tryz.underlying56
  have tb := Tryz.underlying53; have ab := Tryz.isAgg53; have zb := Tryz.sizeOf53; have vb := Tryz.zeroValue53; have ub := run_underlying Tryz.underlying53
  have tc := Tryz.underlying4; have ac := Tryz.isAgg4; have zc := Tryz.sizeOf4; have vc := Tryz.zeroValue4; have uc := run_underlying Tryz.underlying4
  have td := Tryz.underlying200; have ad := Tryz.isAgg200; have zd := Tryz.sizeOf200; have vd := Tryz.zeroValue200; have ud := run_underlying Tryz.underlying200
  go_enter Tryz.func58, Tryz.ntmps58
  go_wp2
  rw [Lib.run_neq_ptr_same w _ tb hj]
  go_wp2
  go_end0
  exact ⟨rfl, rfl⟩
theorem check_p (u : Bool) (b : Nat) (A : AV) : FnC Tryz.prog 58 [.ptr 95 b 0] [(95, .blk b 56 [.v (bldP u b), A])]
    (fun r F' => r = .tup [] ∧ F' = [(95, .blk b 56 [.v (bldP true b), A])]) := by
  intro off w vs hoff hS hl hr
  obtain ⟨v0, rfl⟩ : ∃ v, vs = [v] := by
    match vs, hl with
    | [v], _ => exact ⟨v, rfl⟩
  have h0 := hr 0 _ _ rfl rfl
  cases h0
  obtain ⟨us, hh, hl2, h1, hrep⟩ := hS.rows (95, _) (List.mem_singleton.2 rfl)
  obtain ⟨u0, u1, rfl⟩ := two_of hl2
  have e0 := repV (hrep 0 _ _ rfl rfl)
  subst e0
  have hlt : b < w.heap.size := (Array.getElem?_eq_some_iff.1 hh).1
  have hc : w.cell? ⟨b, 0, none⟩ = some (bldP u b) := by simp [World.cell?, hh]
  cases u with
  | true =>
    refine (chk_two b w hc).mono ?_
    rintro e w' ⟨rfl, rfl⟩
    refine ⟨.tuple #[], .tup [], _, ⟨rfl, rfl⟩, rfl, .tup rfl (by simp), hS, Kept.refl _ _, fun s hs b' hb' => .inl ⟨s, hs, hb'⟩⟩
  | false =>
    refine (chk_one b w hc (by simp [World.shape?, hh]) (by simp [World.frozen?, hh])).mono ?_
    rintro e w' ⟨rfl, rfl⟩
    have hb := (Blk.set (w := w) (k := b) (cs := [bldP false b, u1]) (t := 56) hh 0 (.pointer (some ⟨b, 0, none⟩)))
    have hone : ∀ u ∈ [Value.pointer (some ⟨b, 0, none⟩), u1], u.oneCell' = true := fun u hu => by
      simp only [List.mem_cons, List.not_mem_nil, or_false] at hu
      rcases hu with h | h
      · rw [h]; rfl
      · rw [h]; exact h1 _ (by simp)
    obtain ⟨g1, -⟩ := Sat.turn (L1 := []) (L2 := []) (i := 95) (i' := 95) (r := .blk b 56 [.v (bldP false b), A]) (r' := .blk b 56 [.v (bldP true b), A]) (w' := w.setCell ⟨b, 0, none⟩ (.pointer (some ⟨b, 0, none⟩))) hS hoff (by simp [World.setCell])
      (fun k hk hne => Below.heap_setCell _ _ _ _ (by rintro rfl; exact hne rfl)) (fun k hk => .inl hk) (fun he => ⟨[.pointer (some ⟨b, 0, none⟩), u1], hb, rfl, hone, fun j A' u hA hu => by
        match j with
        | 0 => cases hA; cases hu; exact .v _
        | 1 => cases hA; cases hu; exact (hrep 1 _ _ rfl rfl).ext he
        | j + 2 => simp at hA⟩)
    refine ⟨.tuple #[], .tup [], _, ⟨rfl, rfl⟩, rfl, .tup rfl (by simp), g1, (Kept.refl _ w).set (fun _ => ⟨_, List.mem_singleton.2 rfl, rfl⟩) _, fun s hs b' hb' => .inl ?_⟩
    rw [List.mem_singleton] at hs
    subst hs
    exact ⟨_, List.mem_singleton.2 rfl, hb'⟩
theorem u8_okB : u8I Tryz.prog 5 = true := by kernel_rfl
/-- A builder of one's own, and what was written. -/
def bldR (u : Bool) (b : Nat) (y : Value) (O : ByteArray) : Rows := [(95, .blk b 56 [.v (bldP u b), .ref 96 y]), (96, .own y 5 1 O.size (byteG O))]
theorem write_p (u : Bool) (b : Nat) (y : Value) (O s : ByteArray) (hl : O.size + s.size ≤ 1000000000) : FnC Tryz.prog 23 [.ptr 95 b 0, .v (.string s)] (bldR u b y O)
    (fun r F' => ∃ y', r = .tup [.v (.int .i64 s.size), .v .nilIface] ∧ F' = bldR true b y' (O ++ s)) := by
  unfold bldR
  refine FnC.intro Tryz.func23 rfl Tryz.ntmps23 rfl ?_; intro off w0
  ((repeat refine S.seq ?_); refine wG (k := ?_); try (refine L.nil ?_))
  repeat refine S.seq ?_
  refine S.region ?_
  (refine wL (k := ?_); try (refine L.nil ?_))
  refine wC [(95, .blk b 56 [.v (bldP u b), .ref 96 y])] (check_p u b (.ref 96 y)) (k := ?_)
  rintro r F' ⟨rfl, rfl⟩
  (refine wL (k := ?_); try (refine L.nil ?_))
  repeat refine S.seq ?_
  refine S.region ?_
  (refine wL (k := ?_); try (refine L.nil ?_))
  refine L.appStr (T := tt) tt_ok rfl rfl rfl rfl rfl rfl u8_okB rfl rfl rfl (by exact sd) (by omega) fun y3 => ?_
  refine ownAs 96 (n' := (O ++ s).size) (byteG (O ++ s)) rfl (show O.size + s.size = (O ++ s).size by rw [ByteArray.size_append]) (fun i hi => byteG_app O s hi) ?_
  (refine wL (k := ?_); try (refine L.nil ?_))
  refine wS (k := ?_)
  refine L.nil ?_
  ((repeat refine S.seq ?_); refine wG (k := ?_); try (refine L.nil ?_))
  ((repeat refine S.seq ?_); refine S.ret ?_)
  exact E.ret (T := tt) tt_ok rfl rfl (by exact sd) (F' := bldR true b y3 (O ++ s)) (Imp.refl _) (by unfold bldR; (repeat (first | exact List.nil_sublist _ | refine List.Sublist.cons_cons _ ?_ | refine List.Sublist.cons _ ?_))) ⟨y3, rfl, rfl⟩
theorem str_one (b g cap : Nat) (p : Value) (l : List UInt8) (cur : Array Value) (w : World) (h0 : l ≠ []) (hbk : w.heap[b]? = some (.cells #[p, .slice (some ⟨g, 0, none⟩) l.length cap] 56 (0, 0))) (hg : w.heap[g]? = some (.cells cur 5 (0, 0))) (hnc : l.length ≤ cap) (hcm : cap ≤ maxLen) (hcs : cur.size = cap * 1)
    (hown : w.ownsRow 0 5 1 (.slice (some ⟨g, 0, none⟩) l.length cap) l.length (Lib.byteCells l)) :
    Calls Tryz.prog 25 #[.pointer (some ⟨b, 0, none⟩)] w fun e w' => e = .returned (.string ⟨l.toArray⟩) ∧ w' = w.drew.freeze ⟨g, 0, none⟩ l.length := by
  have L := Tryz.lays169
  have X := Tryz.Builder_Extra_169
  have hl0 : l.length ≠ 0 := by simpa using h0
  have c1 : w.drew.cell? ⟨b, 1, none⟩ = some (.slice (some ⟨g, 0, none⟩) l.length cap) := by
    have : w.drew.heap[b]? = some (.cells #[p, .slice (some ⟨g, 0, none⟩) l.length cap] 56 (0, 0)) := hbk
    rw [Lib.cell_of_heap this]; rfl
  have hSD : (Builtin.unsafeSliceData_ #[Tryz.lays169_ren.t 37] (Tryz.lays169_ren.t 127) #[.slice (some ⟨g, 0, none⟩) l.length cap]).run Tryz.prog w.drew = .ok (.pointer (some ⟨g, 0, none⟩)) w.drew :=
    Lib.run_unsafeSliceData_row _ _ _ _ _ _ (by omega)
  have hUS : (Builtin.unsafeString_ #[Tryz.lays169_ren.t 127, Tryz.lays169_ren.t 3] (Tryz.lays169_ren.t 9) #[.pointer (some ⟨g, 0, none⟩), .int .i64 l.length]).run Tryz.prog w.drew = .ok (.string ⟨l.toArray⟩) (w.drew.freeze ⟨g, 0, none⟩ l.length) := by
    refine Lib.run_unsafeString_row w.drew (Tryz.lays169_ren.t 127) (Tryz.lays169_ren.t 3) (Tryz.lays169_ren.t 9) (Tryz.lays169_ren.t 5) L.t127 X.cellsByte g cur.size (by have hg' : w.drew.heap[g]? = some (.cells cur 5 (0, 0)) := hg; simp [World.shape?, hg']; rfl) l h0 (by omega) (by unfold maxLen at hcm; omega) ?_
    intro j x hx
    exact hown.cells (g := g) rfl j (.int .u8 x.toNat) (by simp [Lib.byteCells, hx])
  have mixed := L.mixed
  have t72 := L.t72; have a72 := L.a72; have z72 := L.z72; have v72 := L.v72; have u72 := run_underlying L.t72
  have t70 := L.t70; have a70 := L.a70; have z70 := L.z70; have v70 := L.v70; have u70 := run_underlying L.t70
  have t37 := L.t37; have a37 := L.a37; have z37 := L.z37; have v37 := L.v37; have u37 := run_underlying L.t37
  have t127 := L.t127; have a127 := L.a127; have z127 := L.z127; have v127 := L.v127; have u127 := run_underlying L.t127
  have t3 := L.t3; have a3 := L.a3; have z3 := L.z3; have v3 := L.v3; have u3 := run_underlying L.t3
  have t9 := L.t9; have a9 := L.a9; have z9 := L.z9; have v9 := L.v9; have u9 := run_underlying L.t9
  have t5 := X.t5; have a5 := X.a5; have z5 := X.z5; have v5 := X.v5; have u5 := run_underlying X.t5
  refine show Calls Tryz.prog (Tryz.lays169_ren.f 169) _ _ _ from ?_
  go_enter L.f169, Body.n169_ntmps Tryz.lays169_ren
  go_wp2
  go_region_o
  all_goals (go_wp2; go_ret; exact ⟨rfl, rfl⟩)
theorem str_nil (b : Nat) (p : Value) (w : World) (hbk : w.heap[b]? = some (.cells #[p, .slice none 0 0] 56 (0, 0))) :
    Calls Tryz.prog 25 #[.pointer (some ⟨b, 0, none⟩)] w fun e w' => e = .returned (.string ⟨#[]⟩) ∧ w' = w.drew := by
  have L := Tryz.lays169
  have X := Tryz.Builder_Extra_169
  have hUS := Any.unsafeString_none L X
  have c1 : w.drew.cell? ⟨b, 1, none⟩ = some (.slice none 0 0) := by
    have : w.drew.heap[b]? = some (.cells #[p, .slice none 0 0] 56 (0, 0)) := hbk
    rw [Lib.cell_of_heap this]; rfl
  have hSD : (Builtin.unsafeSliceData_ #[Tryz.lays169_ren.t 37] (Tryz.lays169_ren.t 127) #[.slice none 0 0]).run Tryz.prog w.drew = .ok (.pointer none) w.drew := rfl
  have mixed := L.mixed
  have t72 := L.t72; have a72 := L.a72; have z72 := L.z72; have v72 := L.v72; have u72 := run_underlying L.t72
  have t70 := L.t70; have a70 := L.a70; have z70 := L.z70; have v70 := L.v70; have u70 := run_underlying L.t70
  have t37 := L.t37; have a37 := L.a37; have z37 := L.z37; have v37 := L.v37; have u37 := run_underlying L.t37
  have t127 := L.t127; have a127 := L.a127; have z127 := L.z127; have v127 := L.v127; have u127 := run_underlying L.t127
  have t3 := L.t3; have a3 := L.a3; have z3 := L.z3; have v3 := L.v3; have u3 := run_underlying L.t3
  have t9 := L.t9; have a9 := L.a9; have z9 := L.z9; have v9 := L.v9; have u9 := run_underlying L.t9
  have t5 := X.t5; have a5 := X.a5; have z5 := X.z5; have v5 := X.v5; have u5 := run_underlying X.t5
  refine show Calls Tryz.prog (Tryz.lays169_ren.f 169) _ _ _ from ?_
  go_enter L.f169, Body.n169_ntmps Tryz.lays169_ren
  go_wp2
  go_region_o
  all_goals (go_wp2; go_ret; exact ⟨rfl, rfl⟩)
theorem one_of_len {vs : List Value} (h : vs.length = 1) : ∃ v, vs = [v] := by
  match vs, h with
  | [v], _ => exact ⟨v, rfl⟩
theorem kept_freeze {S : Nat → Prop} {w : World} {g n : Nat} (h : S g) : Kept S w (w.drew.freeze ⟨g, 0, none⟩ n) := by
  unfold World.freeze
  split
  · exact ⟨rfl, rfl, rfl, Nat.le_refl _, fun _ _ _ => rfl⟩
  · exact ⟨rfl, rfl, rfl, (by show w.heap.size ≤ (w.heap.modify _ _).size; simp), fun k hk hn => by
      simp only [Array.getElem?_modify]
      rw [if_neg (by rintro rfl; exact hn h)]
      rfl⟩
theorem string0_p (b : Nat) : FnC Tryz.prog 25 [.ptr 95 b 0] (bldR false b (.slice none 0 0) ByteArray.empty) (fun r F' => r = .v (.string ⟨#[]⟩) ∧ F' = []) := by
  intro off w vs hoff hS hl hr
  obtain ⟨v0, rfl⟩ := one_of_len hl
  have h0 := hr 0 _ _ rfl rfl
  cases h0
  have hS' : Sat off [(95, .blk b 56 [.v (bldP false b), .ref 96 (.slice none 0 0)]), (96, .own (.slice none 0 0) 5 1 ByteArray.empty.size (byteG ByteArray.empty))] w := hS
  obtain ⟨us, hh, hl2, h1, hrep⟩ := hS'.rows _ List.mem_cons_self
  obtain ⟨u0, u1, rfl⟩ := two_of hl2
  have e1 : u1 = .slice none 0 0 := by
    have := hrep 1 _ _ rfl rfl
    cases this
    rfl
  subst e1
  refine (str_nil b u0 w hh).mono ?_
  rintro e w' ⟨rfl, rfl⟩
  exact ⟨_, _, [], ⟨rfl, rfl⟩, rfl, .v _, Sat.nil _ _, ⟨rfl, rfl, rfl, Nat.le_refl _, fun _ _ _ => rfl⟩, fun s hs => by cases hs⟩
theorem string1_p (u : Bool) (b : Nat) (y : Value) (O : ByteArray) (h : 0 < O.size) : FnC Tryz.prog 25 [.ptr 95 b 0] (bldR u b y O) (fun r F' => r = .v (.string O) ∧ F' = []) := by
  intro off w vs hoff hS hl hr
  obtain ⟨v0, rfl⟩ := one_of_len hl
  have h0 := hr 0 _ _ rfl rfl
  cases h0
  have hS' : Sat off [(95, .blk b 56 [.v (bldP u b), .ref 96 y]), (96, .own y 5 1 O.size (byteG O))] w := hS
  obtain ⟨us, hh, hl2, h1, hrep⟩ := hS'.rows _ List.mem_cons_self
  obtain ⟨u0, u1, rfl⟩ := two_of hl2
  have e1 : u1 = y := by
    have := hrep 1 _ _ rfl rfl
    cases this
    rfl
  subst e1
  obtain ⟨zs, ho, hgl, hz1, hzr⟩ := hS'.rows _ (List.mem_cons_of_mem _ List.mem_cons_self)
  have hzl : zs.length = O.size := by have := ho.1; omega
  have hsz : O.data.toList.length = O.size := (Lib.size_eq O).symm
  have hz : zs = Lib.byteCells O.data.toList := by
    refine List.ext_getElem (by rw [Lib.byteCells_length]; omega) fun i hi hi2 => ?_
    obtain ⟨x, hx, hrx⟩ := hzr i (by omega) 0 (.v (.int .u8 ((O.data.getD i 0).toNat : Int))) rfl
    rw [Nat.mul_one, Nat.add_zero, List.getElem?_eq_getElem hi] at hx
    cases hx
    rw [repV hrx]
    simp only [Lib.byteCells, List.getElem_map]
    have hi3 : i < O.data.size := by simpa using (show i < O.data.toList.length by omega)
    rw [Array.getD_eq_getD_getElem?, Array.getElem?_eq_getElem hi3, Option.getD_some, Array.getElem_toList]
  subst hz
  rcases ho.2 with ⟨-, hn⟩ | ⟨g, cap, cur, rfl, hb0, hg, hnc, hcm, hcs, htk⟩
  · omega
  have ho2 : w.ownsRow 0 5 1 (.slice (some ⟨g, 0, none⟩) O.data.toList.length cap) O.data.toList.length (Lib.byteCells O.data.toList) := by rw [hsz]; exact ho
  refine (str_one b g cap u0 O.data.toList cur w (by intro e; rw [e] at hsz; simp at hsz; omega) (by rw [hsz]; exact hh) hg (by omega) hcm hcs ho2).mono ?_
  rintro e w' ⟨rfl, rfl⟩
  refine ⟨_, _, [], ⟨rfl, rfl⟩, rfl, ?_, Sat.nil _ _, kept_freeze ⟨_, List.mem_cons_of_mem _ List.mem_cons_self, rfl⟩, fun s hs => by cases hs⟩
  rw [Array.toArray_toList]
  exact .v _
end Go.Proofs.YtbogfmgfafdjiaaGreatDoor

/- Messages, marks, held ones, shards, as abstract values. -/
namespace Go.Proofs.YtbogfmgfafdjiaaGreatDoor
set_option linter.unusedVariables false
set_option linter.unusedSimpArgs false
set_option maxHeartbeats 8000000
open Go.RowKit

structure Msg where
  pub : Int
  seq : Int
  key : ByteArray
  body : ByteArray
  again : Bool
  deriving DecidableEq
instance : Inhabited Msg := ⟨⟨0, 0, ByteArray.empty, ByteArray.empty, false⟩⟩
def Msg.cells (m : Msg) : List AV := [.v (.int .i64 m.pub), .v (.int .i64 m.seq), .v (.string m.key), .v (.string m.body), .v (.bool m.again)]
def Msg.av (m : Msg) : AV := .agg m.cells

structure Mark where
  pub : Int
  key : ByteArray
  seq : Int
  deriving DecidableEq
instance : Inhabited Mark := ⟨⟨0, ByteArray.empty, 0⟩⟩
def Mark.cells (m : Mark) : List AV := [.v (.int .i64 m.pub), .v (.string m.key), .v (.int .i64 m.seq)]
def Mark.av (m : Mark) : AV := .agg m.cells

structure Held where
  tag : Int
  m : Msg
  deriving DecidableEq
instance : Inhabited Held := ⟨⟨0, default⟩⟩
def Held.cells (h : Held) : List AV := [.v (.int .i64 h.tag), .v (.int .i64 h.m.pub), .v (.int .i64 h.m.seq), .v (.string h.m.key), .v (.string h.m.body), .v (.bool h.m.again)]
def Held.av (h : Held) : AV := .agg h.cells

/-- The elements of a list, by place. -/
def msgs (l : List Msg) : AV := .lst 5 l.length (gOf Msg.cells l)
def marksA (l : List Mark) : AV := .lst 3 l.length (gOf Mark.cells l)
def helds (l : List Held) : AV := .lst 6 l.length (gOf Held.cells l)

structure Shard where
  frozen : Bool
  next : Int
  ready : List Msg
  held : List Held
  marks : List Mark
  deriving DecidableEq
def Shard.cells (s : Shard) : List AV := [.v (.bool s.frozen), .v (.int .i64 s.next), msgs s.ready, helds s.held, marksA s.marks]
def Shard.av (s : Shard) : AV := .agg s.cells

theorem gOf_eq {α : Type} [Inhabited α] {f : α → List AV} {l : List α} {i : Nat} {x : α} (h : l[i]? = some x) : gOf f l i = f x := by simp [gOf, List.getD_eq_getElem?_getD, h]

structure Msg.ok (m : Msg) : Prop where
  pub : fitI m.pub
  seq : fitI m.seq
  key : fitS m.key
  body : fitS m.body
structure Mark.ok (m : Mark) : Prop where
  pub : fitI m.pub
  key : fitS m.key
  seq : fitI m.seq
structure Held.ok (h : Held) : Prop where
  tag : fitI h.tag
  m : h.m.ok
structure Shard.ok (s : Shard) : Prop where
  next : fitI s.next
  ready : ∀ m ∈ s.ready, m.ok
  held : ∀ m ∈ s.held, m.ok
  marks : ∀ m ∈ s.marks, m.ok

/-- 12.1: a message that may be. -/
def mayMsg (m : Msg) : Bool := decide (m.pub ≥ 0) && decide (m.pub < 4) && decide (m.seq ≥ 1) && decide (m.seq ≤ 1073741824) && decide ((m.key.size : Int) ≥ 1) && decide ((m.key.size : Int) ≤ 20) && decide ((m.body.size : Int) ≤ 200)

theorem eqMsg_law (a b : Msg) : (a = b) ↔ a.pub = b.pub ∧ a.seq = b.seq ∧ a.key = b.key ∧ a.body = b.body ∧ a.again = b.again := by
  cases a; cases b; simp

end Go.Proofs.YtbogfmgfafdjiaaGreatDoor

/- slices.IndexFunc, on abstract values. -/
namespace Go.Proofs.YtbogfmgfafdjiaaGreatDoor
set_option linter.unusedVariables false
set_option linter.unusedSimpArgs false
set_option maxHeartbeats 8000000
open Go.RowKit
set_option maxRecDepth 4000

theorem IdxMark {n f : Nat} {g : Nat → List AV} {caps : List AV} (p : Nat → Bool) (hf : callable Tryz.prog f = true) (hl : ∀ i, i < n → (g i).length = 3) (hp : ∀ i, i < n → PFn Tryz.prog f (.agg (g i) :: caps) (.v (.bool (p i)))) :
    PFn Tryz.prog 320 [.lst 3 n g, .fn (.func f) caps] (.v (.int .i64 (pidx p n))) := by
  refine FnC.intro Tryz.func320 rfl Tryz.ntmps320 rfl ?_; intro off w0
  refine lenAt (sz := 3) (n := n) (g := g) 0 rfl fun hn => ?_
  ((repeat refine S.seq ?_); refine wG (k := ?_); try (refine L.nil ?_))
  ((repeat refine S.seq ?_); refine wG (k := ?_); try (refine L.nil ?_))
  refine S.block (S.loop (ι := { k : Nat // k ≤ n ∧ ∀ j, j < k → p j = false }) (fun k => [(8, .v (.int .i64 k.1)), (7, .v (.int .i64 n)), (1, .fn (.func f) caps), (0, .lst 3 n g)]) (fun _ => []) (fun k => n - k.1) ?_ ?_)
  · exact fun a w h => ⟨⟨0, Nat.zero_le _, fun j hj => absurd hj (by omega)⟩, h.weak (by (repeat' (first | exact True.intro | exact Imp.refl _ | refine ⟨?_, ?_⟩))) (List.Sublist.refl _)⟩
  rintro ⟨k, hk, hno⟩
  dsimp only
  ((repeat refine S.seq ?_); refine wG (k := ?_); try (refine L.nil ?_))
  refine S.seq (S.cond rfl (fun h => S.skip ?_) (fun h => S.exit ?_))
  · have h := of_dec h
    have hlk := hl k (by omega)
    refine S.seq (S.block ?_)
    ((repeat refine S.seq ?_); refine wG (k := ?_); try (refine L.nil ?_))
    ((repeat refine S.seq ?_); refine wG (k := ?_); try (refine L.nil ?_))
    refine L.callP rfl rfl rfl rfl rfl rfl rfl ⟨trivial, by exact sd⟩ hf (Imps.refl (.agg (g k) :: caps)) (hp k (by omega)) (L.nil ?_)
    refine S.cond rfl (fun hb => ?_) (fun hb => S.skip ?_)
    · ((repeat refine S.seq ?_); refine wG (k := ?_); try (refine L.nil ?_))
      refine S.ret (E.retP (T := tt) tt_ok rfl rfl (by exact sd) (Imp.of_eq ?_))
      rw [pidx_some (by omega) hb hno]
      rfl
    · ((repeat refine S.seq ?_); refine wG (k := ?_); try (refine L.nil ?_))
      exact fun a w hR => ⟨⟨k + 1, by omega, fun j hj => by rcases Nat.lt_or_ge j k with h | h; exact hno j h; (have : j = k := by omega); subst this; exact hb⟩, by simp only; omega, hR.weak (by (repeat' (first | exact True.intro | exact Imp.refl _ | refine ⟨?_, ?_⟩))) (List.Sublist.refl _)⟩
  · have h := of_dec' h
    ((repeat refine S.seq ?_); refine wG (k := ?_); try (refine L.nil ?_))
    refine S.ret (E.retP (T := tt) tt_ok rfl rfl (by exact sd) (Imp.of_eq ?_))
    rw [pidx_none (fun j hj => hno j (by omega))]
    rfl

end Go.Proofs.YtbogfmgfafdjiaaGreatDoor

/- slices.Clone, on abstract values. -/
namespace Go.Proofs.YtbogfmgfafdjiaaGreatDoor
set_option linter.unusedVariables false
set_option linter.unusedSimpArgs false
set_option maxHeartbeats 8000000
open Go.RowKit
set_option maxRecDepth 4000

theorem ClnMsg {n : Nat} {g : Nat → List AV} (hb : n * 56 ≤ 140737488355328) (id : Nat) :
    FnC Tryz.prog 41 [.lst 5 n g] [] (fun r F' => ∃ x, r = .ref id x ∧ F' = [(id, .own x 70 5 n g)]) := by
  refine FnC.intro Tryz.func41 rfl Tryz.ntmps41 rfl ?_; intro off w0
  ((repeat refine S.seq ?_); refine wG (k := ?_); try (refine L.nil ?_))
  repeat refine S.seq ?_
  refine S.region (L.run (T := tt) 1 tt_ok rfl rfl (by exact sd) ?_)
  refine L.isNil (T := tt) tt_ok rfl rfl rfl rfl rfl rfl trivial fun b h0 => L.nil ?_
  ((repeat refine S.seq ?_); refine S.cond rfl (fun h => ?_) (fun h => ?_) <;> (try first | refine S.skip ?_ | refine S.exit ?_))
  · ((repeat refine S.seq ?_); refine wG (k := ?_); try (refine L.nil ?_))
    have hn := h0 h
    subst hn
    exact S.ret (nilRow id 70 5 g (E.ret (T := tt) tt_ok rfl rfl (by exact sd) (Imp.vref rfl) (List.Sublist.refl _) ⟨_, rfl, rfl⟩))
  · repeat refine S.seq ?_
    refine S.region (L.buildSlice (T := tt) 0 tt_ok rfl rfl rfl rfl rfl rfl (by decide) (by decide) rfl rfl (by exact sd) fun x => ?_)
    refine L.run (T := tt) 1 tt_ok rfl rfl (by exact sd) ?_
    refine L.append (T := tt) tt_ok rfl rfl rfl rfl rfl rfl rfl rfl rfl rfl (by exact sd) ⟨rfl, by decide, by decide⟩ (by simpa using hb) fun x1 => ?_
    (refine wL (k := ?_); try (refine L.nil ?_))
    refine S.ret (rowsEq [(0, .own x1 70 5 n g)] (by simp [setF, joinG_zero]) (renum [(id, .own x1 70 5 n g)] 2 (.ref id x1) rfl rfl Imp.ref ?_))
    exact E.ret (T := tt) tt_ok rfl rfl (by exact sd) (Imp.refl _) (List.Sublist.refl _) ⟨_, rfl, rfl⟩

end Go.Proofs.YtbogfmgfafdjiaaGreatDoor

/- slices.Clone, on abstract values. -/
namespace Go.Proofs.YtbogfmgfafdjiaaGreatDoor
set_option linter.unusedVariables false
set_option linter.unusedSimpArgs false
set_option maxHeartbeats 8000000
open Go.RowKit
set_option maxRecDepth 4000

theorem ClnHeld {n : Nat} {g : Nat → List AV} (hb : n * 64 ≤ 140737488355328) (id : Nat) :
    FnC Tryz.prog 42 [.lst 6 n g] [] (fun r F' => ∃ x, r = .ref id x ∧ F' = [(id, .own x 120 6 n g)]) := by
  refine FnC.intro Tryz.func42 rfl Tryz.ntmps42 rfl ?_; intro off w0
  ((repeat refine S.seq ?_); refine wG (k := ?_); try (refine L.nil ?_))
  repeat refine S.seq ?_
  refine S.region (L.run (T := tt) 1 tt_ok rfl rfl (by exact sd) ?_)
  refine L.isNil (T := tt) tt_ok rfl rfl rfl rfl rfl rfl trivial fun b h0 => L.nil ?_
  ((repeat refine S.seq ?_); refine S.cond rfl (fun h => ?_) (fun h => ?_) <;> (try first | refine S.skip ?_ | refine S.exit ?_))
  · ((repeat refine S.seq ?_); refine wG (k := ?_); try (refine L.nil ?_))
    have hn := h0 h
    subst hn
    exact S.ret (nilRow id 120 6 g (E.ret (T := tt) tt_ok rfl rfl (by exact sd) (Imp.vref rfl) (List.Sublist.refl _) ⟨_, rfl, rfl⟩))
  · repeat refine S.seq ?_
    refine S.region (L.buildSlice (T := tt) 0 tt_ok rfl rfl rfl rfl rfl rfl (by decide) (by decide) rfl rfl (by exact sd) fun x => ?_)
    refine L.run (T := tt) 1 tt_ok rfl rfl (by exact sd) ?_
    refine L.append (T := tt) tt_ok rfl rfl rfl rfl rfl rfl rfl rfl rfl rfl (by exact sd) ⟨rfl, by decide, by decide⟩ (by simpa using hb) fun x1 => ?_
    (refine wL (k := ?_); try (refine L.nil ?_))
    refine S.ret (rowsEq [(0, .own x1 120 6 n g)] (by simp [setF, joinG_zero]) (renum [(id, .own x1 120 6 n g)] 2 (.ref id x1) rfl rfl Imp.ref ?_))
    exact E.ret (T := tt) tt_ok rfl rfl (by exact sd) (Imp.refl _) (List.Sublist.refl _) ⟨_, rfl, rfl⟩

end Go.Proofs.YtbogfmgfafdjiaaGreatDoor

/- slices.Clone, on abstract values. -/
namespace Go.Proofs.YtbogfmgfafdjiaaGreatDoor
set_option linter.unusedVariables false
set_option linter.unusedSimpArgs false
set_option maxHeartbeats 8000000
open Go.RowKit
set_option maxRecDepth 4000

theorem ClnMark {n : Nat} {g : Nat → List AV} (hb : n * 32 ≤ 140737488355328) (id : Nat) :
    FnC Tryz.prog 43 [.lst 3 n g] [] (fun r F' => ∃ x, r = .ref id x ∧ F' = [(id, .own x 123 3 n g)]) := by
  refine FnC.intro Tryz.func43 rfl Tryz.ntmps43 rfl ?_; intro off w0
  ((repeat refine S.seq ?_); refine wG (k := ?_); try (refine L.nil ?_))
  repeat refine S.seq ?_
  refine S.region (L.run (T := tt) 1 tt_ok rfl rfl (by exact sd) ?_)
  refine L.isNil (T := tt) tt_ok rfl rfl rfl rfl rfl rfl trivial fun b h0 => L.nil ?_
  ((repeat refine S.seq ?_); refine S.cond rfl (fun h => ?_) (fun h => ?_) <;> (try first | refine S.skip ?_ | refine S.exit ?_))
  · ((repeat refine S.seq ?_); refine wG (k := ?_); try (refine L.nil ?_))
    have hn := h0 h
    subst hn
    exact S.ret (nilRow id 123 3 g (E.ret (T := tt) tt_ok rfl rfl (by exact sd) (Imp.vref rfl) (List.Sublist.refl _) ⟨_, rfl, rfl⟩))
  · repeat refine S.seq ?_
    refine S.region (L.buildSlice (T := tt) 0 tt_ok rfl rfl rfl rfl rfl rfl (by decide) (by decide) rfl rfl (by exact sd) fun x => ?_)
    refine L.run (T := tt) 1 tt_ok rfl rfl (by exact sd) ?_
    refine L.append (T := tt) tt_ok rfl rfl rfl rfl rfl rfl rfl rfl rfl rfl (by exact sd) ⟨rfl, by decide, by decide⟩ (by simpa using hb) fun x1 => ?_
    (refine wL (k := ?_); try (refine L.nil ?_))
    refine S.ret (rowsEq [(0, .own x1 123 3 n g)] (by simp [setF, joinG_zero]) (renum [(id, .own x1 123 3 n g)] 2 (.ref id x1) rfl rfl Imp.ref ?_))
    exact E.ret (T := tt) tt_ok rfl rfl (by exact sd) (Imp.refl _) (List.Sublist.refl _) ⟨_, rfl, rfl⟩

end Go.Proofs.YtbogfmgfafdjiaaGreatDoor

/- The shard's small functions. -/
namespace Go.Proofs.YtbogfmgfafdjiaaGreatDoor
set_option linter.unusedVariables false
set_option linter.unusedSimpArgs false
set_option maxHeartbeats 8000000
open Go.RowKit
set_option maxRecDepth 4000

theorem mayMsg_p (m : Msg) : PFn Tryz.prog 109 [m.av] (.v (.bool (mayMsg m))) := by
  refine FnC.intro Tryz.func109 rfl Tryz.ntmps109 rfl ?_; intro off w0
  repeat refine S.seq ?_
  refine S.region (L.box 0 rfl rfl rfl rfl rfl trivial rfl fun b => ?_)
  (refine wL (k := ?_); try (refine L.nil ?_))
  ((repeat refine S.seq ?_); refine wG (k := ?_); try (refine L.nil ?_))
  ((repeat refine S.seq ?_); refine S.ret ?_)
  exact E.retP (T := tt) tt_ok rfl rfl (by exact sd) (Imp.refl _)

theorem of_p (m : Msg) : PFn Tryz.prog 319 [m.av] (.agg [.v (.int .i64 m.pub), .v (.string m.key)]) := by
  refine FnC.intro Tryz.func319 rfl Tryz.ntmps319 rfl ?_; intro off w0
  repeat refine S.seq ?_
  refine S.region (L.box 0 rfl rfl rfl rfl rfl trivial rfl fun b => ?_)
  refine wA 1 (k := fun b2 => ?_)
  refine L.nil ?_
  ((repeat refine S.seq ?_); refine wG (k := ?_); try (refine L.nil ?_))
  refine wS (k := ?_)
  refine L.nil ?_
  ((repeat refine S.seq ?_); refine S.ret ?_)
  exact E.retP (T := tt) tt_ok rfl rfl (by simp [splice]) (Imp.refl _)

theorem new_p : PFn Tryz.prog 221 [] (Shard.av ⟨false, 1, [], [], []⟩) := by
  refine FnC.intro Tryz.func221 rfl Tryz.ntmps221 rfl ?_; intro off w0
  repeat refine S.seq ?_
  refine S.region ?_
  refine wA 1 (k := fun b => ?_)
  refine L.nil ?_
  ((repeat refine S.seq ?_); refine wG (k := ?_); try (refine L.nil ?_))
  refine wS (k := ?_)
  refine L.nil ?_
  ((repeat refine S.seq ?_); refine S.ret ?_)
  refine E.retP (T := tt) tt_ok rfl rfl (by exact sd) (Imp.agg ⟨Imp.refl _, Imp.refl _, Imp.nil _ _, Imp.nil _ _, Imp.nil _ _, trivial⟩)

/-- The place of a mark. -/
def markAt (l : List Mark) (pub : Int) (key : ByteArray) : Int := pidx (fun i => let m := l.getD i default; m.pub == pub && m.key == key) l.length

/-- The last number that was taken. -/
def lastOf (l : List Mark) (pub : Int) (key : ByteArray) : Int := if markAt l pub key < 0 then 0 else (l.getD (markAt l pub key).toNat default).seq

theorem mark1_p (m : Mark) (pub : Int) (key : ByteArray) : PFn Tryz.prog 321 [m.av, .pel 1 [.v (.int .i64 pub)], .pel 1 [.v (.string key)]] (.v (.bool (m.pub == pub && m.key == key))) := by
  refine FnC.intro Tryz.func321 rfl Tryz.ntmps321 rfl ?_; intro off w0
  repeat refine S.seq ?_
  refine S.region (L.box 0 rfl rfl rfl rfl rfl trivial rfl fun b => ?_)
  (refine wL (k := ?_); try (refine L.nil ?_))
  ((repeat refine S.seq ?_); refine wG (k := ?_); try (refine L.nil ?_))
  ((repeat refine S.seq ?_); refine S.ret ?_)
  exact E.retP (T := tt) tt_ok rfl rfl (by exact sd) (Imp.refl _)

theorem mark_p (s : Shard) (pub : Int) (key : ByteArray) : PFn Tryz.prog 257 [s.av, .v (.int .i64 pub), .v (.string key)] (.v (.int .i64 (markAt s.marks pub key))) := by
  refine FnC.intro Tryz.func257 rfl Tryz.ntmps257 rfl ?_; intro off w0
  repeat refine S.seq ?_
  refine S.region (L.box 0 rfl rfl rfl rfl rfl trivial rfl fun b => ?_)
  refine wB 1 (k := fun b1 => ?_)
  refine wB 2 (k := fun b2 => ?_)
  (refine wL (k := ?_); try (refine L.nil ?_))
  repeat refine S.seq ?_
  refine freezeBlk 4 1 rfl rfl rfl (freezeBlk 5 2 rfl rfl rfl ?_)
  ((repeat refine S.seq ?_); refine wG (k := ?_); try (refine L.nil ?_))
  refine L.callP rfl rfl rfl rfl rfl rfl rfl ⟨trivial, by exact sd⟩ rfl (Imps.refl [marksA s.marks, .fn (.func 321) [.pel 1 [.v (.int .i64 pub)], .pel 1 [.v (.string key)]]])
    (IdxMark (fun i => let m := s.marks.getD i default; m.pub == pub && m.key == key) rfl (fun i hi => rfl) (fun i hi => mark1_p _ pub key)) ?_
  (refine wL (k := ?_); try (refine L.nil ?_))
  ((repeat refine S.seq ?_); refine S.ret ?_)
  exact E.retP (T := tt) tt_ok rfl rfl (by exact sd) (Imp.refl _)

theorem markAt_lt (l : List Mark) (pub : Int) (key : ByteArray) : -1 ≤ markAt l pub key ∧ markAt l pub key < l.length := by
  unfold markAt
  rcases pidx_cases (fun i => let m := l.getD i default; m.pub == pub && m.key == key) l.length with ⟨h, -⟩ | ⟨k, hk, -, -, h⟩ <;> rw [h] <;> omega

theorem last_p (s : Shard) (pub : Int) (key : ByteArray) : PFn Tryz.prog 258 [s.av, .v (.int .i64 pub), .v (.string key)] (.v (.int .i64 (lastOf s.marks pub key))) := by
  have hm := markAt_lt s.marks pub key
  refine FnC.intro Tryz.func258 rfl Tryz.ntmps258 rfl ?_; intro off w0
  repeat refine S.seq ?_
  refine S.region ?_
  refine wB 1 (k := fun b => ?_)
  (refine wL (k := ?_); try (refine L.nil ?_))
  ((repeat refine S.seq ?_); refine wG (k := ?_); try (refine L.nil ?_))
  refine L.callP rfl rfl rfl rfl rfl rfl rfl ⟨trivial, by exact sd⟩ rfl (by exact Imps.refl _) (mark_p s pub key) ?_
  (refine wL (k := ?_); try (refine L.nil ?_))
  ((repeat refine S.seq ?_); refine wG (k := ?_); try (refine L.nil ?_))
  ((repeat refine S.seq ?_); refine S.cond rfl (fun h => ?_) (fun h => ?_) <;> (try first | refine S.skip ?_ | refine S.exit ?_))
  · have h := of_dec h
    ((repeat refine S.seq ?_); refine wG (k := ?_); try (refine L.nil ?_))
    ((repeat refine S.seq ?_); refine S.ret ?_)
    refine E.retP (T := tt) tt_ok rfl rfl (by exact sd) (Imp.of_eq ?_)
    unfold lastOf
    rw [if_pos h]
    rfl
  · have h := of_dec' h
    ((repeat refine S.seq ?_); refine wG (k := ?_); try (refine L.nil ?_))
    ((repeat refine S.seq ?_); refine S.ret ?_)
    refine E.retP (T := tt) tt_ok rfl rfl (by exact sd) (Imp.of_eq ?_)
    unfold lastOf
    rw [if_neg h]
    rfl

/-- A shard that is its own: three rows. -/
theorem own_p (s : Shard) (h1 : s.ready.length ≤ 1000) (h2 : s.held.length ≤ 1000) (h3 : s.marks.length ≤ 1000) : FnC Tryz.prog 259 [s.av] [] (fun r F' => ∃ x y z, r = .agg [.v (.bool s.frozen), .v (.int .i64 s.next), .ref 91 x, .ref 92 y, .ref 93 z] ∧
    F' = [(93, .own z 123 3 s.marks.length (gOf Mark.cells s.marks)), (92, .own y 120 6 s.held.length (gOf Held.cells s.held)), (91, .own x 70 5 s.ready.length (gOf Msg.cells s.ready))]) := by
  refine FnC.intro Tryz.func259 rfl Tryz.ntmps259 rfl ?_; intro off w0
  repeat refine S.seq ?_
  refine S.region ?_
  refine wB 1 (k := fun b => ?_)
  refine wA 2 (k := fun b2 => ?_)
  refine L.nil ?_
  repeat refine S.seq ?_
  refine S.draw [(1, [1]), (4, [1]), (7, [1])] mixed ?_
  refine wT [0, 1, 3, 4, 6, 7] (k := ?_)
  refine H.call 2 [] _ rfl (by kernel_rfl) (by kernel_rfl) rfl rfl rfl rfl rfl rfl rfl ⟨trivial, by exact sd⟩ rfl (by exact Imps.refl [msgs s.ready]) (List.Perm.refl _) (ClnMsg (by omega) 91) rfl rfl ?_
  rintro r F' ⟨x, rfl, rfl⟩
  refine wT [9] (k := ?_)
  refine H.call 5 [] _ rfl (by kernel_rfl) (by kernel_rfl) rfl rfl rfl rfl rfl rfl rfl ⟨trivial, by exact sd⟩ rfl (by exact Imps.refl [helds s.held]) (List.Perm.refl _) (ClnHeld (by omega) 92) rfl rfl ?_
  rintro r F' ⟨y, rfl, rfl⟩
  refine H.call 8 [] _ rfl (by kernel_rfl) (by kernel_rfl) rfl rfl rfl rfl rfl rfl rfl ⟨trivial, by exact sd⟩ rfl (by exact Imps.refl [marksA s.marks]) (List.Perm.refl _) (ClnMark (by omega) 93) rfl rfl ?_
  rintro r F' ⟨z, rfl, rfl⟩
  refine wHS 10 (k := ?_)
  refine wT [11] (k := ?_)
  refine wHS 12 (k := ?_)
  refine wT [13] (k := ?_)
  refine wHS 14 (k := ?_)
  refine wD (k := ?_)
  ((repeat refine S.seq ?_); refine wG (k := ?_); try (refine L.nil ?_))
  refine wS (k := ?_)
  refine L.nil ?_
  ((repeat refine S.seq ?_); refine S.ret ?_)
  exact E.ret (T := tt) tt_ok rfl rfl (by exact sd) (Imp.refl _) (by (repeat (first | exact List.nil_sublist _ | refine List.Sublist.cons_cons _ ?_ | refine List.Sublist.cons _ ?_))) ⟨x, y, z, rfl, rfl⟩

/-- 12.2: messages that may be put at once, as far as the first k. -/
def rowE (l : List Msg) (i : Nat) : Bool :=
  mayMsg (l.getD i default) && !(l.getD i default).again && ((l.getD i default).pub == (l.getD 0 default).pub && (l.getD i default).key == (l.getD 0 default).key) && (i == 0 || (l.getD i default).seq == (l.getD (i - 1) default).seq + 1)
def rowTo (l : List Msg) (k : Nat) : Bool := (List.range k).all (rowE l)
theorem rowTo_succ (l : List Msg) (k : Nat) : rowTo l (k + 1) = (rowTo l k && rowE l k) := by simp [rowTo, List.range_succ]
theorem rowE_not (l : List Msg) (k : Nat) : (!mayMsg (l.getD k default) || (l.getD k default).again || !((l.getD k default).pub == (l.getD 0 default).pub && ((l.getD k default).key == (l.getD 0 default).key && true)) ||
    decide ((k : Int) > 0) && (l.getD k default).seq != (l.getD ((k : Int) - 1).toNat default).seq + 1) = !rowE l k := by
  have e1 : decide ((k : Int) > 0) = !(k == 0) := by cases k <;> simp
  rw [e1, show ((k : Int) - 1).toNat = k - 1 by omega]
  unfold rowE bne
  generalize mayMsg (l.getD k default) = a
  generalize (l.getD k default).again = b
  generalize ((l.getD k default).pub == (l.getD 0 default).pub) = c
  generalize ((l.getD k default).key == (l.getD 0 default).key) = d
  generalize ((l.getD k default).seq == (l.getD (k - 1) default).seq + 1) = f
  generalize (k == 0) = e
  revert a b c d e f
  decide
theorem rowTo_all {l : List Msg} {n k : Nat} (h : rowTo l n = true) (hk : k < n) : rowE l k = true := List.all_eq_true.1 h k (by simpa using hk)
def mayRow (l : List Msg) : Bool := !(decide ((l.length : Int) < 1) || decide ((l.length : Int) > 8)) && rowTo l l.length

theorem mayMsg_le {m : Msg} (h : mayMsg m = true) : 1 ≤ m.seq ∧ m.seq ≤ 1073741824 := by
  simp only [mayMsg, Bool.and_eq_true, decide_eq_true_eq] at h
  omega
theorem rowTo_at {l : List Msg} {k : Nat} (h : rowTo l k = true) {i : Nat} (hi : i < k) : mayMsg (l.getD i default) = true ∧ (l.getD i default).again = false ∧ ((l.getD i default).pub == (l.getD 0 default).pub && (l.getD i default).key == (l.getD 0 default).key) = true ∧ (i == 0 || (l.getD i default).seq == (l.getD (i - 1) default).seq + 1) = true := by
  have h1 := rowTo_all h hi
  unfold rowE at h1
  simp only [Bool.and_eq_true, Bool.not_eq_true'] at h1
  exact ⟨h1.1.1.1, h1.1.1.2, by simpa using h1.1.2, h1.2⟩

theorem row_p (l : List Msg) : PFn Tryz.prog 256 [msgs l] (.v (.bool (mayRow l))) := by
  refine FnC.intro Tryz.func256 rfl Tryz.ntmps256 rfl ?_; intro off w0
  refine lenAt (sz := 5) (n := l.length) (g := gOf Msg.cells l) 0 rfl fun hn => ?_
  ((repeat refine S.seq ?_); refine wG (k := ?_); try (refine L.nil ?_))
  ((repeat refine S.seq ?_); refine wG (k := ?_); try (refine L.nil ?_))
  ((repeat refine S.seq ?_); refine S.cond rfl (fun h0 => ?_) (fun h0 => ?_) <;> (try first | refine S.skip ?_ | refine S.exit ?_))
  · ((repeat refine S.seq ?_); refine wG (k := ?_); try (refine L.nil ?_))
    ((repeat refine S.seq ?_); refine S.ret ?_)
    refine E.retP (T := tt) tt_ok rfl rfl (by exact sd) (Imp.of_eq ?_)
    unfold mayRow
    rw [h0]
    rfl
  ((repeat refine S.seq ?_); refine wG (k := ?_); try (refine L.nil ?_))
  refine S.block (S.loop (ι := { k : Nat // k ≤ l.length ∧ rowTo l k = true }) (fun k => [(15, .v (.int .i64 k.1)), (14, .v (.int .i64 l.length)), (13, msgs l), (0, msgs l)]) (fun _ => []) (fun k => l.length - k.1) ?_ ?_)
  · exact fun a w h => ⟨⟨0, Nat.zero_le _, rfl⟩, h.weak (by (repeat' (first | exact True.intro | exact Imp.refl _ | refine ⟨?_, ?_⟩))) (List.Sublist.refl _)⟩
  rintro ⟨k, hk, hno⟩
  dsimp only
  ((repeat refine S.seq ?_); refine wG (k := ?_); try (refine L.nil ?_))
  ((repeat refine S.seq ?_); refine S.cond rfl (fun h => ?_) (fun h => ?_) <;> (try first | refine S.skip ?_ | refine S.exit ?_))
  · have h := of_dec h
    have hprev : (k : Int) > 0 → (l.getD ((k : Int) - 1).toNat default).seq ≤ 1073741824 ∧ 1 ≤ (l.getD ((k : Int) - 1).toNat default).seq := fun h0 => by
      have := rowTo_at hno (i := k - 1) (by omega)
      rw [show ((k : Int) - 1).toNat = k - 1 by omega]
      exact ⟨(mayMsg_le this.1).2, (mayMsg_le this.1).1⟩
    repeat refine S.seq ?_
    refine S.block ?_
    repeat refine S.seq ?_
    refine S.region (L.run (T := tt) 3 tt_ok rfl rfl ?side ?_)
    · exact sd
    refine wA 1 (k := fun b => ?_)
    (refine wL (k := ?_); try (refine L.nil ?_))
    refine wS (k := ?_)
    refine L.nil ?_
    repeat refine S.seq ?_
    refine S.draw [(0, [1]), (5, [1]), (8, [1]), (21, [1])] mixed ?_
    refine wT [0] (k := ?_)
    refine H.callP 1 rfl (by kernel_rfl) (by kernel_rfl) rfl rfl rfl rfl rfl rfl rfl ⟨trivial, by exact sd⟩ rfl (by exact Imps.refl _) (mayMsg_p (l.getD k default)) ?_
    refine wT [2, 3, 4, 5, 6, 7, 8, 10, 11, 12] (k := ?_)
    refine H.callG 9 rfl (by kernel_rfl) (by kernel_rfl) rfl rfl rfl rfl rfl rfl rfl (fun _ => ⟨trivial, by exact sd⟩) rfl (by exact Imps.refl _) (fun _ => of_p (l.getD k default)) ?_
    refine H.callG 13 rfl (by kernel_rfl) (by kernel_rfl) rfl rfl rfl rfl rfl rfl rfl (fun _ => ⟨trivial, by exact sd⟩) rfl (by exact Imps.refl _) (fun _ => of_p (l.getD 0 default)) ?_
    refine wT [14, 15, 16, 17, 18, 19, 20, 21, 22, 23, 24, 25, 26, 27, 28, 29, 30, 31] (k := ?_)
    refine wD (k := ?_)
    ((repeat refine S.seq ?_); refine S.cond rfl (fun hb => ?_) (fun hb => ?_) <;> (try first | refine S.skip ?_ | refine S.exit ?_))
    · clear hprev
      ((repeat refine S.seq ?_); refine wG (k := ?_); try (refine L.nil ?_))
      ((repeat refine S.seq ?_); refine S.ret ?_)
      refine E.retP (T := tt) tt_ok rfl rfl (by exact sd) (Imp.of_eq ?_)
      have hb : (!rowE l k) = true := (rowE_not l k).symm.trans hb
      have : rowTo l l.length = false := by
        cases hq : rowTo l l.length with
        | false => rfl
        | true => rw [rowTo_all hq (by omega)] at hb; cases hb
      simp [oneOf, mayRow, this]
    · clear hprev
      ((repeat refine S.seq ?_); refine wG (k := ?_); try (refine L.nil ?_))
      have hb : (!rowE l k) = false := (rowE_not l k).symm.trans hb
      exact fun a w hR => ⟨⟨k + 1, by omega, by rw [rowTo_succ, hno]; simpa using hb⟩, by simp only; omega, hR.weak (by (repeat' (first | exact True.intro | exact Imp.refl _ | refine ⟨?_, ?_⟩))) (by (repeat (first | exact List.nil_sublist _ | refine List.Sublist.cons_cons _ ?_ | refine List.Sublist.cons _ ?_)))⟩
  · have h := of_dec' h
    ((repeat refine S.seq ?_); refine wG (k := ?_); try (refine L.nil ?_))
    ((repeat refine S.seq ?_); refine S.ret ?_)
    refine E.retP (T := tt) tt_ok rfl rfl (by exact sd) (Imp.of_eq ?_)
    have : k = l.length := by omega
    subst this
    simp [oneOf, mayRow, hno, h0]

end Go.Proofs.YtbogfmgfafdjiaaGreatDoor

/- Keys of maps. -/
namespace Go.Proofs.YtbogfmgfafdjiaaGreatDoor
set_option linter.unusedVariables false
set_option linter.unusedSimpArgs false
set_option maxHeartbeats 8000000
open Go.RowKit
open Go.Maps (Keyed)
set_option maxRecDepth 20000

theorem laid : laidOutB Tryz.prog = true := by kernel_rfl
theorem kStr : Keyed Tryz.prog 9 := Go.Maps.string_keyed (by kernel_rfl)
theorem rowName : Nat.blt 431 Tryz.prog.types.size = true := by kernel_rfl
theorem sizeT : ∃ m, Tryz.prog.types.size = m + 1 := by
  have h := of_blt rowName
  generalize Tryz.prog.types.size = n at h ⊢
  exact ⟨n - 1, by omega⟩
theorem kName : Keyed Tryz.prog 431 := Keyed.of_law (deep_law_laid laid (m := 2) (by omega) (of_blt rowName) (by kernel_rfl) (by kernel_rfl))

theorem kStr_ok {b : ByteArray} (h : fitS b) : kOf Tryz.prog 9 (.string b) = true := by
  have hu : Tryz.prog.underlying 9 = some .string := by kernel_rfl
  simp only [kOf, keyOf, hu, mapKey, fitS] at h ⊢
  simp [maxLen, show b.size ≤ 2 ^ 63 - 1 by omega]

def nameV (pub : Int) (key : ByteArray) : Value := .agg #[.int .i64 pub, .string key]
theorem nameV_inj {p q : Int} {a b : ByteArray} : nameV p a = nameV q b ↔ p = q ∧ a = b := by simp [nameV]

theorem keyT : Tryz.prog.keyType 431 = true := by kernel_rfl
theorem cellsT : Tryz.prog.cellsOf 431 = 2 := by kernel_rfl
theorem cellsI : Tryz.prog.cellsOf 3 = 1 := by kernel_rfl
theorem cellsS : Tryz.prog.cellsOf 9 = 1 := by kernel_rfl

theorem kName_ok {p : Int} {b : ByteArray} (hp : fitI p) (h : fitS b) : kOf Tryz.prog 431 (nameV p b) = true := by
  have hs : Tryz.prog.underlying 9 = some .string := by kernel_rfl
  have hi : Tryz.prog.underlying 3 = some (.int .i64) := by kernel_rfl
  obtain ⟨l, hu, hfs⟩ := (TOk.told (P := Tryz.prog) (T := tt) tt_ok (t := 431) rfl).struct rfl
  obtain ⟨m, hm⟩ := sizeT
  obtain ⟨fl⟩ := l
  match fl, hfs with
  | [f1, f2], hfs =>
    simp only [fsOk, Bool.and_eq_true, beq_iff_eq, bne_iff_ne, ne_eq] at hfs
    obtain ⟨⟨⟨⟨⟨o1, t1⟩, -⟩, -⟩, n1⟩, ⟨⟨⟨⟨o2, t2⟩, -⟩, -⟩, n2⟩, -⟩ := hfs
    have hwf : (Lit.int .i64 p).wf = true := by
      have := hp.1; have := hp.2
      simp [Lit.wf, IntKind.min, IntKind.max, IntKind.signed, IntKind.bits]
      omega
    have hsz : b.size ≤ maxLen := by unfold fitS at h; simp only [maxLen]; omega
    have hform : (nameV p b).formed Tryz.prog 431 = true := by
      simp [Value.formed, nameV, hu, cellsT]
    simp only [kOf, keyOf, hu, keyT, hform, Bool.and_self, if_true, hm]
    simp [Program.keyLits, hu, nameV, Value.cells, cellsT, n1, n2, o1, t1, o2, t2, cellsI, cellsS, hs, hi, hwf, hsz]

end Go.Proofs.YtbogfmgfafdjiaaGreatDoor

/- The shard's marks by their names. -/
namespace Go.Proofs.YtbogfmgfafdjiaaGreatDoor
set_option linter.unusedVariables false
set_option linter.unusedSimpArgs false
set_option maxHeartbeats 8000000
open Go.RowKit
open Go.Maps (Keyed)
set_option maxRecDepth 4000

instance bytesLawful : LawfulBEq ByteArray where
  eq_of_beq {a b} h := by
    obtain ⟨a⟩ := a; obtain ⟨b⟩ := b
    have h' : (a == b) = true := h
    rw [eq_of_beq h']
  rfl {a} := by
    obtain ⟨a⟩ := a
    show (a == a) = true
    exact beq_self_eq_true a

def markM (m : Mark) : Value × AV := (nameV m.pub m.key, .v (.int .i64 m.seq))
def marksM (l : List Mark) : List (Value × AV) := (l.map markM).reverse
def lastSeq (l : List Mark) (p : Int) (key : ByteArray) : Int := match l.reverse.find? (fun m => m.pub == p && m.key == key) with | some m => m.seq | none => 0
theorem mget_marks (p : Int) (key : ByteArray) : ∀ (r : List Mark), mget (r.map markM) (nameV p key) = (r.find? (fun m => m.pub == p && m.key == key)).map fun m => .v (.int .i64 m.seq)
  | [] => rfl
  | m :: r => by
    rw [List.map_cons, List.find?_cons]
    by_cases h : m.pub = p ∧ m.key = key
    · rw [show markM m = (nameV p key, .v (.int .i64 m.seq)) by rw [markM, h.1, h.2], mget_cons_same]
      simp [h.1, h.2]
    · have hne : nameV m.pub m.key ≠ nameV p key := fun e => h (nameV_inj.1 e)
      have hb : (m.pub == p && m.key == key) = false := by
        rw [Bool.and_eq_false_iff]
        by_cases h1 : m.pub = p
        · exact .inr (by simpa using fun h2 => h ⟨h1, h2⟩)
        · exact .inl (by simpa using h1)
      rw [markM, mget_cons_other _ _ hne, hb]
      exact mget_marks p key r
theorem look_marks (l : List Mark) (p : Int) (key : ByteArray) : mlook (marksM l) (nameV p key) (.int .i64 0) = .v (.int .i64 (lastSeq l p key)) := by
  unfold mlook marksM lastSeq
  rw [← List.map_reverse, mget_marks]
  cases l.reverse.find? (fun m => m.pub == p && m.key == key) <;> rfl
theorem marksM_succ {l : List Mark} {k : Nat} (h : k < l.length) : marksM (l.take (k + 1)) = markM (l.getD k default) :: marksM (l.take k) := by
  have : l[k]? = some l[k] := List.getElem?_eq_getElem h
  rw [marksM, List.take_add_one, this, List.getD_eq_getElem?_getD, this]
  simp only [Option.toList_some, Option.getD_some, List.map_append, List.map_cons, List.map_nil, List.reverse_append]
  rfl

def markMsg (m : Mark) : Msg := ⟨m.pub, m.seq, m.key, ByteArray.empty, false⟩
def marksE (l : List Mark) (k : Nat) : Bool := mayMsg (markMsg (l.getD k default)) && !decide (lastSeq (l.take k) (l.getD k default).pub (l.getD k default).key > 0)
def marksTo (l : List Mark) (k : Nat) : Bool := (List.range k).all (marksE l)
theorem marksTo_succ (l : List Mark) (k : Nat) : marksTo l (k + 1) = (marksTo l k && marksE l k) := by simp [marksTo, List.range_succ]
theorem marksTo_all {l : List Mark} {n k : Nat} (h : marksTo l n = true) (hk : k < n) : marksE l k = true := List.all_eq_true.1 h k (by simpa using hk)

theorem may_fit {m : Msg} (h : mayMsg m = true) : fitI m.pub ∧ fitS m.key ∧ fitS m.body := by
  simp only [mayMsg, Bool.and_eq_true, decide_eq_true_eq] at h
  unfold fitI fitS
  omega

theorem marks_p (l : List Mark) : FnC Tryz.prog 318 [marksA l] [] (fun r F' => (marksTo l l.length = true ∧ ∃ b, r = .tup [.ref 81 (.map (some b)), .v (.bool (decide ((l.length : Int) ≤ 64)))] ∧ F' = [(81, .map b (kOf Tryz.prog 431) (marksM l))]) ∨
    (marksTo l l.length = false ∧ r = .tup [.v (.map none), .v (.bool false)] ∧ F' = [])) := by
  refine FnC.intro Tryz.func318 rfl Tryz.ntmps318 rfl ?_; intro off w0
  refine lenAt (sz := 3) (n := l.length) (g := gOf Mark.cells l) 0 rfl fun hn => ?_
  ((repeat refine S.seq ?_); refine wG (k := ?_); try (refine L.nil ?_))
  repeat refine S.seq ?_
  refine S.region (L.makeMap 81 431 rfl rfl rfl rfl fun b => ?_)
  (refine wL (k := ?_); try (refine L.nil ?_))
  ((repeat refine S.seq ?_); refine wG (k := ?_); try (refine L.nil ?_))
  refine S.block (S.loop (ι := { k : Nat // k ≤ l.length ∧ marksTo l k = true }) (fun k => [(10, .v (.int .i64 k.1)), (9, .v (.int .i64 l.length)), (8, marksA l), (4, .ref 81 (.map (some b))), (0, marksA l)])
    (fun k => [(81, .map b (kOf Tryz.prog 431) (marksM (l.take k.1)))]) (fun k => l.length - k.1) ?_ ?_)
  · exact fun a w h => ⟨⟨0, Nat.zero_le _, rfl⟩, h.weak (by (repeat' (first | exact True.intro | exact Imp.refl _ | refine ⟨?_, ?_⟩))) (List.Sublist.refl _)⟩
  rintro ⟨k, hk, hno⟩
  dsimp only
  ((repeat refine S.seq ?_); refine wG (k := ?_); try (refine L.nil ?_))
  ((repeat refine S.seq ?_); refine S.cond rfl (fun h => ?_) (fun h => ?_) <;> (try first | refine S.skip ?_ | refine S.exit ?_))
  · have h := of_dec h
    repeat refine S.seq ?_
    refine S.block ?_
    repeat refine S.seq ?_
    refine S.region (L.run (T := tt) 2 tt_ok rfl rfl ?side ?_)
    · exact sd
    refine wA 1 (k := fun b2 => ?_)
    refine wS (k := ?_)
    refine L.nil ?_
    ((repeat refine S.seq ?_); refine wG (k := ?_); try (refine L.nil ?_))
    refine L.callP rfl rfl rfl rfl rfl rfl rfl ⟨trivial, by exact sd⟩ rfl (by exact Imps.refl _) (mayMsg_p (markMsg (l.getD k default))) ?_
    (refine wL (k := ?_); try (refine L.nil ?_))
    refine L.sureG (rd := [81]) (A := .v (.int .i64 (lastSeq (l.take k) (l.getD k default).pub (l.getD k default).key))) (fun hb => look_sure (T := tt) tt_ok kName rfl rfl (by kernel_rfl) rfl rfl rfl ?sd rfl (fun _ _ => rfl) rfl ?key (look_marks _ _ _)) rfl rfl rfl ?_
    · exact ⟨hb, hb⟩
    · have := may_fit (show mayMsg (markMsg (l.getD k default)) = true by simpa using hb)
      exact kName_ok this.1 this.2.1
    (refine wL (k := ?_); try (refine L.nil ?_))
    ((repeat refine S.seq ?_); refine S.cond rfl (fun hb => ?_) (fun hb => ?_) <;> (try first | refine S.skip ?_ | refine S.exit ?_))
    · ((repeat refine S.seq ?_); refine wG (k := ?_); try (refine L.nil ?_))
      ((repeat refine S.seq ?_); refine S.ret ?_)
      refine E.ret (T := tt) tt_ok rfl rfl (by exact sd) (Imp.refl _) (by (repeat (first | exact List.nil_sublist _ | refine List.Sublist.cons_cons _ ?_ | refine List.Sublist.cons _ ?_))) (.inr ⟨?_, rfl, rfl⟩)
      have he : marksE l k = false := by unfold marksE; rw [← Bool.not_eq_true'] at *; simpa using hb
      cases hq : marksTo l l.length with
      | false => rfl
      | true => rw [marksTo_all hq (by omega)] at he; cases he
    · have he : marksE l k = true := by
        simp only [Bool.or_eq_false_iff, Bool.not_eq_false'] at hb
        unfold marksE
        rw [hb.1, hb.2]; rfl
      have hf := may_fit (show mayMsg (markMsg (l.getD k default)) = true by simp only [Bool.or_eq_false_iff, Bool.not_eq_false'] at hb; exact hb.1)
      ((repeat refine S.seq ?_); refine wG (k := ?_); try (refine L.nil ?_))
      refine L.mapSet (T := tt) tt_ok kName rfl rfl rfl rfl rfl rfl rfl rfl (by exact sd) rfl rfl (kName_ok hf.1 hf.2.1) (L.nil ?_)
      ((repeat refine S.seq ?_); refine wG (k := ?_); try (refine L.nil ?_))
      intro a w hR
      refine ⟨⟨k + 1, by omega, by rw [marksTo_succ, hno, he]; rfl⟩, by simp only; omega, ?_⟩
      dsimp only
      rw [marksM_succ (by omega)]
      exact hR.weak (by (repeat' (first | exact True.intro | exact Imp.refl _ | refine ⟨?_, ?_⟩))) (by (repeat (first | exact List.nil_sublist _ | refine List.Sublist.cons_cons _ ?_ | refine List.Sublist.cons _ ?_)))
  · have h := of_dec' h
    have : k = l.length := by omega
    subst this
    ((repeat refine S.seq ?_); refine wG (k := ?_); try (refine L.nil ?_))
    ((repeat refine S.seq ?_); refine S.ret ?_)
    refine E.ret (T := tt) tt_ok rfl rfl (by exact sd) (Imp.refl _) (List.Sublist.refl _) (.inl ⟨hno, b, rfl, ?_⟩)
    rw [List.take_length]

end Go.Proofs.YtbogfmgfafdjiaaGreatDoor
