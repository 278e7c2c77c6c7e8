/- Parts of a frozen shard, in plain words. -/
import Derived.Test.YtgnklbdbglnmaaaMgK
import Derived.Test.YtgnklbdbglnmaaaMgI
namespace Go.Proofs.Ytgnklbdbglnmaaa
set_option linter.unusedVariables false
set_option linter.unusedSimpArgs false
set_option maxHeartbeats 8000000
open Go.RowKit

/-- A shard that batches came to. -/
def wS (l : List OpD) : Nat → Shard
  | 0 => t0
  | k + 1 => (putR (wS l k) (nextL (wS l k) (l.getD k default))).1
structure WS (s : Shard) (n : Nat) : Prop where
  may : May s
  thaw : s.frozen = false
  held : s.held = []
  low : low s (3 * (n : Int))
theorem putR_same (s : Shard) (l : List Msg) : (putR s l).1.frozen = s.frozen ∧ (putR s l).1.held = s.held := by
  unfold putR
  dsimp only
  split
  · exact ⟨rfl, rfl⟩
  · exact ⟨rfl, rfl⟩
theorem wS_ok (l : List OpD) : ∀ k, k ≤ 1000 → WS (wS l k) k
  | 0, _ => ⟨may_new, rfl, rfl, fun m hm => (by cases hm)⟩
  | k + 1, hk => by
    have w := wS_ok l k (by omega)
    obtain ⟨e1, e2⟩ := putR_same (wS l k) (nextL (wS l k) (l.getD k default))
    refine ⟨may_putR w.may _, by rw [wS, e1, w.thaw], by rw [wS, e2, w.held], ?_⟩
    refine low_put (low_mono w.low (by omega)) ?_
    have hb := low_last w.may w.low (by omega) (uM (l.getD k default).pub 4) (nameK (uM (l.getD k default).key 6))
    have hl := next_len (wS l k) (l.getD k default)
    unfold lastMsg
    rw [next_get _ _ (by omega)]
    dsimp only
    omega
theorem owner_bd {al : List Arc} (m : MayA al) (hm : mayA al = true) (p : Int) : 0 ≤ ownerA al p ∧ ownerA al p < 16 := by
  rw [ownerA, if_pos hm]
  exact m.shard _ (plcTo_lt p m.one _ (Nat.le_refl _))
theorem part_thawed {s : Shard} {al : List Arc} (k : Int) (m : May s) (hm : mayA al = true) (h : s.frozen = false) : part s al k = (s, 7) := by
  have e : partE s al = 7 := by rw [partE, (may_iff s).2 m, hm, h]; rfl
  rw [part, e]; rfl
theorem part_frozen {s : Shard} {al : List Arc} (k : Int) (m : May s) (hm : mayA al = true) (h : s.frozen = true) (hh : s.held = []) : part s al k = (partS s al k, 0) := by
  have e : partE s al = 0 := by rw [partE, (may_iff s).2 m, hm, h, hh]; rfl
  rw [part, if_pos e]
theorem last_filter {l : List Mark} (ha : l.Pairwise apart) (q : Mark → Bool) (p : Int) (k : ByteArray) (hq : ∀ m ∈ l, nm m p k → q m = true) : lastSeq (l.filter q) p k = lastSeq l p k := by
  have ha' : (l.filter q).Pairwise apart := ha.sublist List.filter_sublist
  rcases lastSeq_cases l p k with ⟨h1, h2⟩ | ⟨x, h1, h2, h3⟩
  · rw [h1]
    exact last_none fun m hm => h2 m (List.mem_filter.1 hm).1
  · rw [h3]
    exact last_mem ha' (List.mem_filter.2 ⟨h1, hq x h1 h2⟩) h2
theorem part_may {s : Shard} (al : List Arc) (k : Int) (m : May s) (hh : s.held = []) : May (partS s al k) := by
  have hm : ∀ x ∈ s.marks.filter (fun m => !partQ al k m.key), x ∈ s.marks := fun x hx => (List.mem_filter.1 hx).1
  have hr : ∀ x ∈ s.ready.filter (fun m => !partQ al k m.key), x ∈ s.ready := fun x hx => (List.mem_filter.1 hx).1
  refine ⟨fun x hx => m.marks x (hm x hx), m.apart.sublist List.filter_sublist, Nat.le_trans (List.length_filter_le _ _) m.few, m.next, ?_, fun h h' => ?_, ?_, ?_, fun x hx => ?_, ?_⟩
  · have := m.all
    have h1 : (partS s al k).ready.length ≤ s.ready.length := List.length_filter_le _ _
    show (partS s al k).ready.length + s.held.length ≤ 48
    omega
  · have h' : h ∈ s.held := h'
    rw [hh] at h'; cases h'
  · show s.held.Pairwise _
    rw [hh]; exact List.Pairwise.nil
  · show s.held.Pairwise _
    rw [hh]; exact List.Pairwise.nil
  · obtain ⟨h1, h2⟩ := m.ready x (hr x hx)
    refine ⟨h1, ?_⟩
    have hk : partQ al k x.key = false := by simpa using (List.mem_filter.1 hx).2
    show x.seq ≤ lastSeq (s.marks.filter fun m => !partQ al k m.key) x.pub x.key
    rw [last_filter m.apart _ _ _ fun y _ hy => by rw [hy.2, hk]; rfl]
    exact h2
  · have := m.inc
    rw [hh] at this
    show (heldMarks s.held ++ ((s.ready.filter fun m => !partQ al k m.key).map Msg.mark)).Pairwise inc
    rw [hh]
    exact this.sublist (List.Sublist.append (List.Sublist.refl _) (List.filter_sublist.map _))

/-- How many keys' owners are under a number. -/
def cntP (al : List Arc) (ks : List ByteArray) (k : Nat) : Nat := (ks.filter fun x => decide (ownerA al (ofP x) < k)).length
theorem cntP_succ (al : List Arc) (k : Nat) : ∀ ks : List ByteArray, cntP al ks (k + 1) = cntP al ks k + (ks.filter fun x => !partQ al k x).length
  | [] => rfl
  | x :: ks => by
    have ih := cntP_succ al k ks
    unfold cntP at ih ⊢
    simp only [List.filter_cons, partQ] at ih ⊢
    by_cases h1 : ownerA al (ofP x) < k
    · rw [if_pos (by simp; omega), if_pos (by simpa using h1), if_neg (by simp; omega)]
      simp only [List.length_cons]
      omega
    · by_cases h2 : ownerA al (ofP x) = k
      · rw [if_pos (by simp; omega), if_neg (by simpa using h1), if_pos (by simp [h2])]
        simp only [List.length_cons]
        omega
      · rw [if_neg (by simp; omega), if_neg (by simpa using h1), if_neg (by simp [h2])]
        omega
theorem cntP_zero {al : List Arc} (m : MayA al) (hm : mayA al = true) (ks : List ByteArray) : cntP al ks 0 = 0 := by
  unfold cntP
  rw [List.length_eq_zero_iff, List.filter_eq_nil_iff]
  intro x _
  have := owner_bd m hm (ofP x)
  simp
  omega
theorem cntP_all {al : List Arc} (m : MayA al) (hm : mayA al = true) (ks : List ByteArray) : cntP al ks 16 = ks.length := by
  unfold cntP
  rw [List.filter_eq_self.2]
  intro x _
  have := owner_bd m hm (ofP x)
  simp
  omega
theorem cnt_ready (s : Shard) (al : List Arc) (k : Nat) : cntP al (s.ready.map Msg.key) (k + 1) = cntP al (s.ready.map Msg.key) k + (partS s al k).ready.length := by
  rw [cntP_succ, List.filter_map, List.length_map]; rfl
theorem cnt_marks (s : Shard) (al : List Arc) (k : Nat) : cntP al (s.marks.map Mark.key) (k + 1) = cntP al (s.marks.map Mark.key) k + (partS s al k).marks.length := by
  rw [cntP_succ, List.filter_map, List.length_map]; rfl
theorem cntP_le (al : List Arc) (ks : List ByteArray) (k : Nat) : cntP al ks k ≤ ks.length := List.length_filter_le _ _
/-- Where the next one stands. -/
theorem keep_at (al : List Arc) (k : Int) (s : Shard) {j : Nat} (h : j < s.ready.length) (hq : partQ al k (s.ready.getD j default).key = false) : (keepM al k s.ready j).length < (partS s al k).ready.length ∧ (partS s al k).ready.getD (keepM al k s.ready j).length default = s.ready.getD j default ∧ (keepM al k s.ready (j + 1)).length = (keepM al k s.ready j).length + 1 := by
  have e := keepM_succ (l := al) (k := k) h
  rw [if_neg (by rw [hq]; decide)] at e
  have hsplit : (partS s al k).ready = keepM al k s.ready (j + 1) ++ (s.ready.drop (j + 1)).filter fun m => !partQ al k m.key := by
    show s.ready.filter _ = _
    unfold keepM
    rw [← List.filter_append, List.take_append_drop]
  rw [hsplit, e]
  refine ⟨by simp, ?_, by simp⟩
  rw [List.getD_eq_getElem?_getD, List.append_assoc, List.getElem?_append_right (Nat.le_refl _)]
  simp
theorem keep_all (al : List Arc) (k : Int) (s : Shard) : (keepM al k s.ready s.ready.length).length = (partS s al k).ready.length := by
  unfold keepM
  rw [List.take_length]; rfl

end Go.Proofs.Ytgnklbdbglnmaaa
