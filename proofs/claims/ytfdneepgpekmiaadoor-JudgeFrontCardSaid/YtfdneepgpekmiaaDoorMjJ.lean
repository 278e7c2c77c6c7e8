/- Texts of this proof, laid together: JrH, JrI, JrJ, JrK. -/
import Derived.Test.YtfdneepgpekmiaaDoorMjI
/- The judge: the program and the reference go hand in hand. -/
namespace Go.Proofs.YtfdneepgpekmiaaDoor
set_option linter.unusedVariables false
set_option linter.unusedSimpArgs false
set_option maxHeartbeats 8000000
open Go.RowKit
set_option maxRecDepth 4000

section
variable {α β : Type} [Inhabited α] [Inhabited β]
theorem getD_set {l : List α} {i : Nat} (hi : i < l.length) (x : α) (j : Nat) : (l.set i x).getD j default = if j = i then x else l.getD j default := by
  rw [List.getD_eq_getElem?_getD, List.getElem?_set]
  by_cases h : i = j
  · subst h
    rw [if_pos rfl, if_pos hi, if_pos rfl]
    rfl
  · rw [if_neg h, if_neg (fun e => h e.symm), List.getD_eq_getElem?_getD]
theorem getD_cat {l m : List α} (j : Nat) : (l ++ m).getD j default = if j < l.length then l.getD j default else m.getD (j - l.length) default := by
  rw [List.getD_eq_getElem?_getD, List.getElem?_append]
  split <;> rw [List.getD_eq_getElem?_getD]
theorem getD_map {l : List α} (f : α → β) (h : f default = default) (j : Nat) : (l.map f).getD j default = f (l.getD j default) := by
  rw [List.getD_eq_getElem?_getD, List.getElem?_map, List.getD_eq_getElem?_getD]
  cases l[j]? <;> simp [h]
theorem getD_map' {l : List α} (f : α → β) {j : Nat} (hj : j < l.length) : (l.map f).getD j default = f (l.getD j default) := by
  rw [List.getD_eq_getElem?_getD, List.getElem?_map, List.getD_eq_getElem?_getD, List.getElem?_eq_getElem hj]
  rfl
end

def toB (p : PostD) : BatD := ⟨p.fst, p.fst + p.many - 1, p.st⟩
def toM (x : SeenD) : MsD := ⟨x.m, x.post, x.del, x.ack, x.fin⟩
def RJ.w (r : RJ) (j : Nat) : PostD := r.wait.getD j default
def RJ.g (r : RJ) (j : Nat) : GotD := r.tags.getD j default
def wAt (r : RJ) (k : LineK) : List Nat := (List.range r.wait.length).filter fun j => decide ((r.w j).line = k)
def mAt (r : RJ) (k : LineK) : List Nat := (List.range r.ms.length).filter fun i => decide ((r.at i).line = k)

structure Rel (s : Crt) (r : RJ) : Prop where
  bs : s.bs = r.wait.map toB
  ms : s.ms = r.ms.map toM
  bat : ∀ k, lkL s.bat k = wAt r k
  all : ∀ k, lkL s.all k = mAt r k
  seq : ∀ k j, j < (mAt r k).length → (r.at ((mAt r k).getD j default)).m.seq = (j : Int) + 1
  last : ∀ k, lastN r.wait k = ((mAt r k).length : Int)
  bare : ∀ i, i < r.ms.length → (r.at i).m.again = false
  post : ∀ i, i < r.ms.length → (r.at i).post < r.wait.length
  top : s.l0 = r.t0 ∧ s.l1 = r.t1 ∧ s.l2 = r.t2 ∧ s.l3 = r.t3
  top0 : 0 ≤ r.t0 ∧ 0 ≤ r.t1 ∧ 0 ≤ r.t2 ∧ 0 ≤ r.t3
  held : ∀ k, k ∈ s.held ↔ ∃ i, i < r.ms.length ∧ (r.at i).held = true ∧ (r.at i).lock = k
  heldU : ∀ i j, i < r.ms.length → j < r.ms.length → (r.at i).held = true → (r.at j).held = true → (r.at i).lock = (r.at j).lock → i = j
  holds : ∀ t m, lkT s.holds t = some m ↔ ∃ i, i < r.tags.length ∧ (r.g i).tagk = t ∧ (r.g i).st = 0 ∧ (r.g i).m = m
  acks : ∀ t m, lkT s.acks t = some m ↔ ∃ i, i < r.tags.length ∧ (r.g i).tagk = t ∧ (r.g i).st = 1 ∧ (r.g i).m = m
  tagU : ∀ i j, i < r.tags.length → j < r.tags.length → (r.g i).tagk = (r.g j).tagk → i = j
  tagT : ∀ i, i < r.tags.length → (r.g i).tag ≤ rTop r (r.g i).cl
  gm : ∀ i, i < r.tags.length → (r.g i).m < r.ms.length ∧ (r.at (r.g i).m).q = (r.g i).q
  gh : ∀ i, i < r.tags.length → (r.g i).st = 0 → (r.at (r.g i).m).held = true
  gU : ∀ i j, i < r.tags.length → j < r.tags.length → (r.g i).st = 0 → (r.g j).st = 0 → (r.g i).m = (r.g j).m → i = j

theorem rel0 : Rel crt0 rj0 := by
  refine ⟨rfl, rfl, fun k => rfl, fun k => rfl, fun k j hj => absurd hj (Nat.not_lt_zero j), fun k => rfl, fun i hi => absurd hi (Nat.not_lt_zero i), fun i hi => absurd hi (Nat.not_lt_zero i), ⟨rfl, rfl, rfl, rfl⟩, ⟨Int.le_refl _, Int.le_refl _, Int.le_refl _, Int.le_refl _⟩, fun k => ?_, fun i j hi => absurd hi (Nat.not_lt_zero i), fun t m => ?_, fun t m => ?_, fun i j hi => absurd hi (Nat.not_lt_zero i), fun i hi => absurd hi (Nat.not_lt_zero i), fun i hi => absurd hi (Nat.not_lt_zero i), fun i hi => absurd hi (Nat.not_lt_zero i), fun i j hi => absurd hi (Nat.not_lt_zero i)⟩
  · constructor
    · intro h; cases h
    · rintro ⟨i, hi, -⟩; exact absurd hi (Nat.not_lt_zero i)
  · constructor
    · intro h; cases h
    · rintro ⟨i, hi, -⟩; exact absurd hi (Nat.not_lt_zero i)
  · constructor
    · intro h; cases h
    · rintro ⟨i, hi, -⟩; exact absurd hi (Nat.not_lt_zero i)

theorem mAt_mem {r : RJ} {k : LineK} {i : Nat} : i ∈ mAt r k ↔ i < r.ms.length ∧ (r.at i).line = k := by
  unfold mAt
  rw [List.mem_filter, List.mem_range, decide_eq_true_eq]
theorem wAt_mem {r : RJ} {k : LineK} {i : Nat} : i ∈ wAt r k ↔ i < r.wait.length ∧ (r.w i).line = k := by
  unfold wAt
  rw [List.mem_filter, List.mem_range, decide_eq_true_eq]
/-- The same messages' lines. -/
theorem mAt_same {r r' : RJ} (hl : r'.ms.length = r.ms.length) (h : ∀ i, i < r.ms.length → (r'.at i).line = (r.at i).line) (k : LineK) : mAt r' k = mAt r k := by
  unfold mAt
  rw [hl]
  refine List.filter_congr fun i hi => ?_
  rw [h i (List.mem_range.1 hi)]
theorem wAt_same {r r' : RJ} (hl : r'.wait.length = r.wait.length) (h : ∀ i, i < r.wait.length → (r'.w i).line = (r.w i).line) (k : LineK) : wAt r' k = wAt r k := by
  unfold wAt
  rw [hl]
  refine List.filter_congr fun i hi => ?_
  rw [h i (List.mem_range.1 hi)]
theorem getD_at {l : List Nat} {j : Nat} (h : j < l.length) : l.getD j default ∈ l := getD_mem h

/-- Publishing. -/
theorem pubN_ms (s : Crt) (a : ActD) : ∀ n, (pubN s a n).ms = s.ms ++ (List.range n).map (newM a s.bs.length)
  | 0 => by simp [pubN, addB]
  | n + 1 => by
    show (pubN s a n).ms ++ [newM a s.bs.length n] = _
    rw [pubN_ms s a n, List.range_succ, List.map_append, List.append_assoc]
    rfl
theorem pubN_rest (s : Crt) (a : ActD) : ∀ n, (pubN s a n).bat = (addB s a).bat ∧ (pubN s a n).held = s.held ∧ (pubN s a n).holds = s.holds ∧ (pubN s a n).acks = s.acks ∧ (pubN s a n).l0 = s.l0 ∧ (pubN s a n).l1 = s.l1 ∧ (pubN s a n).l2 = s.l2 ∧ (pubN s a n).l3 = s.l3
  | 0 => ⟨rfl, rfl, rfl, rfl, rfl, rfl, rfl, rfl⟩
  | n + 1 => pubN_rest s a n
theorem pubN_all (s : Crt) (a : ActD) (k : LineK) : ∀ n, lkL (pubN s a n).all k = if a.line = k then lkL s.all k ++ (List.range n).map (s.ms.length + ·) else lkL s.all k
  | 0 => by
    show lkL s.all k = _
    simp
  | n + 1 => by
    show lkL (putL (pubN s a n).all a.line (lkL (pubN s a n).all a.line ++ [(pubN s a n).ms.length])) k = _
    rw [lk_put, pubN_all s a a.line n, pubN_all s a k n, pubN_ml, if_pos rfl]
    by_cases h : a.line = k
    · subst h
      rw [if_pos rfl, if_pos rfl, List.range_succ, List.map_append, List.append_assoc]
      rfl
    · rw [if_neg h, if_neg h, if_neg h]
theorem filt_add {m n : Nat} (p q : Nat → Bool) (h1 : ∀ i, i < m → p i = q i) : (List.range (m + n)).filter p = (List.range m).filter q ++ ((List.range n).map (m + ·)).filter p := by
  rw [List.range_add, List.filter_append]
  congr 1
  exact List.filter_congr fun i hi => h1 i (List.mem_range.1 hi)

theorem rel_pub {s : Crt} {r : RJ} (h : Rel s r) (a : ActD) : pubNo s a = rpubNo r a ∧ (rpubNo r a = false → Rel (pubJ s a) (rpubS r a)) := by
  have e0 : pubNo s a = rpubNo r a := by
    unfold pubNo rpubNo
    rw [h.last, h.all]
  refine ⟨e0, fun hb => ?_⟩
  have e1 : pubJ s a = pubN s a a.many.toNat := by rw [pubJ, if_neg (by rw [e0, hb]; decide)]
  have e2 : rpubS r a = { r with ms := r.ms ++ rnewMs r a a.many.toNat, wait := r.wait ++ [⟨a.cl, a.q, a.key, a.seq, a.many, 0⟩] } := by rw [rpubS, if_neg (by rw [hb]; decide)]
  have hr : 1 ≤ a.many ∧ a.many ≤ 8 ∧ a.seq = lastN r.wait a.line + 1 := by
    have := hb
    unfold rpubNo at this
    simp only [Bool.or_eq_false_iff, decide_eq_false_iff_not, bne_eq_false_iff_eq] at this
    omega
  rw [e1]
  obtain ⟨n, hn⟩ : ∃ n, n = a.many.toNat := ⟨_, rfl⟩
  rw [← hn] at e2 ⊢
  obtain ⟨r', hr'⟩ : ∃ r', r' = rpubS r a := ⟨_, rfl⟩
  rw [← hr']
  rw [e2] at hr'
  have hms : r'.ms = r.ms ++ rnewMs r a n := by rw [hr']
  have hwt : r'.wait = r.wait ++ [⟨a.cl, a.q, a.key, a.seq, a.many, 0⟩] := by rw [hr']
  have htg : r'.tags = r.tags := by rw [hr']
  have hlen : r'.ms.length = r.ms.length + n := by rw [hms, List.length_append, rnewMs_len]
  have hwl : r'.wait.length = r.wait.length + 1 := by rw [hwt, List.length_append]; rfl
  have hold : ∀ i, i < r.ms.length → r'.at i = r.at i := fun i hi => by rw [RJ.at, hms, getD_cat, if_pos hi]; rfl
  have hnew : ∀ i, i < n → r'.at (r.ms.length + i) = rnewM r a i := fun i hi => by
    rw [RJ.at, hms, getD_cat, if_neg (by omega), Nat.add_sub_cancel_left, rnewMs, List.getD_eq_getElem?_getD, List.getElem?_map, List.getElem?_range hi]
    rfl
  have hcase : ∀ i, i < r'.ms.length → i < r.ms.length ∨ ∃ j, j < n ∧ i = r.ms.length + j := fun i hi => by
    by_cases h1 : i < r.ms.length
    · exact .inl h1
    · exact .inr ⟨i - r.ms.length, by omega, by omega⟩
  have hg : ∀ i, r'.g i = r.g i := fun i => by rw [RJ.g, htg]; rfl
  have hmsl : s.ms.length = r.ms.length := by rw [h.ms, List.length_map]
  have hbsl : s.bs.length = r.wait.length := by rw [h.bs, List.length_map]
  obtain ⟨f1, f2, f3, f4, f5, f6, f7, f8⟩ := pubN_rest s a n
  have hmA : ∀ k, mAt r' k = if a.line = k then mAt r k ++ (List.range n).map (r.ms.length + ·) else mAt r k := fun k => by
    unfold mAt
    rw [hlen, filt_add _ (fun i => decide ((r.at i).line = k)) (fun i hi => by rw [hold i hi])]
    have : ∀ x ∈ (List.range n).map (r.ms.length + ·), decide ((r'.at x).line = k) = decide (a.line = k) := fun x hx => by
      obtain ⟨i, hi, rfl⟩ := List.mem_map.1 hx
      rw [hnew i (List.mem_range.1 hi)]
      rfl
    rw [List.filter_congr this]
    by_cases hk : a.line = k
    · rw [if_pos hk, decide_eq_true hk, List.filter_eq_self.2 (fun _ _ => rfl)]
    · rw [if_neg hk, decide_eq_false hk, (List.filter_eq_nil_iff (p := fun _ => false)).2 (fun _ _ h => nomatch h), List.append_nil]
  refine ⟨?_, ?_, fun k => ?_, fun k => ?_, fun k j hj => ?_, fun k => ?_, fun i hi => ?_, fun i hi => ?_, ?_, ?_, fun k => ?_, fun i j hi hj h1 h2 h3 => ?_, fun t m => ?_, fun t m => ?_, fun i j hi hj h1 => ?_, fun i hi => ?_, fun i hi => ?_, fun i hi h1 => ?_, fun i j hi hj h1 h2 h3 => ?_⟩
  · rw [pubN_bs, hwt, List.map_append, h.bs]
    rfl
  · rw [pubN_ms, hms, List.map_append, h.ms, rnewMs, List.map_map]
    congr 1
    refine List.map_congr_left fun i _ => ?_
    show newM a s.bs.length i = toM (rnewM r a i)
    rw [hbsl]
    rfl
  · rw [f1]
    show lkL (putL s.bat a.line (lkL s.bat a.line ++ [s.bs.length])) k = _
    rw [lk_put]
    unfold wAt
    rw [hwl, filt_add (n := 1) _ (fun i => decide ((r.w i).line = k)) (fun i hi => by rw [RJ.w, hwt, getD_cat, if_pos hi]; rfl)]
    have e3 : (r'.w (r.wait.length + 0)).line = a.line := by rw [RJ.w, hwt, getD_cat, if_neg (by omega), Nat.add_zero, Nat.sub_self]; rfl
    have e4 : ((List.range 1).map (r.wait.length + ·)).filter (fun i => decide ((r'.w i).line = k)) = if a.line = k then [r.wait.length] else [] := by
      show [r.wait.length + 0].filter _ = _
      rw [List.filter_cons, e3]
      by_cases hk : a.line = k
      · rw [decide_eq_true hk, if_pos rfl, if_pos hk]; rfl
      · rw [decide_eq_false hk, if_neg (by decide), if_neg hk]; rfl
    rw [e4]
    by_cases hk : a.line = k
    · subst hk
      rw [if_pos rfl, if_pos rfl, h.bat, hbsl]
      rfl
    · rw [if_neg hk, if_neg hk, List.append_nil, h.bat]
      rfl
  · rw [pubN_all, hmA, h.all, hmsl]
  · rw [hmA] at hj ⊢
    by_cases hk : a.line = k
    · subst hk
      rw [if_pos rfl] at hj ⊢
      rw [List.length_append, List.length_map, List.length_range] at hj
      rw [getD_cat]
      by_cases h1 : j < (mAt r a.line).length
      · rw [if_pos h1, hold _ (mAt_mem.1 (getD_at h1)).1]
        exact h.seq _ _ h1
      · rw [if_neg h1, List.getD_eq_getElem?_getD, List.getElem?_map, List.getElem?_range (by omega)]
        show (r'.at (r.ms.length + (j - (mAt r a.line).length))).m.seq = _
        rw [hnew _ (by omega)]
        show a.seq + ((j - (mAt r a.line).length : Nat) : Int) = _
        rw [hr.2.2, h.last]
        omega
    · rw [if_neg hk] at hj ⊢
      rw [hold _ (mAt_mem.1 (getD_at hj)).1]
      exact h.seq _ _ hj
  · rw [hwt, lastN_app, hmA]
    by_cases hk : a.line = k
    · subst hk
      rw [if_pos (by rfl), if_pos rfl, List.length_append, List.length_map, List.length_range]
      show a.seq + a.many - 1 = _
      rw [hr.2.2, h.last]
      omega
    · rw [if_neg (by exact hk), if_neg hk]
      exact h.last k
  · rcases hcase i hi with h1 | ⟨j, hj, rfl⟩
    · rw [hold i h1]; exact h.bare i h1
    · rw [hnew j hj]; rfl
  · rw [hwl]
    rcases hcase i hi with h1 | ⟨j, hj, rfl⟩
    · rw [hold i h1]; have := h.post i h1; omega
    · rw [hnew j hj]; show r.wait.length < _; omega
  · rw [f5, f6, f7, f8, hr']; exact h.top
  · rw [hr']; exact h.top0
  · rw [f2, h.held]
    constructor
    · rintro ⟨i, hi, h1, h2⟩
      exact ⟨i, by omega, by rw [hold i hi]; exact h1, by rw [hold i hi]; exact h2⟩
    · rintro ⟨i, hi, h1, h2⟩
      rcases hcase i hi with h3 | ⟨j, hj, rfl⟩
      · rw [hold i h3] at h1 h2; exact ⟨i, h3, h1, h2⟩
      · rw [hnew j hj] at h1; cases h1
  · rcases hcase i hi with h4 | ⟨i', hi', rfl⟩
    · rcases hcase j hj with h5 | ⟨j', hj', rfl⟩
      · rw [hold i h4] at h1 h3; rw [hold j h5] at h2 h3
        exact h.heldU i j h4 h5 h1 h2 h3
      · rw [hnew j' hj'] at h2; cases h2
    · rw [hnew i' hi'] at h1; cases h1
  · rw [f3, h.holds, htg]; simp only [hg]
  · rw [f4, h.acks, htg]; simp only [hg]
  · rw [htg] at hi hj; rw [hg, hg] at h1; exact h.tagU i j hi hj h1
  · rw [htg] at hi; rw [hg, hr']; exact h.tagT i hi
  · rw [htg] at hi
    have := h.gm i hi
    rw [hg, hold _ this.1]
    exact ⟨by omega, this.2⟩
  · rw [htg] at hi; rw [hg] at h1 ⊢
    rw [hold _ (h.gm i hi).1]
    exact h.gh i hi h1
  · rw [htg] at hi hj; rw [hg] at h1 h3; rw [hg] at h2 h3; exact h.gU i j hi hj h1 h2 h3
end Go.Proofs.YtfdneepgpekmiaaDoor

/- The judge: answers, settling: the program and the reference. -/
namespace Go.Proofs.YtfdneepgpekmiaaDoor
set_option linter.unusedVariables false
set_option linter.unusedSimpArgs false
set_option maxHeartbeats 8000000
open Go.RowKit
set_option maxRecDepth 4000

theorem pidx_opt (p : Nat → Bool) (n : Nat) : (List.range n).find? p = if pidx p n < 0 then none else some (pidx p n).toNat := by
  unfold pidx
  cases h : (List.range n).find? p with
  | none => rfl
  | some k =>
    simp only
    rw [if_neg (by omega), Int.toNat_natCast]

theorem find_congr {α : Type} {p q : α → Bool} : ∀ {l : List α}, (∀ x ∈ l, p x = q x) → l.find? p = l.find? q
  | [], _ => rfl
  | a :: t, h => by
    rw [List.find?_cons, List.find?_cons, h a List.mem_cons_self, find_congr fun x hx => h x (List.mem_cons_of_mem _ hx)]

theorem rel_ans {s : Crt} {r : RJ} (h : Rel s r) (a : ActD) (st : Int) : toldJB s a = rAnsB r a ∧ (rAnsB r a = true → Rel (toldJS s a st) (rAnsS r a st)) := by
  have ef : jfirst s.bs (lkL s.bat a.line) = if rAns r a < 0 then none else some (rAns r a).toNat := by
    rw [h.bat, jfirst, wAt, List.find?_filter, rAns, ← pidx_opt]
    refine find_congr fun j hj => ?_
    have hj' := List.mem_range.1 hj
    rw [h.bs, getD_map' toB hj']
    unfold rAnsP
    rw [Bool.eq_iff_iff]
    simp [RJ.w, toB]
  have eB : toldJB s a = rAnsB r a := by
    rw [toldJB, ef, rAnsB]
    by_cases h0 : rAns r a < 0
    · rw [if_pos h0, decide_eq_true h0]; rfl
    · rw [if_neg h0, decide_eq_false h0]
      have hl : (rAns r a).toNat < r.wait.length := by
        have := pidx_opt (rAnsP r a) r.wait.length
        rw [show pidx (rAnsP r a) r.wait.length = rAns r a from rfl, if_neg h0] at this
        exact List.mem_range.1 (List.mem_of_find?_eq_some this)
      show ((s.bs.getD (rAns r a).toNat default).to == a.seq) = _
      rw [h.bs, getD_map' toB hl]
      rfl
  refine ⟨eB, fun hb => ?_⟩
  have hl := rans_lt hb
  have h0 : ¬ rAns r a < 0 := by
    intro h0
    rw [rAnsB, decide_eq_true h0] at hb
    cases hb
  obtain ⟨j, hj⟩ : ∃ j, j = (rAns r a).toNat := ⟨_, rfl⟩
  rw [if_neg h0, ← hj] at ef
  rw [← hj] at hl
  have e1 : toldJS s a st = { s with bs := s.bs.set j { s.bs.getD j default with st := st } } := by rw [toldJS, ef]
  obtain ⟨r', hr'⟩ : ∃ r', r' = rAnsS r a st := ⟨_, rfl⟩
  rw [← hr', e1]
  rw [rAnsS, if_pos hb, ← hj] at hr'
  have hms : r'.ms = r.ms := by rw [hr']
  have hat : ∀ i, r'.at i = r.at i := fun i => by rw [RJ.at, hms]; rfl
  have htg : r'.tags = r.tags := by rw [hr']
  have hg : ∀ i, r'.g i = r.g i := fun i => by rw [RJ.g, htg]; rfl
  have hwl : r'.wait.length = r.wait.length := by rw [hr']; exact List.length_set
  have hmA : ∀ k, mAt r' k = mAt r k := fun k => mAt_same (by rw [hms]) (fun i _ => by rw [hat]) k
  refine ⟨?_, ?_, fun k => ?_, fun k => ?_, fun k i hi => ?_, fun k => ?_, fun i hi => ?_, fun i hi => ?_, ?_, ?_, fun k => ?_, fun i j => ?_, fun t m => ?_, fun t m => ?_, fun i j => ?_, fun i => ?_, fun i => ?_, fun i => ?_, fun i j => ?_⟩
  · show s.bs.set j _ = _
    rw [hr']
    show _ = (r.wait.set j _).map toB
    rw [List.map_set, h.bs, getD_map' toB hl]
    rfl
  · rw [hms]; exact h.ms
  · show lkL s.bat k = _
    rw [h.bat]
    refine (wAt_same hwl (fun i hi => ?_) k).symm
    rw [RJ.w, hr']
    show ((r.wait.set j _).getD i default).line = _
    rw [getD_set hl]
    split
    · rename_i e; subst e; rfl
    · rfl
  · rw [hmA]; exact h.all k
  · rw [hmA] at hi ⊢; rw [hat]; exact h.seq k i hi
  · rw [hmA, hr']
    show lastN (r.wait.set j _) k = _
    rw [lastN_set]
    exact h.last k
  · rw [hms] at hi; rw [hat]; exact h.bare i hi
  · rw [hms] at hi; rw [hat, hwl]; exact h.post i hi
  · rw [hr']; exact h.top
  · rw [hr']; exact h.top0
  · simp only [hms, hat]; exact h.held k
  · simp only [hms, hat]; exact h.heldU i j
  · simp only [htg, hg]; exact h.holds t m
  · simp only [htg, hg]; exact h.acks t m
  · simp only [htg, hg]; exact h.tagU i j
  · simp only [htg, hg]; rw [hr']; exact h.tagT i
  · simp only [htg, hg, hms, hat]; exact h.gm i
  · simp only [htg, hg, hat]; exact h.gh i
  · simp only [htg, hg]; exact h.gU i j

theorem lkT_filter (l : List (TagK × Nat)) (k t : TagK) : lkT (l.filter fun x => x.1 ≠ k) t = if k = t then none else lkT l t := by
  induction l with
  | nil => simp [lkT]
  | cons p l ih =>
    rw [List.filter_cons]
    by_cases hp : p.1 = k
    · rw [if_neg (by simpa using hp), ih]
      show _ = if k = t then none else if p.1 = t then some p.2 else lkT l t
      by_cases hk : k = t
      · rw [if_pos hk, if_pos hk]
      · rw [if_neg hk, if_neg hk, if_neg (by rw [hp]; exact hk)]
    · rw [if_pos (by simpa using hp)]
      show (if p.1 = t then some p.2 else lkT (l.filter _) t) = if k = t then none else if p.1 = t then some p.2 else lkT l t
      rw [ih]
      by_cases hk : k = t
      · rw [if_pos hk, if_pos hk, if_neg (fun e => hp (e.trans hk.symm))]
      · rw [if_neg hk, if_neg hk]

/-- A tag goes from one state to another one. -/
structure Moved (r r' : RJ) (j m : Nat) (g' : GotD) (x : SeenD) : Prop where
  wait : r'.wait = r.wait
  ms : r'.ms = r.ms.set m x
  tags : r'.tags = r.tags.set j g'
  top : r'.t0 = r.t0 ∧ r'.t1 = r.t1 ∧ r'.t2 = r.t2 ∧ r'.t3 = r.t3

theorem rel_move {s s' : Crt} {r r' : RJ} (h : Rel s r) {j m : Nat} {g' : GotD} {x : SeenD} (hj : j < r.tags.length) (hm : (r.g j).m = m) (mv : Moved r r' j m g' x) (hgt : g'.tagk = (r.g j).tagk) (hgm : g'.m = m)
    (hst : g'.st ≠ 0) (hxl : x.line = (r.at m).line) (hxm : x.m = (r.at m).m) (hxp : x.post = (r.at m).post) (hxh : (x.held = false ∧ (r.g j).st = 0) ∨ x.held = (r.at m).held)
    (b1 : s'.bat = s.bat) (b2 : s'.all = s.all) (b3 : s'.bs = s.bs) (b4 : s'.ms = s.ms.set m (toM x)) (b5 : s'.l0 = s.l0 ∧ s'.l1 = s.l1 ∧ s'.l2 = s.l2 ∧ s'.l3 = s.l3)
    (hheld : ∀ k, k ∈ s'.held ↔ ∃ i, i < r'.ms.length ∧ (r'.at i).held = true ∧ (r'.at i).lock = k)
    (hholds : ∀ t m, lkT s'.holds t = some m ↔ ∃ i, i < r'.tags.length ∧ (r'.g i).tagk = t ∧ (r'.g i).st = 0 ∧ (r'.g i).m = m)
    (hacks : ∀ t m, lkT s'.acks t = some m ↔ ∃ i, i < r'.tags.length ∧ (r'.g i).tagk = t ∧ (r'.g i).st = 1 ∧ (r'.g i).m = m) : Rel s' r' := by
  have hml : m < r.ms.length := by rw [← hm]; exact (h.gm j hj).1
  have hlen : r'.ms.length = r.ms.length := by rw [mv.ms, List.length_set]
  have htl : r'.tags.length = r.tags.length := by rw [mv.tags, List.length_set]
  have hat : ∀ i, r'.at i = if i = m then x else r.at i := fun i => by rw [RJ.at, mv.ms, getD_set hml]; rfl
  have hg : ∀ i, r'.g i = if i = j then g' else r.g i := fun i => by rw [RJ.g, mv.tags, getD_set hj]; rfl
  have hlock : x.lock = (r.at m).lock := by
    unfold SeenD.line at hxl
    unfold SeenD.lock
    simp only [LineK.mk.injEq] at hxl
    rw [hxl.2.1, hxl.2.2]
  have hmA : ∀ k, mAt r' k = mAt r k := fun k => mAt_same hlen (fun i _ => by rw [hat]; by_cases e : i = m; (rw [if_pos e, e, hxl]); rw [if_neg e]) k
  have htk : ∀ i, (r'.g i).tagk = (r.g i).tagk := fun i => by rw [hg]; by_cases e : i = j; (rw [if_pos e, e, hgt]); rw [if_neg e]
  have hm' : ∀ i, (r'.g i).m = (r.g i).m := fun i => by rw [hg]; by_cases e : i = j; (rw [if_pos e, e, hgm, hm]); rw [if_neg e]
  refine ⟨?_, ?_, fun k => ?_, fun k => ?_, fun k i hi => ?_, fun k => ?_, fun i hi => ?_, fun i hi => ?_, ?_, ?_, hheld, fun i i2 hi hi2 h1 h2 h3 => ?_, hholds, hacks, fun i i2 hi hi2 h1 => ?_, fun i hi => ?_, fun i hi => ?_, fun i hi h1 => ?_, fun i i2 hi hi2 h1 h2 h3 => ?_⟩
  · rw [b3, mv.wait]; exact h.bs
  · rw [b4, mv.ms, List.map_set, h.ms]
  · rw [b1, h.bat]
    exact (wAt_same (by rw [mv.wait]) (fun i _ => by rw [RJ.w, mv.wait]; rfl) k).symm
  · rw [b2, hmA]; exact h.all k
  · rw [hmA] at hi ⊢
    rw [hat]
    split
    · rename_i e
      rw [hxm, ← e]
      exact h.seq k i hi
    · exact h.seq k i hi
  · rw [mv.wait, hmA]; exact h.last k
  · rw [hlen] at hi
    rw [hat]
    split
    · rw [hxm]; exact h.bare m hml
    · exact h.bare i hi
  · rw [hlen] at hi
    rw [hat, mv.wait]
    split
    · rw [hxp]; exact h.post m hml
    · exact h.post i hi
  · rw [mv.top.1, mv.top.2.1, mv.top.2.2.1, mv.top.2.2.2, b5.1, b5.2.1, b5.2.2.1, b5.2.2.2]; exact h.top
  · rw [mv.top.1, mv.top.2.1, mv.top.2.2.1, mv.top.2.2.2]; exact h.top0
  · rw [hlen] at hi hi2
    have key : ∀ i, (r'.at i).held = true → (r.at i).held = true ∧ (r'.at i).lock = (r.at i).lock := fun i hh => by
      rw [hat] at hh ⊢
      split
      · rename_i e
        rw [if_pos e] at hh
        rcases hxh with ⟨h4, -⟩ | h4
        · rw [h4] at hh; cases hh
        · rw [e, ← h4]; exact ⟨hh, hlock⟩
      · rename_i e
        rw [if_neg e] at hh
        exact ⟨hh, rfl⟩
    obtain ⟨k1, k2⟩ := key i h1
    obtain ⟨k3, k4⟩ := key i2 h2
    rw [k2, k4] at h3
    exact h.heldU i i2 hi hi2 k1 k3 h3
  · rw [htl] at hi hi2
    rw [htk, htk] at h1
    exact h.tagU i i2 hi hi2 h1
  · rw [htl] at hi
    have e1 : (r'.g i).tag = (r.g i).tag := congrArg TagK.tag (htk i)
    have e2 : (r'.g i).cl = (r.g i).cl := congrArg TagK.cl (htk i)
    rw [e1, e2]
    unfold rTop
    rw [mv.top.1, mv.top.2.1, mv.top.2.2.1, mv.top.2.2.2]
    exact h.tagT i hi
  · rw [htl] at hi
    have e2 : (r'.g i).q = (r.g i).q := congrArg TagK.q (htk i)
    obtain ⟨g1, g2⟩ := h.gm i hi
    rw [hm', e2, hlen]
    refine ⟨g1, ?_⟩
    rw [hat]
    split
    · rename_i e
      have : x.q = (r.at m).q := congrArg LineK.q hxl
      rw [this, ← e]
      exact g2
    · exact g2
  · rw [htl] at hi
    have hij : i ≠ j := by
      rintro rfl
      rw [hg, if_pos rfl] at h1
      exact hst h1
    rw [hm']
    have h2 : (r.g i).st = 0 := by rw [hg, if_neg hij] at h1; exact h1
    rw [hat]
    split
    · rename_i e
      rcases hxh with ⟨h4, h6⟩ | h4
      · exact absurd (h.gU i j hi hj h2 h6 (e.trans hm.symm)) hij
      · rw [h4, ← e]
        exact h.gh i hi h2
    · exact h.gh i hi h2
  · rw [htl] at hi hi2
    have hij : i ≠ j := by
      rintro rfl
      rw [hg, if_pos rfl] at h1
      exact hst h1
    have hij2 : i2 ≠ j := by
      rintro rfl
      rw [hg, if_pos rfl] at h2
      exact hst h2
    rw [hm', hm'] at h3
    rw [hg, if_neg hij] at h1
    rw [hg, if_neg hij2] at h2
    exact h.gU i i2 hi hi2 h1 h2 h3
end Go.Proofs.YtfdneepgpekmiaaDoor

/- The judge: what is settled: the program and the reference. -/
namespace Go.Proofs.YtfdneepgpekmiaaDoor
set_option linter.unusedVariables false
set_option linter.unusedSimpArgs false
set_option maxHeartbeats 8000000
open Go.RowKit
set_option maxRecDepth 4000

theorem got_some {r : RJ} {a : ActD} {fr : Int} {i : Nat} (hi : i < r.tags.length) (h1 : (r.g i).tagk = a.tagk) (h2 : (r.g i).st = fr) : rSetB r a fr = true := by
  rw [rSetB, Bool.not_eq_true', decide_eq_false_iff_not]
  intro h0
  have := pidx_opt (rGotP r a fr) r.tags.length
  rw [show pidx (rGotP r a fr) r.tags.length = rGot r a fr from rfl, if_pos h0, List.find?_eq_none] at this
  refine this i (List.mem_range.2 hi) ?_
  unfold rGotP
  rw [Bool.and_eq_true]
  exact ⟨decide_eq_true h1, by rw [show (r.tags.getD i default).st = fr from h2]; simp⟩
theorem got_at {r : RJ} {a : ActD} {fr : Int} (hb : rSetB r a fr = true) : (rGot r a fr).toNat < r.tags.length ∧ (r.g (rGot r a fr).toNat).tagk = a.tagk ∧ (r.g (rGot r a fr).toNat).st = fr := by
  obtain ⟨h1, h2⟩ := rgot_lt hb
  unfold rGotP at h2
  rw [Bool.and_eq_true] at h2
  exact ⟨h1, of_decide_eq_true h2.1, eq_of_beq h2.2⟩
theorem holds_iff {s : Crt} {r : RJ} (h : Rel s r) (a : ActD) : (lkT s.holds a.tagk).isSome = rSetB r a 0 := by
  rw [Bool.eq_iff_iff, Option.isSome_iff_exists]
  constructor
  · rintro ⟨m, hm⟩
    obtain ⟨i, hi, h1, h2, -⟩ := (h.holds _ _).1 hm
    exact got_some hi h1 h2
  · intro hb
    obtain ⟨h1, h2, h3⟩ := got_at hb
    exact ⟨_, (h.holds _ _).2 ⟨_, h1, h2, h3, rfl⟩⟩
theorem acks_iff {s : Crt} {r : RJ} (h : Rel s r) (a : ActD) : (lkT s.acks a.tagk).isSome = rSetB r a 1 := by
  rw [Bool.eq_iff_iff, Option.isSome_iff_exists]
  constructor
  · rintro ⟨m, hm⟩
    obtain ⟨i, hi, h1, h2, -⟩ := (h.acks _ _).1 hm
    exact got_some hi h1 h2
  · intro hb
    obtain ⟨h1, h2, h3⟩ := got_at hb
    exact ⟨_, (h.acks _ _).2 ⟨_, h1, h2, h3, rfl⟩⟩

/-- One tag's state is another one: which tags are of a state. -/
theorem tags_set {r r' : RJ} {j : Nat} {to st : Int} {T : TagK} {m' : Nat} (hU : ∀ i j, i < r.tags.length → j < r.tags.length → (r.g i).tagk = (r.g j).tagk → i = j) (hj : j < r.tags.length) (ht : r'.tags = r.tags.set j { r.g j with st := to }) (t : TagK) (hT : (r.g j).tagk = T) :
    (∃ i, i < r'.tags.length ∧ (r'.g i).tagk = t ∧ (r'.g i).st = st ∧ (r'.g i).m = m') ↔ if T = t then (to = st ∧ (r.g j).m = m') else ∃ i, i < r.tags.length ∧ (r.g i).tagk = t ∧ (r.g i).st = st ∧ (r.g i).m = m' := by
  have htl : r'.tags.length = r.tags.length := by rw [ht, List.length_set]
  have hg : ∀ i, r'.g i = if i = j then { r.g j with st := to } else r.g i := fun i => by rw [RJ.g, ht, getD_set hj]; rfl
  rw [htl]
  by_cases hTt : T = t
  · rw [if_pos hTt]
    constructor
    · rintro ⟨i, hi, h1, h2, h3⟩
      have hij : i = j := by
        by_cases e : i = j
        · exact e
        · rw [hg, if_neg e] at h1
          exact hU i j hi hj (h1.trans (hTt.symm.trans hT.symm))
      rw [hg, if_pos hij] at h2 h3
      exact ⟨h2, h3⟩
    · rintro ⟨h2, h3⟩
      refine ⟨j, hj, ?_, ?_, ?_⟩
      · rw [hg, if_pos rfl]; exact hT.trans hTt
      · rw [hg, if_pos rfl]; exact h2
      · rw [hg, if_pos rfl]; exact h3
  · rw [if_neg hTt]
    have hno : ∀ i, (r'.g i).tagk = t → i ≠ j := fun i h1 e => by
      rw [hg, if_pos e] at h1
      exact hTt (hT.symm.trans h1)
    have hno2 : ∀ i, (r.g i).tagk = t → i ≠ j := fun i h1 e => by
      rw [e] at h1
      exact hTt (hT.symm.trans h1)
    constructor
    · rintro ⟨i, hi, h1, h2, h3⟩
      have e := hno i h1
      rw [hg, if_neg e] at h1 h2 h3
      exact ⟨i, hi, h1, h2, h3⟩
    · rintro ⟨i, hi, h1, h2, h3⟩
      have e := hno2 i h1
      refine ⟨i, hi, ?_, ?_, ?_⟩
      · rw [hg, if_neg e]; exact h1
      · rw [hg, if_neg e]; exact h2
      · rw [hg, if_neg e]; exact h3
theorem state_one {r : RJ} {j : Nat} {st st' : Int} {m' : Nat} (hU : ∀ i j, i < r.tags.length → j < r.tags.length → (r.g i).tagk = (r.g j).tagk → i = j) (hj : j < r.tags.length) (hs : (r.g j).st = st) (hne : st ≠ st') : ¬ ∃ i, i < r.tags.length ∧ (r.g i).tagk = (r.g j).tagk ∧ (r.g i).st = st' ∧ (r.g i).m = m' := by
  rintro ⟨i, hi, h1, h2, -⟩
  have := hU i j hi hj h1
  subst this
  exact hne (hs.symm.trans h2)

theorem rel_leave {s : Crt} {r : RJ} (h : Rel s r) (a : ActD) (hb : rSetB r a 0 = true) (to : Int) (hto : to = 1 ∧ a.kind = 5 ∨ to = 2 ∧ a.kind ≠ 5) : Rel (leavesJ s a) (rSetS r a 0 to) := by
  obtain ⟨j, hj⟩ : ∃ j, j = (rGot r a 0).toNat := ⟨_, rfl⟩
  obtain ⟨h1, h2, h3⟩ := got_at hb
  rw [← hj] at h1 h2 h3
  obtain ⟨m, hm⟩ : ∃ m, m = (r.g j).m := ⟨_, rfl⟩
  have hgm := h.gm j h1
  rw [← hm] at hgm
  have hh := h.gh j h1 h3
  rw [← hm] at hh
  have hl : lkT s.holds a.tagk = some m := (h.holds _ _).2 ⟨j, h1, h2, h3, hm.symm⟩
  have hq : (r.g j).q = a.q := congrArg TagK.q h2
  have hml : s.ms.length = r.ms.length := by rw [h.ms, List.length_map]
  have hmd : s.ms.getD m default = toM (r.at m) := by rw [h.ms, getD_map toM rfl]; rfl
  have hlk : (LockK.mk a.q (s.ms.getD m default).m.key) = (r.at m).lock := by rw [hmd, ← hq, ← hgm.2]; rfl
  obtain ⟨x, hx⟩ : ∃ x, x = rGo (r.at m) to := ⟨_, rfl⟩
  have hgx := rGo_post (r.at m) to
  rw [← hx] at hgx
  have e2 : rSetS r a 0 to = { r with tags := r.tags.set j { r.g j with st := to }, ms := r.ms.set m x } := by
    rw [rSetS, if_pos hb]
    simp only [rGotG, ← hj]
    rw [hx, hm]
    rfl
  obtain ⟨r', hr'⟩ : ∃ r', r' = rSetS r a 0 to := ⟨_, rfl⟩
  rw [← hr']
  rw [e2] at hr'
  have hat : ∀ i, r'.at i = if i = m then x else r.at i := fun i => by rw [hr']; show (r.ms.set m x).getD i default = _; rw [getD_set hgm.1]; rfl
  have hlen : r'.ms.length = r.ms.length := by rw [hr']; exact List.length_set
  have htg : r'.tags = r.tags.set j { r.g j with st := to } := by rw [hr']
  have hxh : x.held = false := by
    rw [hx, rGo]
    rcases hto with ⟨e, -⟩ | ⟨e, -⟩
    · rw [if_pos e]
    · rw [if_neg (by omega), if_pos e]
  have hheld : ∀ k, k ∈ s.held.filter (fun y => y ≠ ⟨a.q, (s.ms.getD m default).m.key⟩) ↔ ∃ i, i < r'.ms.length ∧ (r'.at i).held = true ∧ (r'.at i).lock = k := fun k => by
    rw [List.mem_filter, h.held, hlk, hlen]
    constructor
    · rintro ⟨⟨i, hi, g1, g2⟩, g3⟩
      have g3' : k ≠ (r.at m).lock := by simpa using g3
      have hne : i ≠ m := by
        rintro rfl
        exact g3' g2.symm
      refine ⟨i, hi, ?_, ?_⟩ <;> rw [hat, if_neg hne] <;> assumption
    · rintro ⟨i, hi, g1, g2⟩
      rw [hat] at g1 g2
      by_cases e : i = m
      · rw [if_pos e, hxh] at g1; cases g1
      · rw [if_neg e] at g1 g2
        refine ⟨⟨i, hi, g1, g2⟩, ?_⟩
        have : k ≠ (r.at m).lock := by
          intro g3
          exact e (h.heldU i m hi hgm.1 g1 hh (g2.trans g3))
        simpa using this
  have hmv : Moved r r' j m { r.g j with st := to } x := ⟨by rw [hr'], by rw [hr'], htg, by rw [hr']; exact ⟨rfl, rfl, rfl, rfl⟩⟩
  have hholds : ∀ t m', lkT (s.holds.filter fun y => y.1 ≠ a.tagk) t = some m' ↔ ∃ i, i < r'.tags.length ∧ (r'.g i).tagk = t ∧ (r'.g i).st = 0 ∧ (r'.g i).m = m' := fun t m' => by
    rw [lkT_filter, tags_set h.tagU h1 htg t h2]
    by_cases ht : a.tagk = t
    · rw [if_pos ht, if_pos ht]
      constructor
      · intro e; cases e
      · rintro ⟨e, -⟩; omega
    · rw [if_neg ht, if_neg ht]
      exact h.holds t m'
  rcases hto with ⟨rfl, hk⟩ | ⟨rfl, hk⟩
  · have e1 : leavesJ s a = { leaves0 s a m with acks := (a.tagk, m) :: s.acks, ms := s.ms.set m { s.ms.getD m default with ack := true } } := by rw [leavesJ, hl]; exact if_pos hk
    rw [e1]
    refine rel_move h h1 hm.symm hmv rfl hm.symm (fun e => absurd e (by dsimp only; decide)) (by unfold SeenD.line; rw [hgx.2.1, hgx.2.2.1]) hgx.2.1 hgx.1 (.inl ⟨hxh, h3⟩) rfl rfl rfl ?_ ⟨rfl, rfl, rfl, rfl⟩ hheld hholds (fun t m' => ?_)
    · show s.ms.set m _ = _
      rw [hmd, hx]
      rfl
    · rw [tags_set h.tagU h1 htg t h2]
      show (if a.tagk = t then some m else lkT s.acks t) = some m' ↔ _
      by_cases ht : a.tagk = t
      · rw [if_pos ht, if_pos ht, ← hm]
        simp
      · rw [if_neg ht, if_neg ht]
        exact h.acks t m'
  · have e1 : leavesJ s a = leaves0 s a m := by rw [leavesJ, hl]; exact if_neg hk
    rw [e1]
    refine rel_move h h1 hm.symm hmv rfl hm.symm (fun e => absurd e (by dsimp only; decide)) (by unfold SeenD.line; rw [hgx.2.1, hgx.2.2.1]) hgx.2.1 hgx.1 (.inl ⟨hxh, h3⟩) rfl rfl rfl ?_ ⟨rfl, rfl, rfl, rfl⟩ hheld hholds (fun t m' => ?_)
    · show s.ms = _
      have : toM x = s.ms.getD m default := by rw [hmd, hx]; rfl
      rw [this]
      apply List.ext_getElem?
      intro i
      rw [List.getElem?_set]
      by_cases e : m = i
      · subst e
        rw [if_pos rfl, if_pos (by omega), getD_get (by omega), List.getElem?_eq_getElem (by omega)]
      · rw [if_neg e]
    · rw [tags_set h.tagU h1 htg t h2]
      show lkT s.acks t = some m' ↔ _
      by_cases ht : a.tagk = t
      · rw [if_pos ht, h.acks]
        constructor
        · intro e
          rw [← ht, ← h2] at e
          exact absurd e (state_one h.tagU h1 h3 (by decide))
        · rintro ⟨e, -⟩
          exact absurd e (by decide)
      · rw [if_neg ht]
        exact h.acks t m'

theorem rel_settled {s : Crt} {r : RJ} (h : Rel s r) (a : ActD) (hb : rSetB r a 1 = true) : Rel (settledJ s a) (rSetS r a 1 3) := by
  obtain ⟨j, hj⟩ : ∃ j, j = (rGot r a 1).toNat := ⟨_, rfl⟩
  obtain ⟨h1, h2, h3⟩ := got_at hb
  rw [← hj] at h1 h2 h3
  obtain ⟨m, hm⟩ : ∃ m, m = (r.g j).m := ⟨_, rfl⟩
  have hgm := h.gm j h1
  rw [← hm] at hgm
  have hl : lkT s.acks a.tagk = some m := (h.acks _ _).2 ⟨j, h1, h2, h3, hm.symm⟩
  have hmd : s.ms.getD m default = toM (r.at m) := by rw [h.ms, getD_map toM rfl]; rfl
  obtain ⟨x, hx⟩ : ∃ x, x = rGo (r.at m) 3 := ⟨_, rfl⟩
  have hgx := rGo_post (r.at m) 3
  rw [← hx] at hgx
  have e2 : rSetS r a 1 3 = { r with tags := r.tags.set j { r.g j with st := 3 }, ms := r.ms.set m x } := by
    rw [rSetS, if_pos hb]
    simp only [rGotG, ← hj]
    rw [hx, hm]
    rfl
  obtain ⟨r', hr'⟩ : ∃ r', r' = rSetS r a 1 3 := ⟨_, rfl⟩
  rw [← hr']
  rw [e2] at hr'
  have hat : ∀ i, r'.at i = if i = m then x else r.at i := fun i => by rw [hr']; show (r.ms.set m x).getD i default = _; rw [getD_set hgm.1]; rfl
  have hlen : r'.ms.length = r.ms.length := by rw [hr']; exact List.length_set
  have htg : r'.tags = r.tags.set j { r.g j with st := 3 } := by rw [hr']
  have hxh : x.held = (r.at m).held := by rw [hx]; rfl
  have hxl : x.lock = (r.at m).lock := by unfold SeenD.lock; rw [hgx.2.1, hgx.2.2.1]
  have hmv : Moved r r' j m { r.g j with st := 3 } x := ⟨by rw [hr'], by rw [hr'], htg, by rw [hr']; exact ⟨rfl, rfl, rfl, rfl⟩⟩
  have e1 : settledJ s a = { s with acks := s.acks.filter (fun x => x.1 ≠ a.tagk), ms := s.ms.set m { s.ms.getD m default with fin := true } } := by rw [settledJ, hl]
  rw [e1]
  refine rel_move h h1 hm.symm hmv rfl hm.symm (fun e => absurd e (by dsimp only; decide)) (by unfold SeenD.line; rw [hgx.2.1, hgx.2.2.1]) hgx.2.1 hgx.1 (.inr hxh) rfl rfl rfl ?_ ⟨rfl, rfl, rfl, rfl⟩ (fun k => ?_) (fun t m' => ?_) (fun t m' => ?_)
  · show s.ms.set m _ = _
    rw [hmd, hx]
    rfl
  · show k ∈ s.held ↔ _
    rw [h.held, hlen]
    have e : ∀ i, (r'.at i).held = (r.at i).held ∧ (r'.at i).lock = (r.at i).lock := fun i => by
      rw [hat]
      by_cases e : i = m
      · rw [if_pos e, e]; exact ⟨hxh, hxl⟩
      · rw [if_neg e]; exact ⟨rfl, rfl⟩
    simp only [(e _).1, (e _).2]
  · rw [tags_set h.tagU h1 htg t h2]
    show lkT s.holds t = some m' ↔ _
    by_cases ht : a.tagk = t
    · rw [if_pos ht, h.holds]
      constructor
      · intro e
        rw [← ht, ← h2] at e
        exact absurd e (state_one h.tagU h1 h3 (by decide))
      · rintro ⟨e, -⟩
        exact absurd e (by decide)
    · rw [if_neg ht]
      exact h.holds t m'
  · rw [tags_set h.tagU h1 htg t h2]
    show lkT (s.acks.filter fun y => y.1 ≠ a.tagk) t = some m' ↔ _
    rw [lkT_filter]
    by_cases ht : a.tagk = t
    · rw [if_pos ht, if_pos ht]
      constructor
      · intro e; cases e
      · rintro ⟨e, -⟩; exact absurd e (by decide)
    · rw [if_neg ht, if_neg ht]
      exact h.acks t m'
end Go.Proofs.YtfdneepgpekmiaaDoor

/- The judge: what is handed out: the program and the reference; all acts. -/
namespace Go.Proofs.YtfdneepgpekmiaaDoor
set_option linter.unusedVariables false
set_option linter.unusedSimpArgs false
set_option maxHeartbeats 8000000
open Go.RowKit
set_option maxRecDepth 4000

theorem rLast_no {p : Nat → Bool} : ∀ {n : Nat}, rLast p n < 0 → ∀ i, i < n → p i = false
  | 0, _, i, hi => absurd hi (Nat.not_lt_zero i)
  | n + 1, h, i, hi => by
    unfold rLast at h
    split at h
    · omega
    · rename_i hp
      by_cases e : i = n
      · rw [e]; simpa using hp
      · exact rLast_no h i (by omega)
theorem rLast_yes {p : Nat → Bool} : ∀ {n : Nat}, 0 ≤ rLast p n → p (rLast p n).toNat = true
  | 0, h => absurd h (by show ¬ (0 : Int) ≤ -1; omega)
  | n + 1, h => by
    unfold rLast at h ⊢
    split
    · rename_i hp; rw [Int.toNat_natCast]; exact hp
    · rename_i hp
      rw [if_neg hp] at h
      exact rLast_yes h

/-- What is handed out, said once. -/
structure DP (s : Crt) (r : RJ) (a : ActD) (I : Nat) : Prop where
  top : rTop r a.cl < a.tag
  lock : a.mlock ∉ s.held
  seq : 1 ≤ a.m.seq ∧ a.m.seq ≤ ((mAt r a.mline).length : Int)
  at_ : I = (mAt r a.mline).getD (a.m.seq - 1).toNat default
  m : (r.at I).m = bare a.m
  st : (r.post (r.at I)).st ≠ 2
  fin : (r.at I).fin = false
  del : (r.at I).del = a.m.again
  ahead : a.m.again = true ∨ ∀ j, j < (a.m.seq - 1).toNat → (r.at ((mAt r a.mline).getD j default)).del = true ∨ (r.post (r.at ((mAt r a.mline).getD j default))).st = 2

theorem st_of {s : Crt} {r : RJ} (h : Rel s r) {i : Nat} (hi : i < r.ms.length) : stOf s (toM (r.at i)) = (r.post (r.at i)).st := by
  unfold stOf
  rw [h.bs]
  show ((r.wait.map toB).getD (r.at i).post default).st = _
  rw [getD_map' toB (h.post i hi)]
  rfl
theorem line_parts {x : SeenD} {a : ActD} (h : x.line = a.mline) : x.m.pub = a.m.pub ∧ x.q = a.q ∧ x.m.key = a.m.key := ⟨congrArg LineK.pub h, congrArg LineK.q h, congrArg LineK.key h⟩
theorem last_at {s : Crt} {r : RJ} (h : Rel s r) (c : Int) : lastAt s c = rTop r c := by
  unfold lastAt rTop
  rw [h.top.1, h.top.2.1, h.top.2.2.1, h.top.2.2.2]

theorem deliv_iff {s : Crt} {r : RJ} (h : Rel s r) (a : ActD) : delivB s a = true ↔ DP s r a (dI s a) := by
  have eL : dL s a = mAt r a.mline := h.all _
  have eI : dI s a = (mAt r a.mline).getD (a.m.seq - 1).toNat default := by rw [dI, eL]
  have eX : dX s a = toM (r.at (dI s a)) := by rw [dX, h.ms, getD_map toM rfl]; rfl
  have eY : ∀ j, dY s a j = toM (r.at ((mAt r a.mline).getD j default)) := fun j => by rw [dY, eL, h.ms, getD_map toM rfl]; rfl
  obtain ⟨I, hI⟩ : ∃ I, I = dI s a := ⟨_, rfl⟩
  rw [← hI] at eI eX ⊢
  have n1 : dNo1 s a = false ↔ rTop r a.cl < a.tag ∧ a.mlock ∉ s.held ∧ 1 ≤ a.m.seq ∧ a.m.seq ≤ ((mAt r a.mline).length : Int) := by
    unfold dNo1
    rw [last_at h, eL]
    simp only [Bool.or_eq_false_iff, decide_eq_false_iff_not, Int.not_le, Int.not_lt]
    constructor
    · rintro ⟨⟨⟨h1, h2⟩, h3⟩, h4⟩; exact ⟨h1, h4, by omega, by omega⟩
    · rintro ⟨h1, h4, h2, h3⟩; exact ⟨⟨⟨h1, by omega⟩, by omega⟩, h4⟩
  have lt1 : 1 ≤ a.m.seq ∧ a.m.seq ≤ ((mAt r a.mline).length : Int) → I < r.ms.length := fun h1 => by
    rw [eI]; exact (mAt_mem.1 (getD_at (by omega))).1
  have n2 : I < r.ms.length → (dNo2 s a = false ↔ (r.at I).m = bare a.m ∧ (r.post (r.at I)).st ≠ 2 ∧ (r.at I).fin = false ∧ (r.at I).del = a.m.again) := fun hl => by
    unfold dNo2
    rw [eX, st_of h hl]
    simp only [Bool.or_eq_false_iff, Bool.not_eq_false', decide_eq_true_eq, beq_eq_false_iff_ne, bne_eq_false_iff_eq, and_assoc]
    exact Iff.rfl
  have n3 : I < r.ms.length → a.m.seq ≤ ((mAt r a.mline).length : Int) → (r.at I).del = a.m.again → (dNo3 s a = false ↔ (a.m.again = true ∨ ∀ j, j < (a.m.seq - 1).toNat → (r.at ((mAt r a.mline).getD j default)).del = true ∨ (r.post (r.at ((mAt r a.mline).getD j default))).st = 2)) := fun hl hs hd => by
    unfold dNo3
    rw [eX]
    show (!(r.at I).del && _) = false ↔ _
    rw [hd]
    cases ha : a.m.again with
    | true => simp
    | false =>
      rw [Bool.not_false, Bool.true_and, List.any_eq_false]
      constructor
      · intro h1
        refine .inr fun j hj => ?_
        have h2 := h1 j (List.mem_range.2 hj)
        unfold dWait at h2
        rw [eY, st_of h (mAt_mem.1 (getD_at (by omega))).1] at h2
        simp only [Bool.and_eq_true, Bool.not_eq_true', beq_eq_false_iff_ne, ne_eq, not_and] at h2
        cases h3 : (r.at ((mAt r a.mline).getD j default)).del with
        | true => exact .inl rfl
        | false => exact .inr (by simpa using h2 h3)
      · rintro (h1 | h1)
        · cases h1
        · intro j hj
          have hj := List.mem_range.1 hj
          unfold dWait
          rw [eY, st_of h (mAt_mem.1 (getD_at (by omega))).1]
          rcases h1 j hj with h2 | h2
          · show ¬ (!(r.at _).del && _) = true
            rw [h2]; simp
          · rw [h2]; simp
  constructor
  · intro hb
    unfold delivB at hb
    simp only [Bool.and_eq_true, Bool.not_eq_true'] at hb
    obtain ⟨h1, h2, h3⟩ := n1.1 hb.1.1
    have hl := lt1 h3
    obtain ⟨h4, h5, h6, h7⟩ := (n2 hl).1 hb.1.2
    exact ⟨h1, h2, h3, eI, h4, h5, h6, h7, (n3 hl h3.2 h7).1 hb.2⟩
  · rintro ⟨h1, h2, h3, -, h4, h5, h6, h7, h8⟩
    have hl := lt1 h3
    rw [delivB, n1.2 ⟨h1, h2, h3⟩, (n2 hl).2 ⟨h4, h5, h6, h7⟩, (n3 hl h3.2 h7).2 h8]
    rfl

theorem line_of {x : SeenD} {a : ActD} (hq : x.q = a.q) (hm : x.m = bare a.m) : x.line = a.mline := by
  unfold SeenD.line ActD.mline
  rw [hq, hm]
  rfl
theorem at_seq {s : Crt} {r : RJ} (h : Rel s r) {k : LineK} {i : Nat} (hi : i ∈ mAt r k) : ∃ j, j < (mAt r k).length ∧ (mAt r k).getD j default = i ∧ (r.at i).m.seq = (j : Int) + 1 := by
  obtain ⟨j, hj, e⟩ := List.getElem_of_mem hi
  refine ⟨j, hj, by rw [getD_get hj, e], ?_⟩
  have := h.seq k j hj
  rwa [getD_get hj, e] at this

theorem rdel_iff {s : Crt} {r : RJ} (h : Rel s r) (a : ActD) (hcl : a.cl = 0 ∨ a.cl = 1 ∨ a.cl = 2 ∨ a.cl = 3) : rDelB r a = true ↔ DP s r a (rK r a).toNat ∧ 0 ≤ rK r a := by
  have ht0 : 0 ≤ rTop r a.cl := by
    obtain ⟨t0, t1, t2, t3⟩ := h.top0
    rcases hcl with e | e | e | e <;> rw [e] <;> assumption
  have d1 : rD1 r a = false ↔ rTop r a.cl < a.tag := by
    unfold rD1
    simp only [Bool.or_eq_false_iff, decide_eq_false_iff_not]
    omega
  have d2 : rD2 r a = false ↔ a.mlock ∉ s.held := by
    unfold rD2
    rw [List.any_eq_false, h.held]
    constructor
    · rintro h1 ⟨i, hi, h2, h3⟩
      refine h1 i (List.mem_range.2 hi) ?_
      unfold SeenD.lock ActD.mlock at h3
      simp only [LockK.mk.injEq] at h3
      unfold rHeld
      rw [h3.1, h3.2, h2]
      simp
    · intro h1 i hi h2
      refine h1 ⟨i, List.mem_range.1 hi, ?_⟩
      unfold rHeld at h2
      simp only [Bool.and_eq_true, beq_iff_eq] at h2
      refine ⟨h2.2, ?_⟩
      unfold SeenD.lock ActD.mlock
      rw [h2.1.1, h2.1.2]
  have hit : ∀ i, rHit r a i = true ↔ (r.at i).q = a.q ∧ (r.at i).m = bare a.m ∧ (r.post (r.at i)).st ≠ 2 := fun i => by
    unfold rHit
    simp only [Bool.and_eq_true, beq_iff_eq, decide_eq_true_eq, bne_iff_ne, and_assoc]
  have hlt := rLast_lt (rHit r a) r.ms.length
  have hK : rK r a = rLast (rHit r a) r.ms.length := rfl
  -- a hit stands where its number says
  have hat : ∀ i, i < r.ms.length → rHit r a i = true → (1 ≤ a.m.seq ∧ a.m.seq ≤ ((mAt r a.mline).length : Int)) ∧ i = (mAt r a.mline).getD (a.m.seq - 1).toNat default := fun i hi h1 => by
    obtain ⟨h2, h3, -⟩ := (hit i).1 h1
    obtain ⟨j, hj, e1, e2⟩ := at_seq h (mAt_mem.2 ⟨hi, line_of h2 h3⟩)
    rw [h3] at e2
    have e3 : a.m.seq = (j : Int) + 1 := e2
    refine ⟨by omega, ?_⟩
    rw [e3, show ((j : Int) + 1 - 1).toNat = j by omega]
    exact e1.symm
  have d4 : rD4 r a = false ↔ (a.m.again = true ∨ ∀ j, j < (a.m.seq - 1).toNat → j < (mAt r a.mline).length → (r.at ((mAt r a.mline).getD j default)).del = true ∨ (r.post (r.at ((mAt r a.mline).getD j default))).st = 2) := by
    unfold rD4
    cases ha : a.m.again with
    | true => simp
    | false =>
      rw [Bool.not_false, Bool.true_and, List.any_eq_false]
      constructor
      · intro h1
        refine .inr fun j hj hj2 => ?_
        obtain ⟨g1, g2⟩ := mAt_mem.1 (getD_at hj2)
        have g3 := h.seq _ _ hj2
        have h2 := h1 _ (List.mem_range.2 g1)
        have g2 := line_parts g2
        unfold rAhead at h2
        rw [g2.1, g2.2.1, g2.2.2, g3] at h2
        have g4 : (j : Int) + 1 < a.m.seq := by omega
        rw [decide_eq_true g4] at h2
        simp only [beq_self_eq_true, Bool.and_self, Bool.true_and, Bool.and_eq_true, bne_iff_ne, Bool.not_eq_true'] at h2
        cases h3 : (r.at ((mAt r a.mline).getD j default)).del with
        | true => exact .inl rfl
        | false =>
          refine .inr (Classical.byContradiction fun h4 => h2 ⟨h4, h3⟩)
      · rintro (h1 | h1)
        · cases h1
        · intro i hi h2
          have hi := List.mem_range.1 hi
          unfold rAhead at h2
          simp only [Bool.and_eq_true, beq_iff_eq, decide_eq_true_eq, bne_iff_ne, Bool.not_eq_true'] at h2
          obtain ⟨⟨⟨⟨⟨q1, q2⟩, q3⟩, q4⟩, q5⟩, q6⟩ := h2
          have hl : (r.at i).line = a.mline := by unfold SeenD.line ActD.mline; rw [q1, q2, q3]
          obtain ⟨j, hj, e1, e2⟩ := at_seq h (mAt_mem.2 ⟨hi, hl⟩)
          rcases h1 j (by omega) hj with h3 | h3
          · rw [e1, q6] at h3; cases h3
          · rw [e1] at h3; exact q5 h3
  constructor
  · intro hb
    unfold rDelB at hb
    simp only [Bool.and_eq_true, Bool.not_eq_true'] at hb
    obtain ⟨⟨⟨b1, b2⟩, b3⟩, b4⟩ := hb
    unfold rD3 at b3
    simp only [Bool.or_eq_false_iff, decide_eq_false_iff_not, bne_eq_false_iff_eq] at b3
    have h0 : 0 ≤ rK r a := by omega
    have hhit : rHit r a (rK r a).toNat = true := rLast_yes h0
    have hl : (rK r a).toNat < r.ms.length := by omega
    obtain ⟨s1, s2⟩ := hat _ hl hhit
    obtain ⟨t1, t2, t3⟩ := (hit _).1 hhit
    refine ⟨⟨d1.1 b1, d2.1 b2, s1, s2, t2, t3, b3.1.2, b3.2.symm, ?_⟩, h0⟩
    rcases d4.1 b4 with c | c
    · exact .inl c
    · exact .inr fun j hj => c j hj (by omega)
  · rintro ⟨⟨h1, h2, h3, h4, h5, h6, h7, h8, h9⟩, h0⟩
    have e3 : rD3 r a = false := by
      rw [rD3, decide_eq_false (by omega), h7, h8]
      simp
    have e4 : rD4 r a = false := d4.2 (by
      rcases h9 with c | c
      · exact .inl c
      · exact .inr fun j hj _ => c j hj)
    rw [rDelB, d1.2 h1, d2.2 h2, e3, e4]
    rfl

theorem del_eq {s : Crt} {r : RJ} (h : Rel s r) (a : ActD) (hcl : a.cl = 0 ∨ a.cl = 1 ∨ a.cl = 2 ∨ a.cl = 3) : delivB s a = rDelB r a ∧ (rDelB r a = true → dI s a = (rK r a).toNat) := by
  have key : DP s r a (dI s a) → 0 ≤ rK r a ∧ (rK r a).toNat = dI s a := fun d => by
    have hmem := getD_at (l := mAt r a.mline) (j := (a.m.seq - 1).toNat) (by have := d.seq; omega)
    rw [← d.at_] at hmem
    obtain ⟨g1, g2⟩ := mAt_mem.1 hmem
    have hq : (r.at (dI s a)).q = a.q := congrArg LineK.q g2
    have hhit : rHit r a (dI s a) = true := by
      unfold rHit
      rw [hq, d.m]
      simp only [beq_self_eq_true, Bool.true_and, Bool.and_eq_true, bne_iff_ne]
      exact ⟨rfl, d.st⟩
    have h0 : 0 ≤ rK r a := by
      by_cases e : rK r a < 0
      · have := rLast_no e _ g1
        rw [this] at hhit; cases hhit
      · omega
    refine ⟨h0, ?_⟩
    have hl := rLast_lt (rHit r a) r.ms.length
    have hK : rK r a = rLast (rHit r a) r.ms.length := rfl
    have hy : rHit r a (rK r a).toNat = true := rLast_yes h0
    unfold rHit at hy
    simp only [Bool.and_eq_true, beq_iff_eq, decide_eq_true_eq] at hy
    obtain ⟨j, hj, e1, e2⟩ := at_seq h (mAt_mem.2 ⟨by omega, line_of hy.1.1 hy.1.2⟩)
    rw [hy.1.2] at e2
    have e3 : a.m.seq = (j : Int) + 1 := e2
    rw [d.at_, e3, show ((j : Int) + 1 - 1).toNat = j by omega]
    exact e1.symm
  have e : delivB s a = true ↔ rDelB r a = true := by
    rw [deliv_iff h, rdel_iff h a hcl]
    constructor
    · intro d
      obtain ⟨k1, k2⟩ := key d
      rw [k2]
      exact ⟨d, k1⟩
    · rintro ⟨d, h0⟩
      have : dI s a = (rK r a).toNat := by rw [dI, dL, h.all, d.at_]
      rw [this]
      exact d
  refine ⟨Bool.eq_iff_iff.2 e, fun hb => ((key ((deliv_iff h a).1 (e.2 hb))).2).symm⟩

theorem rel_del {s : Crt} {r : RJ} (h : Rel s r) (a : ActD) (hcl : a.cl = 0 ∨ a.cl = 1 ∨ a.cl = 2 ∨ a.cl = 3) (hb : rDelB r a = true) : Rel (delivS s a) (rDelS r a) := by
  obtain ⟨eB, eI⟩ := del_eq h a hcl
  have eI := eI hb
  obtain ⟨d, h0⟩ := (rdel_iff h a hcl).1 hb
  obtain ⟨I, hI⟩ : ∃ I, I = (rK r a).toNat := ⟨_, rfl⟩
  rw [← hI] at d eI
  have hIl : I < r.ms.length := by rw [hI]; exact (rdel_lt hb).2
  have hmem := getD_at (l := mAt r a.mline) (j := (a.m.seq - 1).toNat) (by have := d.seq; omega)
  rw [← d.at_] at hmem
  have hline := (mAt_mem.1 hmem).2
  have hq : (r.at I).q = a.q := congrArg LineK.q hline
  have hlk : (r.at I).lock = a.mlock := by unfold SeenD.lock ActD.mlock; rw [hq, d.m]; rfl
  obtain ⟨x, hx⟩ : ∃ x, x = rDelM r a := ⟨_, rfl⟩
  have hxe : x = { r.at I with del := true, held := true, ack := false } := by rw [hx, rDelM, ← hI]
  obtain ⟨r', hr'⟩ : ∃ r', r' = rDelS r a := ⟨_, rfl⟩
  rw [← hr']
  rw [rDelS, if_pos hb, ← hI, ← hx] at hr'
  have hwt : r'.wait = r.wait := by rw [hr']; rfl
  have hms : r'.ms = r.ms.set I x := by rw [hr']
  have htg : r'.tags = r.tags ++ [⟨a.cl, a.q, a.tag, I, 0⟩] := by rw [hr']
  have hat : ∀ i, r'.at i = if i = I then x else r.at i := fun i => by rw [RJ.at, hms, getD_set hIl]; rfl
  have hlen : r'.ms.length = r.ms.length := by rw [hms, List.length_set]
  have htl : r'.tags.length = r.tags.length + 1 := by rw [htg, List.length_append]; rfl
  have hgo : ∀ i, i < r.tags.length → r'.g i = r.g i := fun i hi => by rw [RJ.g, htg, getD_cat, if_pos hi]; rfl
  have hgn : r'.g r.tags.length = ⟨a.cl, a.q, a.tag, I, 0⟩ := by rw [RJ.g, htg, getD_cat, if_neg (by omega), Nat.sub_self]; rfl
  have hgc : ∀ i, i < r'.tags.length → i < r.tags.length ∨ i = r.tags.length := fun i hi => by omega
  have hm : ∀ i, (r'.at i).m = (r.at i).m ∧ (r'.at i).q = (r.at i).q ∧ (r'.at i).post = (r.at i).post := fun i => by
    rw [hat]
    by_cases e : i = I
    · rw [if_pos e, hxe, e]; exact ⟨rfl, rfl, rfl⟩
    · rw [if_neg e]; exact ⟨rfl, rfl, rfl⟩
  have hlin : ∀ i, (r'.at i).line = (r.at i).line ∧ (r'.at i).lock = (r.at i).lock := fun i => by
    unfold SeenD.line SeenD.lock
    rw [(hm i).1, (hm i).2.1]
    exact ⟨rfl, rfl⟩
  have hheld : ∀ i, i ≠ I → (r'.at i).held = (r.at i).held := fun i hi => by rw [hat, if_neg hi]
  have hheldI : (r'.at I).held = true := by rw [hat, if_pos rfl, hxe]
  have hmA : ∀ k, mAt r' k = mAt r k := fun k => mAt_same hlen (fun i _ => (hlin i).1) k
  have hnone : ∀ i, i < r.ms.length → (r.at i).held = true → (r.at i).lock ≠ a.mlock := fun i hi h1 h2 => d.lock ((h.held _).2 ⟨i, hi, h1, h2⟩)
  have hnotag : ∀ i, i < r.tags.length → (r.g i).tagk ≠ a.tagk := fun i hi e => by
    have h1 := h.tagT i hi
    have h2 : (r.g i).tag = a.tag := congrArg TagK.tag e
    have h3 : (r.g i).cl = a.cl := congrArg TagK.cl e
    rw [h2, h3] at h1
    have := d.top
    omega
  have htop : ∀ c, rTop r c ≤ rTop r' c ∧ rTop r' a.cl = a.tag := fun c => by
    have ht := d.top
    rw [hr']
    unfold rTop rSetTop at *
    simp only
    rcases hcl with e | e | e | e <;> rw [e] at ht ⊢ <;> simp at ht ⊢ <;> (repeat' split) <;> omega
  have hmd : s.ms.getD I default = toM (r.at I) := by rw [h.ms, getD_map toM rfl]; rfl
  have e1 : delivS s a = { setLast s a.cl a.tag with ms := s.ms.set I { s.ms.getD I default with del := true, ack := false }, held := a.mlock :: s.held, holds := (a.tagk, I) :: s.holds } := by
    rw [delivS, if_pos (by rw [eB]; exact hb), dX, eI]
  rw [e1]
  refine ⟨?_, ?_, fun k => ?_, fun k => ?_, fun k j hj => ?_, fun k => ?_, fun i hi => ?_, fun i hi => ?_, ?_, ?_, fun k => ?_, fun i j hi hj h1 h2 h3 => ?_, fun t m => ?_, fun t m => ?_, fun i j hi hj h1 => ?_, fun i hi => ?_, fun i hi => ?_, fun i hi h1 => ?_, fun i j hi hj h1 h2 h3 => ?_⟩
  · rw [hwt]; exact h.bs
  · show s.ms.set I _ = _
    rw [hms, List.map_set, h.ms]
    rw [h.ms] at hmd
    rw [hmd, hxe]
    rfl
  · show lkL s.bat k = _
    rw [h.bat]
    exact (wAt_same (by rw [hwt]) (fun i _ => by rw [RJ.w, hwt]; rfl) k).symm
  · rw [hmA]; exact h.all k
  · rw [hmA] at hj ⊢; rw [(hm _).1]; exact h.seq k j hj
  · rw [hwt, hmA]; exact h.last k
  · rw [hlen] at hi; rw [(hm i).1]; exact h.bare i hi
  · rw [hlen] at hi; rw [(hm i).2.2, hwt]; exact h.post i hi
  · rw [hr']
    show (setLast s a.cl a.tag).l0 = _ ∧ (setLast s a.cl a.tag).l1 = _ ∧ (setLast s a.cl a.tag).l2 = _ ∧ (setLast s a.cl a.tag).l3 = _
    unfold setLast rSetTop
    simp only
    rw [h.top.1, h.top.2.1, h.top.2.2.1, h.top.2.2.2]
    exact ⟨rfl, rfl, rfl, rfl⟩
  · rw [hr']
    have ht := d.top
    have h0' := h.top0
    unfold rTop at ht
    unfold rSetTop
    simp only
    rcases hcl with e | e | e | e <;> rw [e] at ht ⊢ <;> simp at ht ⊢ <;> omega
  · show k ∈ a.mlock :: s.held ↔ _
    rw [List.mem_cons, h.held, hlen]
    constructor
    · rintro (rfl | ⟨i, hi, h1, h2⟩)
      · exact ⟨I, hIl, hheldI, by rw [(hlin I).2, hlk]⟩
      · refine ⟨i, hi, ?_, by rw [(hlin i).2]; exact h2⟩
        by_cases e : i = I
        · rw [e]; exact hheldI
        · rw [hheld i e]; exact h1
    · rintro ⟨i, hi, h1, h2⟩
      rw [(hlin i).2] at h2
      by_cases e : i = I
      · rw [e, hlk] at h2; exact .inl h2.symm
      · rw [hheld i e] at h1; exact .inr ⟨i, hi, h1, h2⟩
  · rw [hlen] at hi hj
    rw [(hlin i).2, (hlin j).2] at h3
    by_cases ei : i = I
    · by_cases ej : j = I
      · rw [ei, ej]
      · rw [hheld j ej] at h2
        rw [ei, hlk] at h3
        exact absurd h3.symm (hnone j hj h2)
    · rw [hheld i ei] at h1
      by_cases ej : j = I
      · rw [ej, hlk] at h3
        exact absurd h3 (hnone i hi h1)
      · rw [hheld j ej] at h2
        exact h.heldU i j hi hj h1 h2 h3
  · show (if a.tagk = t then some I else lkT s.holds t) = some m ↔ _
    rw [htl]
    by_cases ht : a.tagk = t
    · rw [if_pos ht]
      constructor
      · intro e
        cases e
        exact ⟨r.tags.length, Nat.lt_succ_self _, by rw [hgn]; exact ht, by rw [hgn], by rw [hgn]⟩
      · rintro ⟨i, hi, h1, h2, h3⟩
        rcases hgc i (by omega) with h4 | h4
        · rw [hgo i h4] at h1; exact absurd (h1.trans ht.symm) (hnotag i h4)
        · rw [h4, hgn] at h3; rw [← h3]
    · rw [if_neg ht, h.holds]
      constructor
      · rintro ⟨i, hi, h1, h2, h3⟩
        exact ⟨i, by omega, by rw [hgo i hi]; exact h1, by rw [hgo i hi]; exact h2, by rw [hgo i hi]; exact h3⟩
      · rintro ⟨i, hi, h1, h2, h3⟩
        rcases hgc i (by omega) with h4 | h4
        · rw [hgo i h4] at h1 h2 h3; exact ⟨i, h4, h1, h2, h3⟩
        · rw [h4, hgn] at h1; exact absurd h1 ht
  · show lkT s.acks t = some m ↔ _
    rw [h.acks, htl]
    constructor
    · rintro ⟨i, hi, h1, h2, h3⟩
      exact ⟨i, by omega, by rw [hgo i hi]; exact h1, by rw [hgo i hi]; exact h2, by rw [hgo i hi]; exact h3⟩
    · rintro ⟨i, hi, h1, h2, h3⟩
      rcases hgc i (by omega) with h4 | h4
      · rw [hgo i h4] at h1 h2 h3; exact ⟨i, h4, h1, h2, h3⟩
      · rw [h4, hgn] at h2; exact absurd h2 (by dsimp only; decide)
  · rcases hgc i hi with h4 | h4
    · rcases hgc j hj with h5 | h5
      · rw [hgo i h4, hgo j h5] at h1; exact h.tagU i j h4 h5 h1
      · rw [hgo i h4, h5, hgn] at h1; exact absurd h1 (hnotag i h4)
    · rcases hgc j hj with h5 | h5
      · rw [h4, hgn, hgo j h5] at h1; exact absurd h1.symm (hnotag j h5)
      · rw [h4, h5]
  · rcases hgc i hi with h4 | h4
    · rw [hgo i h4]
      exact Int.le_trans (h.tagT i h4) (htop _).1
    · rw [h4, hgn]
      show a.tag ≤ rTop r' a.cl
      rw [(htop 0).2]
      exact Int.le_refl _
  · rw [hlen]
    rcases hgc i hi with h4 | h4
    · rw [hgo i h4, (hm _).2.1]; exact h.gm i h4
    · rw [h4, hgn]
      show I < _ ∧ (r'.at I).q = a.q
      rw [(hm I).2.1]
      exact ⟨hIl, hq⟩
  · rcases hgc i hi with h4 | h4
    · rw [hgo i h4] at h1 ⊢
      by_cases e : (r.g i).m = I
      · rw [e]; exact hheldI
      · rw [hheld _ e]; exact h.gh i h4 h1
    · rw [h4, hgn]; exact hheldI
  · have hno : ∀ i, i < r.tags.length → (r.g i).st = 0 → (r.g i).m ≠ I := fun i hi g1 g2 => by
      have g3 := h.gh i hi g1
      rw [g2] at g3
      exact hnone I hIl g3 hlk
    rcases hgc i hi with h4 | h4
    · rw [hgo i h4] at h1 h3
      rcases hgc j hj with h5 | h5
      · rw [hgo j h5] at h2 h3; exact h.gU i j h4 h5 h1 h2 h3
      · rw [h5, hgn] at h3; exact absurd h3 (hno i h4 h1)
    · rcases hgc j hj with h5 | h5
      · rw [hgo j h5] at h2 h3; rw [h4, hgn] at h3; exact absurd h3.symm (hno j h5 h2)
      · rw [h4, h5]

theorem rel_add {s : Crt} {r : RJ} (h : Rel s r) (a : ActD) : (rightJ s a).1 = (addJ r a).1 ∧ ((addJ r a).1 = true → Rel (rightJ s a).2 (addJ r a).2) := by
  unfold rightJ addJ
  by_cases h0 : argNoJ a = true
  · rw [if_pos h0, if_pos h0]; exact ⟨rfl, fun _ => h⟩
  rw [if_neg h0, if_neg h0]
  have hcl : a.cl = 0 ∨ a.cl = 1 ∨ a.cl = 2 ∨ a.cl = 3 := by
    rw [Bool.not_eq_true] at h0
    simp only [argNoJ, Bool.or_eq_false_iff, decide_eq_false_iff_not] at h0
    omega
  by_cases h1 : a.kind = 1
  · rw [if_pos h1, if_pos h1]
    obtain ⟨e1, e2⟩ := rel_pub h a
    exact ⟨by rw [e1], fun hb => e2 (by simpa using hb)⟩
  rw [if_neg h1, if_neg h1]
  by_cases h2 : a.kind = 2
  · rw [if_pos h2, if_pos h2]; exact rel_ans h a 1
  rw [if_neg h2, if_neg h2]
  by_cases h3 : a.kind = 3
  · rw [if_pos h3, if_pos h3]; exact rel_ans h a 2
  rw [if_neg h3, if_neg h3]
  by_cases h4 : a.kind = 4
  · rw [if_pos h4, if_pos h4]; exact ⟨(del_eq h a hcl).1, rel_del h a hcl⟩
  rw [if_neg h4, if_neg h4]
  by_cases h5 : a.kind = 5
  · rw [if_pos h5, if_pos (by rw [isLeave, h5]; rfl)]
    exact ⟨holds_iff h a, fun hb => rel_leave h a hb 1 (.inl ⟨rfl, h5⟩)⟩
  rw [if_neg h5]
  by_cases h7 : a.kind = 7 ∨ a.kind = 8
  · rw [if_pos h7, if_pos (by unfold isLeave; rcases h7 with e | e <;> rw [e] <;> rfl)]
    exact ⟨holds_iff h a, fun hb => rel_leave h a hb 2 (.inr ⟨rfl, h5⟩)⟩
  rw [if_neg h7, if_neg (by unfold isLeave; simpa [h5] using h7)]
  by_cases h6 : a.kind = 6
  · rw [if_pos h6, if_pos h6]
    exact ⟨acks_iff h a, fun hb => rel_settled h a hb⟩
  rw [if_neg h6, if_neg h6]
  exact ⟨rfl, fun _ => h⟩

theorem hear_eq : ∀ {l : List ActD} {s : Crt} {r : RJ} (n : Int), Rel s r → (hearJ s l n).1 = (hearR r l n).1 ∧ ((hearR r l n).1 = 0 ∨ n < (hearR r l n).1) ∧ ((hearR r l n).1 = 0 → 0 ≤ n → Rel (hearJ s l n).2 (hearR r l n).2)
  | [], s, r, n, h => ⟨rfl, .inl rfl, fun _ _ => h⟩
  | a :: t, s, r, n, h => by
    obtain ⟨e1, e2⟩ := rel_add h a
    unfold hearJ hearR
    rw [e1]
    by_cases hb : (addJ r a).1 = true
    · rw [if_pos hb, if_pos hb]
      obtain ⟨g1, g2, g3⟩ := hear_eq (l := t) (n + 1) (e2 hb)
      exact ⟨g1, by omega, fun h1 h2 => g3 h1 (by omega)⟩
    · rw [if_neg hb, if_neg hb]
      exact ⟨rfl, .inr (by show n < n + 1; omega), fun h1 h2 => absurd h1 (by show ¬ n + 1 = 0; omega)⟩
theorem check_same (l : List ActD) : checkJ l = rcheckJ l := (hear_eq (l := l) 0 rel0).1
theorem open_same (l : List ActD) : openJ l = ropenJ l := by
  obtain ⟨e1, -, e3⟩ := hear_eq (l := l) 0 rel0
  unfold openJ ropenJ
  rw [e1]
  by_cases h0 : (hearR rj0 l 0).1 = 0
  · rw [if_pos h0, if_pos h0]
    have h := e3 h0 (Int.le_refl _)
    obtain ⟨s, hs⟩ : ∃ s, s = (hearJ crt0 l 0).2 := ⟨_, rfl⟩
    obtain ⟨r, hr⟩ : ∃ r, r = (hearR rj0 l 0).2 := ⟨_, rfl⟩
    rw [← hs, ← hr] at h ⊢
    rw [h.ms, List.filter_map, List.map_map]
    have : r.ms.filter (isOpenJ s ∘ toM) = r.ms.filter (isOpenR r) := List.filter_congr fun x hx => by
      obtain ⟨i, hi, e⟩ := List.getElem_of_mem hx
      have hx' : x = r.at i := by rw [RJ.at, getD_get hi, e]
      show isOpenJ s (toM x) = isOpenR r x
      unfold isOpenJ isOpenR
      rw [hx', st_of h hi]
      rfl
    rw [this]
    rfl
  · rw [if_neg h0, if_neg h0]
end Go.Proofs.YtfdneepgpekmiaaDoor
