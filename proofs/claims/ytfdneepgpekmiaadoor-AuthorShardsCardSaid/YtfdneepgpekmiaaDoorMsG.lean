/- Texts of this proof, laid together: AsL, AsM, AsO, AsP. -/
import Derived.Test.YtfdneepgpekmiaaDoorMsE
import Derived.Test.YtfdneepgpekmiaaDoorMsF
import Derived.Test.YtfdneepgpekmiaaDoorMjC
/- AuthorShards, in plain words. -/
namespace Go.Proofs.YtfdneepgpekmiaaDoor
set_option linter.unusedVariables false
set_option linter.unusedSimpArgs false
set_option maxHeartbeats 8000000
open Go.RowKit
set_option maxRecDepth 4000

def ka : ByteArray := ⟨#[97]⟩
def kbb : ByteArray := ⟨#[98]⟩
theorem ka_ne : ka ≠ kbb := by decide
def hd0 (o : OutD) : Msg := o.l.getD 0 default
structure Ob (o : OutD) : Prop where
  q : o.queue = 0
  row : mayRow o.l = true
  pub : (hd0 o).pub = 2
  key : o.key0 = ka ∨ o.key0 = kbb
  len : o.l.length ≤ 3
def Chain : Int → List OutD → Int → Prop
  | p, [], z => p = z
  | p, o :: t, z => (hd0 o).seq = p + 1 ∧ Chain (p + o.l.length) t z
def wtg (l : List OutD) (c : ByteArray) : List OutD := l.filter fun o => o.key0 == c
theorem Chain.le : ∀ {l : List OutD} {p z : Int}, Chain p l z → p ≤ z
  | [], p, z, h => by have : p = z := h; omega
  | o :: t, p, z, h => by have := Chain.le h.2; omega
theorem Chain.snoc : ∀ {l : List OutD} {p z : Int} {o : OutD}, Chain p l z → (hd0 o).seq = z + 1 → Chain p (l ++ [o]) (z + o.l.length)
  | [], p, z, o, h, ho => by
    have : p = z := h
    subst this
    exact ⟨ho, rfl⟩
  | a :: t, p, z, o, h, ho => ⟨h.1, Chain.snoc h.2 ho⟩

structure AS (A : AuD) (s : Shard) (p0 : ByteArray → Int) : Prop where
  pub : A.pub = 2
  obs : ∀ o ∈ A.l, Ob o
  pos : ∀ c, 0 ≤ p0 c
  chain : ∀ c, (c = ka ∨ c = kbb) → Chain (p0 c) (wtg A.l c) (lastSeq A.seqs 0 c)
  may : May s
  opn : s.frozen = false
  held : s.held = []
  at_ : ∀ c, (c = ka ∨ c = kbb) → lastSeq s.marks 2 c = p0 c ∨ ∃ o t, wtg A.l c = o :: t ∧ lastSeq s.marks 2 c = p0 c + o.l.length
  ready : (s.ready.length : Int) = lastSeq s.marks 2 ka + lastSeq s.marks 2 kbb
  few : (s.marks.length : Int) ≤ (if 0 < lastSeq s.marks 2 ka then 1 else 0) + (if 0 < lastSeq s.marks 2 kbb then 1 else 0)
  tot : lastSeq A.seqs 0 ka + lastSeq A.seqs 0 kbb ≤ 30

theorem wtg_app (a b : List OutD) (c : ByteArray) : wtg (a ++ b) c = wtg a c ++ wtg b c := List.filter_append ..
theorem wtg_cons (o : OutD) (t : List OutD) (c : ByteArray) : wtg (o :: t) c = if o.key0 = c then o :: wtg t c else wtg t c := by
  unfold wtg
  rw [List.filter_cons]
  by_cases h : o.key0 = c
  · rw [if_pos h, if_pos (by simpa using h)]
  · rw [if_neg h, if_neg (by simpa using h)]
theorem first_wtg {l : List OutD} {i : Nat} (hi : i < l.length) (hf : firstB l i = true) (hq : ∀ o ∈ l, o.queue = 0) : wtg l (l.getD i default).key0 = l.getD i default :: wtg (l.drop (i + 1)) (l.getD i default).key0 ∧ ∀ c, wtg (l.eraseIdx i) c = if c = (l.getD i default).key0 then wtg (l.drop (i + 1)) c else wtg l c := by
  obtain ⟨o, ho⟩ : ∃ o, o = l.getD i default := ⟨_, rfl⟩
  rw [← ho]
  have ho' : o = l[i] := by rw [ho, getD_get hi]
  have hd : l.drop i = o :: l.drop (i + 1) := by rw [List.drop_eq_getElem_cons hi, ho']
  have hno : wtg (l.take i) o.key0 = [] := by
    unfold wtg
    rw [List.filter_eq_nil_iff]
    intro x hx hk
    obtain ⟨j, hj, hji, rfl⟩ := mem_take hx
    have h1 := List.all_eq_true.1 hf j (List.mem_range.2 hji)
    unfold sameB at h1
    rw [getD_get hj, ← ho, hq _ (List.getElem_mem hj), ho', hq _ (List.getElem_mem hi), ← ho', eq_of_beq hk] at h1
    simp at h1
  have hl : ∀ c, wtg l c = wtg (l.take i) c ++ wtg (o :: l.drop (i + 1)) c := fun c => by
    rw [← hd, ← wtg_app, List.take_append_drop]
  constructor
  · rw [hl, hno, List.nil_append, wtg_cons, if_pos rfl]
  · intro c
    rw [List.eraseIdx_eq_take_drop_succ, wtg_app]
    by_cases hc : c = o.key0
    · rw [if_pos hc, hc, hno, List.nil_append]
    · rw [if_neg hc, hl, wtg_cons, if_neg (fun e => hc e.symm)]

theorem AS.p_le {A : AuD} {s : Shard} {p0 : ByteArray → Int} (h : AS A s p0) {c : ByteArray} (hc : c = ka ∨ c = kbb) : 0 ≤ lastSeq s.marks 2 c ∧ lastSeq s.marks 2 c ≤ lastSeq A.seqs 0 c ∧ p0 c ≤ lastSeq s.marks 2 c := by
  have hp := h.pos c
  have hch := h.chain c hc
  rcases h.at_ c hc with e | ⟨o, t, e1, e2⟩
  · rw [e]; exact ⟨hp, hch.le, Int.le_refl _⟩
  · rw [e1] at hch
    have := hch.2.le
    omega

/-- A batch that is the first of its key is taken, or known. -/
theorem AS.put {A : AuD} {s : Shard} {p0 : ByteArray → Int} (h : AS A s p0) {i : Nat} (hi : i < A.l.length) (hf : firstB A.l i = true) {o : OutD} (ho : o = A.l.getD i default) :
    (putE s o.l = 0 ∨ putE s o.l = 8) ∧ AS A (if putE s o.l = 0 then putS s o.l else s) p0 ∧ lastSeq (if putE s o.l = 0 then putS s o.l else s).marks 2 o.key0 = p0 o.key0 + o.l.length := by
  have hm : o ∈ A.l := by rw [ho, getD_get hi]; exact List.getElem_mem _
  obtain ⟨o1, o2, o3, o4, o5⟩ := h.obs o hm
  have hw := (first_wtg hi hf fun x hx => (h.obs x hx).q).1
  rw [← ho] at hw
  have hch := h.chain _ o4
  rw [hw] at hch
  obtain ⟨c1, c2⟩ := hch
  have hrl := row_len o2
  obtain ⟨l1, l2, l3, l4⟩ := lastMsg_eq o2
  have hpa := h.p_le (c := ka) (.inl rfl)
  have hpb := h.p_le (c := kbb) (.inr rfl)
  have htot := h.tot
  have hrd := h.ready
  have hfew := h.few
  have hml : s.marks.length ≤ 2 := by
    have : ∀ (a b : Prop) [Decidable a] [Decidable b], ((if a then 1 else 0) + (if b then 1 else 0) : Int) ≤ 2 := fun a b _ _ => by split <;> split <;> omega
    have := this (0 < lastSeq s.marks 2 ka) (0 < lastSeq s.marks 2 kbb)
    omega
  have hk : (o.l.getD 0 default).key = o.key0 := rfl
  have hp : (o.l.getD 0 default).pub = 2 := o3
  have hs0 : (o.l.getD 0 default).seq = p0 o.key0 + 1 := c1
  rw [hs0] at l4
  have h1 : lastSeq s.marks 2 o.key0 = p0 o.key0 ∨ lastSeq s.marks 2 o.key0 = p0 o.key0 + o.l.length := by
    rcases h.at_ _ o4 with e | ⟨o', t, e1, e2⟩
    · exact .inl e
    · rw [hw] at e1
      cases e1
      exact .inr e2
  rcases h1 with hP | hP
  · have hE : putE s o.l = 0 := by
      rw [putE_val h.may o2 (by rw [hp, hk, hP, hs0]; omega) h.opn, if_neg]
      rw [h.held]
      simp only [List.length_nil]
      rintro (e | e)
      · omega
      · omega
    have hok := putE_zero hE
    have hmk := putS_marks o2 (s := s)
    have hnew : ∀ c, lastSeq (putS s o.l).marks 2 c = if c = o.key0 then p0 o.key0 + o.l.length else lastSeq s.marks 2 c := fun c => by
      rw [hmk, putM_last h.may.apart]
      by_cases hc : c = o.key0
      · rw [if_pos hc, if_pos ⟨by rw [l2, hp], by rw [l3, hk, hc]⟩]
        simp only
        omega
      · rw [if_neg hc, if_neg]
        rintro ⟨-, e⟩
        rw [l3, hk] at e
        exact hc e.symm
    rw [if_pos hE]
    refine ⟨.inl hE, ⟨h.pub, h.obs, h.pos, h.chain, may_put hok, h.opn, h.held, fun c hc => ?_, ?_, ?_, h.tot⟩, ?_⟩
    · rw [hnew]
      by_cases hc' : c = o.key0
      · rw [if_pos hc', hc']
        exact .inr ⟨o, _, hw, rfl⟩
      · rw [if_neg hc']
        exact h.at_ c hc
    · show ((s.ready ++ o.l).length : Int) = _
      rw [List.length_append, hnew, hnew]
      rcases o4 with e | e
      · rw [if_pos e.symm, if_neg (by rw [e]; exact ka_ne.symm)]
        rw [e] at hP
        rw [e]
        omega
      · rw [if_neg (by rw [e]; exact ka_ne), if_pos e.symm]
        rw [e] at hP
        rw [e]
        omega
    · rw [hmk, putM_len, ← hmk, hnew, hnew]
      have hno : markAt s.marks (lastMsg o.l).pub (lastMsg o.l).key < 0 → p0 o.key0 = 0 := fun e => by
        rw [← hP]
        have := last_none (markAt_neg.1 e)
        rwa [l2, hp, l3, hk] at this
      have hpos := h.pos o.key0
      have hle : (1 : Int) ≤ o.l.length := by omega
      rcases o4 with e | e
      · rw [if_pos e.symm, if_neg (c := kbb = o.key0) (by rw [e]; exact ka_ne.symm), if_pos (show 0 < p0 o.key0 + (o.l.length : Int) by omega)]
        rw [e] at hP hno hpos
        by_cases hz : markAt s.marks (lastMsg o.l).pub (lastMsg o.l).key < 0
        · simp only [if_pos hz]
          have := hno hz
          rw [if_neg (show ¬ 0 < lastSeq s.marks 2 ka by omega)] at hfew
          omega
        · simp only [if_neg hz]
          split at hfew <;> omega
      · rw [if_neg (c := ka = o.key0) (by rw [e]; exact ka_ne), if_pos e.symm, if_pos (show 0 < p0 o.key0 + (o.l.length : Int) by omega)]
        rw [e] at hP hno hpos
        by_cases hz : markAt s.marks (lastMsg o.l).pub (lastMsg o.l).key < 0
        · simp only [if_pos hz]
          have := hno hz
          rw [if_neg (c := 0 < lastSeq s.marks 2 kbb) (by omega)] at hfew
          omega
        · simp only [if_neg hz]
          have : ∀ (b : Prop) [Decidable b], (if b then 1 else 0 : Int) ≤ 1 := fun b _ => by split <;> omega
          have := this (0 < lastSeq s.marks 2 kbb)
          omega
    · rw [hnew, if_pos rfl]
  · have hE : putE s o.l = 8 := by
      unfold putE
      dsimp only
      rw [lastOf_eq h.may.apart, (may_iff s).2 h.may, o2, hp, hk, hP]
      rw [if_neg (by simp), if_pos (by
        rw [decide_eq_true_eq]
        show p0 o.key0 + (o.l.length : Int) ≥ (lastMsg o.l).seq
        omega)]
    rw [if_neg (by rw [hE]; decide)]
    exact ⟨.inr hE, h, hP⟩
end Go.Proofs.YtfdneepgpekmiaaDoor

/- AuthorShards: telling, publishing, in plain words. -/
namespace Go.Proofs.YtfdneepgpekmiaaDoor
set_option linter.unusedVariables false
set_option linter.unusedSimpArgs false
set_option maxHeartbeats 8000000
open Go.RowKit
set_option maxRecDepth 4000

theorem AS.told {A : AuD} {s : Shard} {p0 : ByteArray → Int} (h : AS A s p0) {i : Nat} (hi : i < A.l.length) (hf : firstB A.l i = true) {o : OutD} (ho : o = A.l.getD i default) (hP : lastSeq s.marks 2 o.key0 = p0 o.key0 + o.l.length) {e : Int} (he : e = 0 ∨ e = 8) :
    toldE A 0 o.key0 (lastM o).seq e = 0 ∧ (toldS A 0 o.key0 (lastM o).seq e).l = A.l.eraseIdx i ∧ (toldS A 0 o.key0 (lastM o).seq e).seqs = A.seqs ∧ AS (toldS A 0 o.key0 (lastM o).seq e) s (fun c => if c = o.key0 then p0 c + o.l.length else p0 c) := by
  have hm : o ∈ A.l := by rw [ho, getD_get hi]; exact List.getElem_mem _
  obtain ⟨o1, o2, o3, o4, o5⟩ := h.obs o hm
  obtain ⟨hw, hwe⟩ := first_wtg hi hf fun x hx => (h.obs x hx).q
  rw [← ho] at hw hwe
  have hc0 : codeA e = 0 := by rcases he with rfl | rfl <;> decide
  have hplc : i ∈ plcL A.l A.l.length := List.mem_filter.2 ⟨List.mem_range.2 hi, hf⟩
  obtain ⟨k0, hk0, hk0e⟩ := List.getElem_of_mem hplc
  have hlenI : (plcI A.l A.l.length).length = (plcL A.l A.l.length).length := by simp [plcI]
  have hyes : toldB A.l 0 o.key0 (lastM o).seq i = true := by
    unfold toldB
    rw [← ho, o1]
    simp
  have hat : 0 ≤ atA A 0 o.key0 (lastM o).seq ∧ placeA A 0 o.key0 (lastM o).seq = i := by
    unfold placeA atA
    rcases pidx_cases (fun i => toldB A.l 0 o.key0 (lastM o).seq ((plcI A.l A.l.length).getD i default).toNat) (plcI A.l A.l.length).length with ⟨h1, h2⟩ | ⟨k, hk, h1, h2, h3⟩
    · have := h2 k0 (by omega)
      rw [plcI_at hk0, hk0e, Int.toNat_natCast, hyes] at this
      cases this
    · rw [h3]
      refine ⟨by omega, ?_⟩
      rw [hlenI] at hk
      rw [Int.toNat_natCast, plcI_at hk, Int.toNat_natCast]
      rw [plcI_at hk, Int.toNat_natCast] at h1
      obtain ⟨j, hj⟩ : ∃ j, j = (plcL A.l A.l.length)[k] := ⟨_, rfl⟩
      rw [← hj] at h1 ⊢
      have hjm : j ∈ plcL A.l A.l.length := by rw [hj]; exact List.getElem_mem _
      obtain ⟨hjl, hjf⟩ := List.mem_filter.1 hjm
      have hjl := List.mem_range.1 hjl
      unfold toldB at h1
      simp only [Bool.and_eq_true, beq_iff_eq] at h1
      have hiq : (A.l.getD i default).queue = 0 := by rw [← ho]; exact o1
      have hsame : ∀ a b, (A.l.getD a default).queue = 0 → (A.l.getD b default).queue = 0 → (A.l.getD a default).key0 = o.key0 → (A.l.getD b default).key0 = o.key0 → sameB A.l a b = true := fun a b q1 q2 k1 k2 => by
        unfold sameB
        rw [q1, q2, k1, k2]
        simp
      have hik : (A.l.getD i default).key0 = o.key0 := by rw [← ho]
      rcases Nat.lt_trichotomy j i with hlt | heq | hgt
      · have h4 := List.all_eq_true.1 hf j (List.mem_range.2 hlt)
        rw [hsame j i h1.1.1 hiq h1.1.2 hik] at h4
        cases h4
      · exact heq
      · have h4 := List.all_eq_true.1 hjf i (List.mem_range.2 hgt)
        rw [hsame i j hiq h1.1.1 hik h1.1.2] at h4
        cases h4
  have hS : toldS A 0 o.key0 (lastM o).seq e = { A with l := A.l.eraseIdx i } := by
    rw [toldS, if_neg (by rw [hc0]; rintro (e | e) <;> omega), hat.2]
  refine ⟨by rw [toldE, if_neg (by omega), hc0], by rw [hS], by rw [hS], ?_⟩
  rw [hS]
  refine ⟨h.pub, fun x hx => h.obs x (List.mem_of_mem_eraseIdx hx), fun c => ?_, fun c hc => ?_, h.may, h.opn, h.held, fun c hc => ?_, h.ready, h.few, h.tot⟩
  · have := h.pos c
    split <;> omega
  · have hch := h.chain c hc
    show Chain _ (wtg (A.l.eraseIdx i) c) (lastSeq A.seqs 0 c)
    rw [hwe]
    by_cases hcc : c = o.key0
    · subst hcc
      rw [if_pos rfl, if_pos rfl]
      rw [hw] at hch
      exact hch.2
    · rw [if_neg hcc, if_neg hcc]
      exact hch
  · show lastSeq s.marks 2 c = (if c = o.key0 then p0 c + o.l.length else p0 c) ∨ ∃ o' t, wtg (A.l.eraseIdx i) c = o' :: t ∧ lastSeq s.marks 2 c = (if c = o.key0 then p0 c + o.l.length else p0 c) + o'.l.length
    by_cases hcc : c = o.key0
    · rw [if_pos hcc, hcc]
      exact .inl hP
    · rw [if_neg hcc, hwe, if_neg hcc]
      exact h.at_ c hc

theorem AS.publish {A : AuD} {s : Shard} {p0 : ByteArray → Int} (h : AS A s p0) {c : ByteArray} (hc : c = ka ∨ c = kbb) {m : Nat} (hm : 1 ≤ m ∧ m ≤ 3) (hl : A.l.length ≤ 12) (ht : lastSeq A.seqs 0 ka + lastSeq A.seqs 0 kbb + m ≤ 30) :
    pubE A 0 c bB m = 0 ∧ AS (pubS A 0 c bB m) s p0 ∧ (pubS A 0 c bB m).l.length = A.l.length + 1 ∧ (∀ c', lastSeq (pubS A 0 c bB m).seqs 0 c' = if c = c' then lastSeq A.seqs 0 c + m else lastSeq A.seqs 0 c') := by
  have hch := h.chain c hc
  have hpos := h.pos c
  have hle := hch.le
  have hpa := h.p_le (c := ka) (.inl rfl)
  have hpb := h.p_le (c := kbb) (.inr rfl)
  have hcs : c.size = 1 := by rcases hc with rfl | rfl <;> rfl
  have hLc : lastSeq A.seqs 0 c ≤ 30 := by rcases hc with rfl | rfl <;> omega
  have hmay : ∀ i, i < m → mayMsg (msgA A 0 c bB m i) = true := fun i hi => by
    have hb : (bodyA bB m i).size ≤ 3 := by
      unfold bodyA
      split
      · have := numT_size (i := (i : Int)) (by omega) (by omega)
        rw [ByteArray.size_append, show bB.size = 1 from rfl]
        omega
      · decide
    unfold mayMsg msgA
    simp only [Bool.and_eq_true, decide_eq_true_eq, h.pub, hcs]
    omega
  have hE : pubE A 0 c bB m = 0 := by
    unfold pubE
    rw [if_neg (by unfold argA; simp only [Bool.or_eq_true, decide_eq_true_eq]; omega), if_neg, if_neg (by omega)]
    rw [Bool.not_eq_false, List.all_eq_true]
    intro i hi
    have := List.mem_range.1 hi
    exact hmay i (by omega)
  have hS : pubS A 0 c bB m = ⟨A.pub, A.seqs ++ [⟨0, c, lastSeq A.seqs 0 c + m⟩], A.l ++ [⟨0, msgsA A 0 c bB m m⟩]⟩ := by
    rw [pubS, if_pos hE, Int.toNat_natCast]
  have hlast : ∀ c', lastSeq (pubS A 0 c bB m).seqs 0 c' = if c = c' then lastSeq A.seqs 0 c + m else lastSeq A.seqs 0 c' := fun c' => by
    rw [hS]
    show lastSeq (A.seqs ++ [_]) 0 c' = _
    rw [lastSeq_app]
    by_cases e : c = c'
    · rw [if_pos e, if_pos (by simp [e])]
    · rw [if_neg e, if_neg (by simp [e])]
  obtain ⟨o, ho⟩ : ∃ o : OutD, o = ⟨0, msgsA A 0 c bB m m⟩ := ⟨_, rfl⟩
  have hol : o.l = msgsA A 0 c bB m m := by rw [ho]
  have hlen : o.l.length = m := by rw [hol]; exact msgsA_len ..
  have hget : ∀ i, i < m → o.l.getD i default = msgA A 0 c bB m i := fun i hi => by
    rw [hol, msgsA, List.getD_eq_getElem?_getD, List.getElem?_map, List.getElem?_range hi]
    rfl
  have h0 := hget 0 (by omega)
  have hkey : o.key0 = c := by rw [OutD.key0, h0]; rfl
  have hrow : mayRow o.l = true := by
    unfold mayRow
    rw [Bool.and_eq_true, hlen]
    refine ⟨by simp only [Bool.not_eq_true', Bool.or_eq_false_iff, decide_eq_false_iff_not]; omega, List.all_eq_true.2 fun k hk => ?_⟩
    have hk := List.mem_range.1 hk
    unfold rowE
    rw [hget k hk, h0, hmay k hk]
    cases k with
    | zero => simp [msgA]
    | succ k =>
      rw [show k + 1 - 1 = k by omega, hget k (by omega)]
      simp only [msgA, Bool.not_false, Bool.true_and, beq_self_eq_true, Bool.and_self, Bool.or_eq_true, beq_iff_eq]
      right
      omega
  have hob : Ob o := ⟨by rw [ho], hrow, by rw [hd0, h0]; exact h.pub, by rw [hkey]; exact hc, by omega⟩
  have hwt : ∀ c', wtg (A.l ++ [o]) c' = if c = c' then wtg A.l c' ++ [o] else wtg A.l c' := fun c' => by
    rw [wtg_app, wtg_cons, hkey]
    by_cases e : c = c'
    · rw [if_pos e, if_pos e]; rfl
    · rw [if_neg e, if_neg e]; exact List.append_nil _
  have hSl : (pubS A 0 c bB m).l = A.l ++ [o] := by rw [hS, ho]
  refine ⟨hE, ⟨by rw [hS]; exact h.pub, fun x hx => ?_, h.pos, fun c' hc' => ?_, h.may, h.opn, h.held, fun c' hc' => ?_, h.ready, h.few, ?_⟩, by rw [hSl, List.length_append]; rfl, hlast⟩
  · rw [hSl] at hx
    rcases List.mem_append.1 hx with hx | hx
    · exact h.obs x hx
    · rw [List.mem_singleton] at hx
      subst hx
      exact hob
  · rw [hSl, hwt, hlast]
    by_cases e : c = c'
    · subst e
      rw [if_pos rfl, if_pos rfl]
      have := hch.snoc (o := o) (by rw [hd0, h0]; show lastSeq A.seqs 0 c + 1 + ((0 : Nat) : Int) = _; omega)
      rwa [hlen] at this
    · rw [if_neg e, if_neg e]
      exact h.chain c' hc'
  · rcases h.at_ c' hc' with e | ⟨o', t, e1, e2⟩
    · exact .inl e
    · refine .inr ⟨o', if c = c' then t ++ [o] else t, ?_, e2⟩
      rw [hSl, hwt, e1]
      split <;> rfl
  · rw [hlast, hlast]
    rcases hc with rfl | rfl
    · rw [if_pos rfl, if_neg ka_ne]; omega
    · rw [if_neg ka_ne.symm, if_pos rfl]; omega

theorem AS.begin : AS ⟨2, [], []⟩ ⟨false, 1, [], [], []⟩ (fun _ => 0) := by
  refine ⟨rfl, fun x hx => (by cases hx), fun c => Int.le_refl _, fun c _ => rfl, may_new, rfl, rfl, fun c _ => .inl rfl, rfl, by decide, by decide⟩
theorem AS.done {A : AuD} {s : Shard} {p0 : ByteArray → Int} (h : AS A s p0) (hl : A.l = []) : (s.ready.length : Int) = lastSeq A.seqs 0 ka + lastSeq A.seqs 0 kbb ∧ lastSeq s.marks 2 ka = lastSeq A.seqs 0 ka ∧ lastSeq s.marks 2 kbb = lastSeq A.seqs 0 kbb := by
  have key : ∀ c, (c = ka ∨ c = kbb) → lastSeq s.marks 2 c = lastSeq A.seqs 0 c := fun c hc => by
    have hch := h.chain c hc
    rw [hl] at hch
    have e : p0 c = lastSeq A.seqs 0 c := hch
    rcases h.at_ c hc with e' | ⟨o, t, e1, -⟩
    · rw [e', e]
    · rw [hl] at e1
      cases e1
  have h1 := key ka (.inl rfl)
  have h2 := key kbb (.inr rfl)
  exact ⟨by rw [h.ready, h1, h2], h1, h2⟩
end Go.Proofs.YtfdneepgpekmiaaDoor

/- AuthorShards: operations that come in, the reference's Last. -/
namespace Go.Proofs.YtfdneepgpekmiaaDoor
set_option linter.unusedVariables false
set_option linter.unusedSimpArgs false
set_option maxHeartbeats 8000000
open Go.RowKit
set_option maxRecDepth 8000

structure OpA where
  kind : Int
  queue : Int
  key : Int
  many : Int
  n : Int
  code : Int
  body : ByteArray
instance : Inhabited OpA := ⟨⟨0, 0, 0, 0, 0, 0, ByteArray.empty⟩⟩
def OpA.cells (o : OpA) : List AV := [.v (.int .i64 o.kind), .v (.int .i64 o.queue), .v (.int .i64 o.key), .v (.int .i64 o.many), .v (.int .i64 o.n), .v (.int .i64 o.code), .v (.string o.body)]
def OpA.ok (o : OpA) : Prop := fitI o.kind
def opsA (l : List OpA) : AV := .lst 7 l.length (gOf OpA.cells l)
theorem u_int : Tryd.prog.underlying 3 = some (.int .i64) := by kernel_rfl
theorem u_str : Tryd.prog.underlying 9 = some .string := by kernel_rfl
theorem r_int : RdP Tryd.prog 3 (fun z : Int => [.v (.int .i64 z)]) fitI := (rd_int u_int).map id (fun _ => rfl) fun _ h => wf_fit h
theorem r_str : RdP Tryd.prog 9 (fun z : ByteArray => [.v (.string z)]) fitS := (rd_str u_str).map id (fun _ => rfl) fun d h => by have h : d.size ≤ 2 ^ 63 - 1 := h; unfold fitS; simp only [id]; omega
theorem rd_opA : RdP Tryd.prog 32 OpA.cells OpA.ok :=
  (rd_struct (T := tt) tt_ok rfl rfl rfl (rdf_cons r_int (rdf_cons r_int (rdf_cons r_int (rdf_cons r_int (rdf_cons r_int (rdf_cons r_int (rdf_cons r_str rdf_nil)))))))).map (fun d => ⟨d.1, d.2.1, d.2.2.1, d.2.2.2.1, d.2.2.2.2.1, d.2.2.2.2.2.1, d.2.2.2.2.2.2.1⟩) (fun _ => rfl) fun d h => h.1
theorem rd_opsA : RdP Tryd.prog 22 (fun l : List OpA => [opsA l]) (fun l => l.length ≤ maxLen ∧ ∀ m ∈ l, m.ok) := rd_slice (sz := 7) (by kernel_rfl) (by kernel_rfl) (fun _ => rfl) rd_opA
theorem lastOf_first {l : List Mark} {p : Int} {k : ByteArray} {i : Nat} (hi : i < l.length) (hn : nm (l.getD i default) p k) (hno : ∀ j, j < i → ¬ nm (l.getD j default) p k) : lastOf l p k = (l.getD i default).seq := by
  have : markAt l p k = i := pidx_some hi ((nm_b _ _ _).2 hn) fun j hj => Bool.eq_false_iff.2 fun h => hno j hj ((nm_b _ _ _).1 h)
  rw [lastOf, this, if_neg (by omega), Int.toNat_natCast]
theorem lastOf_none {l : List Mark} {p : Int} {k : ByteArray} (hno : ∀ j, j < l.length → ¬ nm (l.getD j default) p k) : lastOf l p k = 0 := by
  have : markAt l p k = -1 := pidx_none fun j hj => Bool.eq_false_iff.2 fun h => hno j hj ((nm_b _ _ _).1 h)
  rw [lastOf, this]; rfl
theorem b_nm {m : Mark} {p : Int} {k : ByteArray} (h : (m.pub == p && m.key == k) = false) : ¬ nm m p k := fun e => by rw [(nm_b m p k).2 e] at h; cases h
theorem rlast_p (s : Shard) (p : Int) (key : ByteArray) : PFn Tryd.prog 38 [s.av, .v (.int .i64 p), .v (.string key)] (.v (.int .i64 (lastOf s.marks p key))) := by
  refine FnC.intro Tryd.func38 rfl Tryd.ntmps38 rfl ?_; intro off w0
  refine lenAgg (cs := s.cells) (n := s.marks.length) 0 4 rfl rfl fun hn => ?_
  repeat refine S.seq ?_
  refine S.region ?_
  refine L.box 3 rfl rfl rfl rfl rfl trivial rfl fun b3 => ?_
  (refine L.go (T := tt) tt_ok rfl rfl ?sd7 ?_; (try (case sd7 => (repeat' ((first | first | exact trivial | exact zA | with_reducible refine zI ?_ ?_ | exact zB | exact zC | exact zD | exact zE | rfl | exact zN rfl | omega | assumption | (simp; done) | (simp [splice]; done) | (simp; omega) | (unfold fits; omega) | (unfold fits; simp_all; omega) | (simp_all; omega) | (simp_all; done) | intro _ | exact zI ?_ ?_ | intro _))))); try (refine L.nil ?_))
  ((repeat refine S.seq ?_); refine S.region (L.go (T := tt) tt_ok rfl rfl ?sd1 ?_); (try (case sd1 => (repeat' ((first | first | exact trivial | exact zA | with_reducible refine zI ?_ ?_ | exact zB | exact zC | exact zD | exact zE | rfl | exact zN rfl | omega | assumption | (simp; done) | (simp [splice]; done) | (simp; omega) | (unfold fits; omega) | (unfold fits; simp_all; omega) | (simp_all; omega) | (simp_all; done) | intro _ | exact zI ?_ ?_ | intro _))))); try (refine L.nil ?_))
  repeat refine S.seq ?_
  refine S.block (S.loop (ι := { k : Nat // k ≤ s.marks.length ∧ ∀ j, j < k → ¬ nm (s.marks.getD j default) p key }) (fun k => [(1, .v (.int .i64 p)), (2, .v (.string key)), (3, .ptr 3 b3 0), (7, .v (.int .i64 k.1))])
    (fun k => [(3, .blk b3 71 s.cells)]) (fun k => s.marks.length - k.1) ?_ ?_)
  · refine fun a w h => ⟨⟨0, Nat.zero_le _, ?_⟩, h.weak (by (repeat' (first | exact True.intro | exact Imp.refl _ | refine ⟨?_, ?_⟩))) (by (repeat (first | exact List.nil_sublist _ | refine List.Sublist.cons_cons _ ?_ | refine List.Sublist.cons _ ?_)))⟩
    exact fun j hj => absurd hj (by omega)
  rintro ⟨k, hk, ik⟩
  dsimp only
  ((repeat refine S.seq ?_); refine S.region (L.go (T := tt) tt_ok rfl rfl ?sd2 ?_); (try (case sd2 => (repeat' ((first | first | exact trivial | exact zA | with_reducible refine zI ?_ ?_ | exact zB | exact zC | exact zD | exact zE | rfl | exact zN rfl | omega | assumption | (simp; done) | (simp [splice]; done) | (simp; omega) | (unfold fits; omega) | (unfold fits; simp_all; omega) | (simp_all; omega) | (simp_all; done) | intro _ | exact zI ?_ ?_ | intro _))))); try (refine L.nil ?_))
  ((repeat refine S.seq ?_); refine S.cond rfl (fun h1 => ?_) (fun h1 => ?_) <;> (try first | refine S.skip ?_ | refine S.exit ?_))
  · have h1 := of_dec h1
    repeat refine S.seq ?_
    refine S.block ?_
    ((repeat refine S.seq ?_); refine S.region (L.go (T := tt) tt_ok rfl rfl ?sd3 ?_); (try (case sd3 => (repeat' ((first | first | exact trivial | exact zA | with_reducible refine zI ?_ ?_ | exact zB | exact zC | exact zD | exact zE | rfl | exact zN rfl | omega | assumption | (simp; done) | (simp [splice]; done) | (simp; omega) | (unfold fits; omega) | (unfold fits; simp_all; omega) | (simp_all; omega) | (simp_all; done) | intro _ | exact zI ?_ ?_ | intro _))))); try (refine L.nil ?_))
    ((repeat refine S.seq ?_); refine S.cond rfl (fun h2 => ?_) (fun h2 => ?_) <;> (try first | refine S.skip ?_ | refine S.exit ?_))
    · skip
      ((repeat refine S.seq ?_); refine S.region (L.go (T := tt) tt_ok rfl rfl ?sd4 ?_); (try (case sd4 => (repeat' ((first | first | exact trivial | exact zA | with_reducible refine zI ?_ ?_ | exact zB | exact zC | exact zD | exact zE | rfl | exact zN rfl | omega | assumption | (simp; done) | (simp [splice]; done) | (simp; omega) | (unfold fits; omega) | (unfold fits; simp_all; omega) | (simp_all; omega) | (simp_all; done) | intro _ | exact zI ?_ ?_ | intro _))))); try (refine L.nil ?_))
      (((repeat refine S.seq ?_); refine S.ret ?_); refine E.retP (T := tt) tt_ok rfl rfl (by (repeat' ((first | first | exact trivial | exact zA | with_reducible refine zI ?_ ?_ | exact zB | exact zC | exact zD | exact zE | rfl | exact zN rfl | omega | assumption | (simp; done) | (simp [splice]; done) | (simp; omega) | (unfold fits; omega) | (unfold fits; simp_all; omega) | (simp_all; omega) | (simp_all; done) | intro _ | exact zI ?_ ?_ | intro _)))) (Imp.of_eq ?_))
      rw [lastOf_first (by omega) ((nm_b _ _ _).1 h2) ik]
      rfl
    ((repeat refine S.seq ?_); refine S.region (L.go (T := tt) tt_ok rfl rfl ?sd5 ?_); (try (case sd5 => (repeat' ((first | first | exact trivial | exact zA | with_reducible refine zI ?_ ?_ | exact zB | exact zC | exact zD | exact zE | rfl | exact zN rfl | omega | assumption | (simp; done) | (simp [splice]; done) | (simp; omega) | (unfold fits; omega) | (unfold fits; simp_all; omega) | (simp_all; omega) | (simp_all; done) | intro _ | exact zI ?_ ?_ | intro _))))); try (refine L.nil ?_))
    refine fun a w hR => ⟨⟨k + 1, by omega, ?_⟩, by simp only; omega, hR.weak (by (repeat' (first | exact True.intro | exact Imp.refl _ | refine ⟨?_, ?_⟩))) (by (repeat (first | exact List.nil_sublist _ | refine List.Sublist.cons_cons _ ?_ | refine List.Sublist.cons _ ?_)))⟩
    exact upto_succ ik (b_nm h2)
  · have h1 := of_dec' h1
    ((repeat refine S.seq ?_); refine S.region (L.go (T := tt) tt_ok rfl rfl ?sd6 ?_); (try (case sd6 => (repeat' ((first | first | exact trivial | exact zA | with_reducible refine zI ?_ ?_ | exact zB | exact zC | exact zD | exact zE | rfl | exact zN rfl | omega | assumption | (simp; done) | (simp [splice]; done) | (simp; omega) | (unfold fits; omega) | (unfold fits; simp_all; omega) | (simp_all; omega) | (simp_all; done) | intro _ | exact zI ?_ ?_ | intro _))))); try (refine L.nil ?_))
    (((repeat refine S.seq ?_); refine S.ret ?_); refine E.retP (T := tt) tt_ok rfl rfl (by (repeat' ((first | first | exact trivial | exact zA | with_reducible refine zI ?_ ?_ | exact zB | exact zC | exact zD | exact zE | rfl | exact zN rfl | omega | assumption | (simp; done) | (simp [splice]; done) | (simp; omega) | (unfold fits; omega) | (unfold fits; simp_all; omega) | (simp_all; omega) | (simp_all; done) | intro _ | exact zI ?_ ?_ | intro _)))) (Imp.of_eq ?_))
    rw [lastOf_none fun j hj => ik j (by omega)]
    rfl

section
variable {P : Program} {c : Ctx} {σ : Slots} {F : Rows} {Q : Exit → Act → World → Prop} {ops : Array Oper} {rest : List Oper} {o : Oper}
/-- A guarded step that is not made. -/
theorem O.unmet {d : Nat} {b t : Bool} {r : AV} (hg : guardA ops σ o = some (some (b, t))) (hb : b ≠ t) (hd : o.dst = some d) (hdN : Nat.blt d c.N = true) : O P ops c o σ F Q [] Unit (fun _ => (d, .when b t r) :: σ) (fun _ => F) := by
  intro a w hR K hK
  unfold Op1
  have key := guard_iff hR hg
  rw [if_neg (fun hw => hb (key.1 hw)), hd]
  exact hK () _ _ (hR.pure (of_blt hdN) (.when (fun e => absurd e hb) fun _ => rfl)) ⟨Ext.refl _ _, fun _ _ _ _ _ => rfl, fun s hs _ => hs⟩ ⟨undef, by rw [hd]⟩
end
theorem and1s (x : Int) : ∃ b : Nat, b ≤ 1 ∧ IntKind.i64.wrap ((BitVec.ofInt IntKind.i64.bits x &&& BitVec.ofInt IntKind.i64.bits 1).toNat : Int) = b := by
  refine ⟨(BitVec.ofInt IntKind.i64.bits x &&& BitVec.ofInt IntKind.i64.bits 1).toNat, ?_, ?_⟩
  · rw [BitVec.toNat_and, show (BitVec.ofInt IntKind.i64.bits 1).toNat = 1 from rfl, Nat.and_one_is_mod]
    omega
  · have : (BitVec.ofInt IntKind.i64.bits x &&& BitVec.ofInt IntKind.i64.bits 1).toNat ≤ 1 := by
      rw [BitVec.toNat_and, show (BitVec.ofInt IntKind.i64.bits 1).toNat = 1 from rfl, Nat.and_one_is_mod]
      omega
    generalize (BitVec.ofInt IntKind.i64.bits x &&& BitVec.ofInt IntKind.i64.bits 1).toNat = n at *
    have : n = 0 ∨ n = 1 := by omega
    rcases this with rfl | rfl <;> decide
theorem uwraps {n : Nat} (h : n ≤ 100000) : IntKind.u64.wrap (n : Int) = n := by
  have e : IntKind.u64.wrap (n : Int) = (n : Int) % 18446744073709551616 := rfl
  rw [e]
  omega
/-- Half of a number, by another one. -/
theorem uhalf (z : Int) {m : Int} (hm : 0 < m) (h2 : m ≤ 100000) : ∃ K : Nat, (K : Int) < m ∧ IntKind.i64.wrap (((IntKind.u64.wrap z).tdiv 2).tmod m) = K := by
  have e : IntKind.u64.wrap z = z % 18446744073709551616 := rfl
  have h0 : 0 ≤ (IntKind.u64.wrap z).tdiv 2 := by rw [e]; exact Int.tdiv_nonneg (by omega) (by omega)
  generalize (IntKind.u64.wrap z).tdiv 2 = y at h0
  have h3 := Int.emod_nonneg y (show m ≠ 0 by omega)
  have h4 := Int.emod_lt_of_pos y hm
  refine ⟨(y % m).toNat, by omega, ?_⟩
  rw [Int.tmod_eq_emod_of_nonneg h0, Int.toNat_of_nonneg h3]
  rw [wrap_fits ⟨by omega, by omega⟩]
theorem keyK {j : Nat} (h : j ≤ 1) : keyN (kE (j : Int)) = if j = 0 then ka else kbb := by
  have : j = 0 ∨ j = 1 := by omega
  rcases this with rfl | rfl <;> decide
end Go.Proofs.YtfdneepgpekmiaaDoor

/- AuthorShards. -/
namespace Go.Proofs.YtfdneepgpekmiaaDoor
set_option linter.unusedVariables false
set_option linter.unusedSimpArgs false
set_option maxHeartbeats 8000000
open Go.RowKit
set_option maxRecDepth 8000

def intsA (l : List Int) : AV := .lst 1 l.length (gOf intC l)
def w3 (a b : Int) : List AV := [.v (.int .i64 a), .v (.int .i64 b), .v (.int .i64 0)]
theorem plc0 {l : List OutD} (h : 0 < l.length) : 0 < (plcL l l.length).length := by
  have : 0 ∈ plcL l l.length := List.mem_filter.2 ⟨List.mem_range.2 h, rfl⟩
  exact List.length_pos_of_mem this
theorem next_at {l : List OutD} {j : Nat} (h : j < (nextO l l.length).length) : ∃ i, i < l.length ∧ firstB l i = true ∧ (nextO l l.length).getD j default = l.getD i default := by
  have hl : (nextO l l.length).length = (plcL l l.length).length := by
    unfold nextO
    rw [List.length_map, List.take_of_length_le (plcL_len l l.length)]
  have hj : j < (plcL l l.length).length := by omega
  obtain ⟨h1, h2⟩ := List.mem_filter.1 (List.getElem_mem hj)
  refine ⟨(plcL l l.length)[j], List.mem_range.1 h1, h2, ?_⟩
  unfold nextO
  rw [List.take_of_length_le (plcL_len l l.length), List.getD_eq_getElem?_getD, List.getElem?_map, List.getElem?_eq_getElem hj]
  rfl
theorem next_pos {l : List OutD} (h : 0 < l.length) : 0 < (nextO l l.length).length := by
  unfold nextO
  rw [List.length_map, List.take_of_length_le (plcL_len l l.length)]
  exact plc0 h

structure AO (A : AuD) (z : Int) : Prop where
  ok : AuOk A
  le : ∀ q k, lastSeq A.seqs q k ≤ z

theorem authorShards_p (l : List OpA) (order : List Int) : PFn Tryd.prog 13 [opsA l, intsA order] (.v (.bool true)) := by
  refine FnC.intro Tryd.func13 rfl Tryd.ntmps13 rfl ?_; intro off w0
  refine lenAt (sz := 7) (n := l.length) (g := gOf OpA.cells l) 0 rfl fun hn => ?_
  refine lenAt (sz := 1) (n := order.length) (g := gOf intC order) 1 rfl fun hn2 => ?_
  ((repeat refine S.seq ?_); refine S.region (L.go (T := tt) tt_ok rfl rfl ?sd1 ?_); (try (case sd1 => (repeat' ((first | first | exact trivial | exact zA | with_reducible refine zI ?_ ?_ | exact zB | exact zC | exact zD | exact zE | rfl | exact zN rfl | omega | assumption | (simp; done) | (simp [splice]; done) | (simp; omega) | (unfold fits; omega) | (unfold fits; simp_all; omega) | (simp_all; omega) | (simp_all; done) | intro _ | exact zI ?_ ?_ | intro _))))); try (refine L.nil ?_))
  repeat refine S.seq ?_
  refine S.region ?_
  refine L.call (G := []) rfl rfl rfl rfl rfl rfl rfl ⟨trivial, by (repeat' ((first | first | exact trivial | exact zA | with_reducible refine zI ?_ ?_ | exact zB | exact zC | exact zD | exact zE | rfl | exact zN rfl | omega | assumption | (simp; done) | (simp [splice]; done) | (simp; omega) | (unfold fits; omega) | (unfold fits; simp_all; omega) | (simp_all; omega) | (simp_all; done) | intro _ | exact zI ?_ ?_ | intro _)))⟩ rfl (Imps.refl _) (by (repeat (first | exact pick0 | refine pickS (by first | exact p0 | exact pS p0 | exact pS (pS p0) | exact pS (pS (pS p0)) | exact pS (pS (pS (pS p0))) | exact pS (pS (pS (pS (pS p0)))) | exact pS (pS (pS (pS (pS (pS p0)))))) ?_))) (anew_p 2 (by decide) (by decide)) ?_
  rintro r F' ⟨b, mb, rfl, rfl⟩
  (refine L.go (T := tt) tt_ok rfl rfl ?sd17 ?_; (try (case sd17 => (repeat' ((first | first | exact trivial | exact zA | with_reducible refine zI ?_ ?_ | exact zB | exact zC | exact zD | exact zE | rfl | exact zN rfl | omega | assumption | (simp; done) | (simp [splice]; done) | (simp; omega) | (unfold fits; omega) | (unfold fits; simp_all; omega) | (simp_all; omega) | (simp_all; done) | intro _ | exact zI ?_ ?_ | intro _))))); try (refine L.nil ?_))
  ((repeat refine S.seq ?_); refine S.region (L.go (T := tt) tt_ok rfl rfl ?sd2 ?_); (try (case sd2 => (repeat' ((first | first | exact trivial | exact zA | with_reducible refine zI ?_ ?_ | exact zB | exact zC | exact zD | exact zE | rfl | exact zN rfl | omega | assumption | (simp; done) | (simp [splice]; done) | (simp; omega) | (unfold fits; omega) | (unfold fits; simp_all; omega) | (simp_all; omega) | (simp_all; done) | intro _ | exact zI ?_ ?_ | intro _))))); try (refine L.nil ?_))
  ((repeat refine S.seq ?_); refine S.cond rfl (fun h1 => ?_) (fun h1 => ?_) <;> (try first | refine S.skip ?_ | refine S.exit ?_))
  · cases h1
  ((repeat refine S.seq ?_); refine S.region (L.go (T := tt) tt_ok rfl rfl ?sd3 ?_); (try (case sd3 => (repeat' ((first | first | exact trivial | exact zA | with_reducible refine zI ?_ ?_ | exact zB | exact zC | exact zD | exact zE | rfl | exact zN rfl | omega | assumption | (simp; done) | (simp [splice]; done) | (simp; omega) | (unfold fits; omega) | (unfold fits; simp_all; omega) | (simp_all; omega) | (simp_all; done) | intro _ | exact zI ?_ ?_ | intro _))))); try (refine L.nil ?_))
  ((repeat refine S.seq ?_); refine S.cond rfl (fun h2 => ?_) (fun h2 => ?_) <;> (try first | refine S.skip ?_ | refine S.exit ?_))
  · repeat refine S.seq ?_
    refine S.region ?_
    refine L.callP rfl rfl rfl rfl rfl rfl rfl ⟨trivial, by (repeat' ((first | first | exact trivial | exact zA | with_reducible refine zI ?_ ?_ | exact zB | exact zC | exact zD | exact zE | rfl | exact zN rfl | omega | assumption | (simp; done) | (simp [splice]; done) | (simp; omega) | (unfold fits; omega) | (unfold fits; simp_all; omega) | (simp_all; omega) | (simp_all; done) | intro _ | exact zI ?_ ?_ | intro _)))⟩ rfl (Imps.refl _) told20_p ?_
    (refine L.go (T := tt) tt_ok rfl rfl ?sd18 ?_; (try (case sd18 => (repeat' ((first | first | exact trivial | exact zA | with_reducible refine zI ?_ ?_ | exact zB | exact zC | exact zD | exact zE | rfl | exact zN rfl | omega | assumption | (simp; done) | (simp [splice]; done) | (simp; omega) | (unfold fits; omega) | (unfold fits; simp_all; omega) | (simp_all; omega) | (simp_all; done) | intro _ | exact zI ?_ ?_ | intro _))))); try (refine L.nil ?_))
    (((repeat refine S.seq ?_); refine S.ret ?_); refine E.retP (T := tt) tt_ok rfl rfl (by (repeat' ((first | first | exact trivial | exact zA | with_reducible refine zI ?_ ?_ | exact zB | exact zC | exact zD | exact zE | rfl | exact zN rfl | omega | assumption | (simp; done) | (simp [splice]; done) | (simp; omega) | (unfold fits; omega) | (unfold fits; simp_all; omega) | (simp_all; omega) | (simp_all; done) | intro _ | exact zI ?_ ?_ | intro _)))) ?_)
    exact Imp.refl _
  have hl : l.length ≤ 10 := by have := of_dec' h2; omega
  ((repeat refine S.seq ?_); refine S.region (L.go (T := tt) tt_ok rfl rfl ?sd4 ?_); (try (case sd4 => (repeat' ((first | first | exact trivial | exact zA | with_reducible refine zI ?_ ?_ | exact zB | exact zC | exact zD | exact zE | rfl | exact zN rfl | omega | assumption | (simp; done) | (simp [splice]; done) | (simp; omega) | (unfold fits; omega) | (unfold fits; simp_all; omega) | (simp_all; omega) | (simp_all; done) | intro _ | exact zI ?_ ?_ | intro _))))); try (refine L.nil ?_))
  unfold auR
  repeat refine S.seq ?_
  refine S.region ?_
  refine L.alloc (T := tt) 60 tt_ok rfl rfl rfl rfl rfl fun b7 => ?_
  refine L.nil ?_
  ((repeat refine S.seq ?_); refine S.region (L.go (T := tt) tt_ok rfl rfl ?sd5 ?_); (try (case sd5 => (repeat' ((first | first | exact trivial | exact zA | with_reducible refine zI ?_ ?_ | exact zB | exact zC | exact zD | exact zE | rfl | exact zN rfl | omega | assumption | (simp; done) | (simp [splice]; done) | (simp; omega) | (unfold fits; omega) | (unfold fits; simp_all; omega) | (simp_all; omega) | (simp_all; done) | intro _ | exact zI ?_ ?_ | intro _))))); try (refine L.nil ?_))
  repeat refine S.seq ?_
  refine S.cut (ι := { q : Value × AuD // AS q.2 ⟨false, 1, [], [], []⟩ (fun _ => 0) ∧ AO q.2 100 ∧ q.2.l.length ≤ 10 }) (fun q => [(0, opsA l), (1, intsA order), (5, .ptr 40 b 0), (6, .v (.int .i64 (lastSeq q.1.2.seqs 0 ka + lastSeq q.1.2.seqs 0 kbb))), (7, .ptr 60 b7 0)])
    (fun q => (60, .blk b7 67 (w3 (lastSeq q.1.2.seqs 0 ka) (lastSeq q.1.2.seqs 0 kbb))) :: auR b mb q.1.1 q.1.2) ?_ ?_
  · repeat refine S.seq ?_
    refine S.block (S.loop (ι := { q : Nat × Value × AuD // q.1 ≤ l.length ∧ AS q.2.2 ⟨false, 1, [], [], []⟩ (fun _ => 0) ∧ AO q.2.2 (8 * q.1) ∧ q.2.2.l.length = q.1 ∧ lastSeq q.2.2.seqs 0 ka + lastSeq q.2.2.seqs 0 kbb ≤ 3 * q.1 })
      (fun q => [(0, opsA l), (1, intsA order), (5, .ptr 40 b 0), (6, .v (.int .i64 (lastSeq q.1.2.2.seqs 0 ka + lastSeq q.1.2.2.seqs 0 kbb))), (7, .ptr 60 b7 0), (8, .v (.int .i64 q.1.1))])
      (fun q => (60, .blk b7 67 (w3 (lastSeq q.1.2.2.seqs 0 ka) (lastSeq q.1.2.2.seqs 0 kbb))) :: auR b mb q.1.2.1 q.1.2.2) (fun q => l.length - q.1.1) ?_ ?_)
    · exact fun a w h => ⟨⟨(0, .slice none 0 0, ⟨2, [], []⟩), Nat.zero_le _, AS.begin, ⟨AuOk.nil 2, fun q k => by simp [lastSeq]⟩, rfl, by decide⟩, h.weakP (by (repeat' (first | exact True.intro | exact Imp.refl _ | refine ⟨?_, ?_⟩))) (by first | (unfold auR; (repeat (first | exact Sub.refl _ | refine Sub.pick (by first | exact p0 | exact pS p0 | exact pS (pS p0) | exact pS (pS (pS p0)) | exact pS (pS (pS (pS p0))) | exact pS (pS (pS (pS (pS p0))))) ?_))) | (repeat (first | exact Sub.refl _ | refine Sub.pick (by first | exact p0 | exact pS p0 | exact pS (pS p0) | exact pS (pS (pS p0)) | exact pS (pS (pS (pS p0))) | exact pS (pS (pS (pS (pS p0))))) ?_)))⟩
    rintro ⟨⟨i, x, A⟩, hi, has, hao, hal, hsum⟩
    dsimp only at hi has hao hal hsum ⊢
    ((repeat refine S.seq ?_); refine S.region (L.go (T := tt) tt_ok rfl rfl ?sd6 ?_); (try (case sd6 => (repeat' ((first | first | exact trivial | exact zA | with_reducible refine zI ?_ ?_ | exact zB | exact zC | exact zD | exact zE | rfl | exact zN rfl | omega | assumption | (simp; done) | (simp [splice]; done) | (simp; omega) | (unfold fits; omega) | (unfold fits; simp_all; omega) | (simp_all; omega) | (simp_all; done) | intro _ | exact zI ?_ ?_ | intro _))))); try (refine L.nil ?_))
    ((repeat refine S.seq ?_); refine S.cond rfl (fun h3 => ?_) (fun h3 => ?_) <;> (try first | refine S.skip ?_ | refine S.exit ?_))
    · have h3n : i < l.length := by have := of_dec h3; omega
      obtain ⟨K1, hK1, hK1e⟩ := and1s (l.getD i default).key
      obtain ⟨M, hM, hMe⟩ := umod (l.getD i default).many 3 (by decide) (by decide)
      have hpa := has.p_le (c := ka) (.inl rfl)
      have hpb := has.p_le (c := kbb) (.inr rfl)
      repeat refine S.seq ?_
      refine S.block ?_
      repeat refine S.seq ?_
      refine S.draw [] mixed ?_
      (refine H.ts (T := tt) [0, 1, 2, 3, 4, 5, 6, 7, 8, 9, 10, 11, 12, 13] tt_ok (by kernel_rfl) (by kernel_rfl) (by kernel_rfl) (by intro ch a a' w h; obtain ⟨_, _, _, _, _, h, _⟩ := h; cases h) rfl ?sd38 ?_; (try (case sd38 => (repeat' ((first | first | exact trivial | exact zA | with_reducible refine zI ?_ ?_ | exact zB | exact zC | exact zD | exact zE | rfl | exact zN rfl | omega | assumption | (simp; done) | (simp [splice]; done) | (simp; omega) | (unfold fits; omega) | (unfold fits; simp_all; omega) | (simp_all; omega) | (simp_all; done) | intro _ | exact zI ?_ ?_ | intro _))))))
      refine H.tell 40 (.v (.int .i64 K1)) rfl (Imp.of_eq (by rw [← hK1e]; rfl)) ?_
      refine H.tell 48 (.v (.int .i64 M)) rfl (Imp.of_eq (by rw [← hMe]; rfl)) ?_
      (refine H.ts (T := tt) [14, 15, 16] tt_ok (by kernel_rfl) (by kernel_rfl) (by kernel_rfl) (by intro ch a a' w h; obtain ⟨_, _, _, _, _, h, _⟩ := h; cases h) rfl ?sd39 ?_; (try (case sd39 => (repeat' ((first | first | exact trivial | exact zA | with_reducible refine zI ?_ ?_ | exact zB | exact zC | exact zD | exact zE | rfl | exact zN rfl | omega | assumption | (simp; done) | (simp [splice]; done) | (simp; omega) | (unfold fits; omega) | (unfold fits; simp_all; omega) | (simp_all; omega) | (simp_all; done) | intro _ | exact zI ?_ ?_ | intro _))))))
      refine H.done (by kernel_rfl) ?_
      obtain ⟨m, hm⟩ : ∃ m, m = M + 1 := ⟨_, rfl⟩
      refine slotAs 10 (.v (.int .i64 (m : Int))) rfl (Imp.of_eq (by rw [hm, show ((M + 1 : Nat) : Int) = 1 + (M : Int) by omega])) ?_
      repeat refine S.seq ?_
      refine S.region ?_
      (refine L.go (T := tt) tt_ok rfl rfl ?sd19 ?_; (try (case sd19 => (repeat' ((first | first | exact trivial | exact zA | with_reducible refine zI ?_ ?_ | exact zB | exact zC | exact zD | exact zE | rfl | exact zN rfl | omega | assumption | (simp; done) | (simp [splice]; done) | (simp; omega) | (unfold fits; omega) | (unfold fits; simp_all; omega) | (simp_all; omega) | (simp_all; done) | intro _ | exact zI ?_ ?_ | intro _))))); try (refine L.nil ?_))
      refine L.callP rfl rfl rfl rfl rfl rfl rfl ⟨trivial, by (repeat' ((first | first | exact trivial | exact zA | with_reducible refine zI ?_ ?_ | exact zB | exact zC | exact zD | exact zE | rfl | exact zN rfl | omega | assumption | (simp; done) | (simp [splice]; done) | (simp; omega) | (unfold fits; omega) | (unfold fits; simp_all; omega) | (simp_all; omega) | (simp_all; done) | intro _ | exact zI ?_ ?_ | intro _)))⟩ rfl (Imps.refl _) (key_p (K1 : Int)) ?_
      rw [keyK hK1]
      obtain ⟨c, hc⟩ : ∃ c, c = if K1 = 0 then ka else kbb := ⟨_, rfl⟩
      rw [← hc]
      have hcc : c = ka ∨ c = kbb := by rw [hc]; split; exact .inl rfl; exact .inr rfl
      have hfc : fitS c := by unfold fitS; rcases hcc with rfl | rfl <;> decide
      obtain ⟨p1, p2, p3, p4⟩ := has.publish hcc (m := m) (by omega) (by omega) (by omega)
      (refine L.go (T := tt) tt_ok rfl rfl ?sd20 ?_; (try (case sd20 => (repeat' ((first | first | exact trivial | exact zA | with_reducible refine zI ?_ ?_ | exact zB | exact zC | exact zD | exact zE | rfl | exact zN rfl | omega | assumption | (simp; done) | (simp [splice]; done) | (simp; omega) | (unfold fits; omega) | (unfold fits; simp_all; omega) | (simp_all; omega) | (simp_all; done) | intro _ | exact zI ?_ ?_ | intro _))))); try (refine L.nil ?_))
      refine L.call (G := auR b mb x A) (H := [(60, .blk b7 67 (w3 (lastSeq A.seqs 0 ka) (lastSeq A.seqs 0 kbb)))]) rfl rfl rfl rfl rfl rfl rfl ⟨trivial, by (repeat' ((first | first | exact trivial | exact zA | with_reducible refine zI ?_ ?_ | exact zB | exact zC | exact zD | exact zE | rfl | exact zN rfl | omega | assumption | (simp; done) | (simp [splice]; done) | (simp; omega) | (unfold fits; omega) | (unfold fits; simp_all; omega) | (simp_all; omega) | (simp_all; done) | intro _ | exact zI ?_ ?_ | intro _)))⟩ rfl (by exact Imps.refl _) (by exact List.perm_append_comm (l₁ := [_])) (publish_p b mb x A 0 c bB m hao.ok hfc (by decide)) ?_
      rintro r F' ⟨x1, rfl, rfl⟩
      rw [p1]
      (refine L.go (T := tt) tt_ok rfl rfl ?sd21 ?_; (try (case sd21 => (repeat' ((first | first | exact trivial | exact zA | with_reducible refine zI ?_ ?_ | exact zB | exact zC | exact zD | exact zE | rfl | exact zN rfl | omega | assumption | (simp; done) | (simp [splice]; done) | (simp; omega) | (unfold fits; omega) | (unfold fits; simp_all; omega) | (simp_all; omega) | (simp_all; done) | intro _ | exact zI ?_ ?_ | intro _))))); try (refine L.nil ?_))
      ((repeat refine S.seq ?_); refine S.region (L.go (T := tt) tt_ok rfl rfl ?sd7 ?_); (try (case sd7 => (repeat' ((first | first | exact trivial | exact zA | with_reducible refine zI ?_ ?_ | exact zB | exact zC | exact zD | exact zE | rfl | exact zN rfl | omega | assumption | (simp; done) | (simp [splice]; done) | (simp; omega) | (unfold fits; omega) | (unfold fits; simp_all; omega) | (simp_all; omega) | (simp_all; done) | intro _ | exact zI ?_ ?_ | intro _))))); try (refine L.nil ?_))
      ((repeat refine S.seq ?_); refine S.cond rfl (fun h4 => ?_) (fun h4 => ?_) <;> (try first | refine S.skip ?_ | refine S.exit ?_))
      · cases h4
      have hst : ∀ (K : Act → World → Prop), True := fun _ => trivial
      refine rowsTo ((60, .blk b7 67 (w3 (lastSeq A.seqs 0 ka) (lastSeq A.seqs 0 kbb))) :: auR b mb x1 (pubS A 0 c bB m)) (Sub.of _ (by rw [List.append_nil]; exact List.perm_append_comm (l₁ := auR b mb x1 (pubS A 0 c bB m)))) ?_
      have hao2 : AO (pubS A 0 c bB m) (8 * ((i + 1 : Nat) : Int)) := ⟨hao.ok.pub hao.le (by omega) 0 hfc bB m, fun q k => by
        have := (pubS_seq A 0 c bB m (fun q k => (hao.ok.seq q k).1) q k).2 _ hao.le
        omega⟩
      repeat refine S.seq ?_
      refine S.cut (ι := Unit) (fun _ => [(0, opsA l), (1, intsA order), (5, .ptr 40 b 0), (6, .v (.int .i64 (lastSeq (pubS A 0 c bB m).seqs 0 ka + lastSeq (pubS A 0 c bB m).seqs 0 kbb))), (7, .ptr 60 b7 0), (8, .v (.int .i64 i))])
        (fun _ => (60, .blk b7 67 (w3 (lastSeq (pubS A 0 c bB m).seqs 0 ka) (lastSeq (pubS A 0 c bB m).seqs 0 kbb))) :: auR b mb x1 (pubS A 0 c bB m)) ?_ ?_
      · have hK : K1 = 0 ∨ K1 = 1 := by omega
        have ea := p4 ka
        have eb := p4 kbb
        rcases hK with rfl | rfl
        · have hcz : c = ka := hc
          rw [if_pos hcz] at ea
          rw [if_neg (by rw [hcz]; exact ka_ne)] at eb
          rw [ea, eb, hcz]
          refine S.draw [(6, [60])] mixed ?_
          (refine H.ts (T := tt) [0, 1, 2, 3, 4, 5, 6, 7, 8, 9, 10] tt_ok (by kernel_rfl) (by kernel_rfl) (by kernel_rfl) (by intro ch a a' w h; obtain ⟨_, _, _, _, _, h, _⟩ := h; cases h) rfl ?sd40 ?_; (try (case sd40 => (repeat' ((first | first | exact trivial | exact zA | with_reducible refine zI ?_ ?_ | exact zB | exact zC | exact zD | exact zE | rfl | exact zN rfl | omega | assumption | (simp; done) | (simp [splice]; done) | (simp; omega) | (unfold fits; omega) | (unfold fits; simp_all; omega) | (simp_all; omega) | (simp_all; done) | intro _ | exact zI ?_ ?_ | intro _))))))
          (refine H.store (T := tt) 11 rfl (by kernel_rfl) (by kernel_rfl) tt_ok rfl rfl rfl rfl rfl rfl ?sd59 rfl (by kernel_rfl) ?_; (try (case sd59 => (repeat' ((first | first | exact trivial | exact zA | with_reducible refine zI ?_ ?_ | exact zB | exact zC | exact zD | exact zE | rfl | exact zN rfl | omega | assumption | (simp; done) | (simp [splice]; done) | (simp; omega) | (unfold fits; omega) | (unfold fits; simp_all; omega) | (simp_all; omega) | (simp_all; done) | intro _ | exact zI ?_ ?_ | intro _))))))
          refine H.done (by kernel_rfl) ?_
          refine slotAs 6 (.v (.int .i64 (lastSeq A.seqs 0 ka + m + lastSeq A.seqs 0 kbb))) rfl (Imp.of_eq (by rw [show lastSeq A.seqs 0 ka + (m : Int) + lastSeq A.seqs 0 kbb = lastSeq A.seqs 0 ka + lastSeq A.seqs 0 kbb + m by omega])) ?_
          exact fun a w h => ⟨(), h.weakP (by (repeat' (first | exact True.intro | exact Imp.refl _ | refine ⟨?_, ?_⟩))) (Sub.self _)⟩
        · have hcz : c = kbb := hc
          rw [if_neg (by rw [hcz]; exact ka_ne.symm)] at ea
          rw [if_pos hcz] at eb
          rw [ea, eb, hcz]
          refine S.draw [(6, [60])] mixed ?_
          (refine H.ts (T := tt) [0, 1, 2, 3, 4, 5, 6, 7, 8, 9, 10] tt_ok (by kernel_rfl) (by kernel_rfl) (by kernel_rfl) (by intro ch a a' w h; obtain ⟨_, _, _, _, _, h, _⟩ := h; cases h) rfl ?sd41 ?_; (try (case sd41 => (repeat' ((first | first | exact trivial | exact zA | with_reducible refine zI ?_ ?_ | exact zB | exact zC | exact zD | exact zE | rfl | exact zN rfl | omega | assumption | (simp; done) | (simp [splice]; done) | (simp; omega) | (unfold fits; omega) | (unfold fits; simp_all; omega) | (simp_all; omega) | (simp_all; done) | intro _ | exact zI ?_ ?_ | intro _))))))
          (refine H.store (T := tt) 11 rfl (by kernel_rfl) (by kernel_rfl) tt_ok rfl rfl rfl rfl rfl rfl ?sd60 rfl (by kernel_rfl) ?_; (try (case sd60 => (repeat' ((first | first | exact trivial | exact zA | with_reducible refine zI ?_ ?_ | exact zB | exact zC | exact zD | exact zE | rfl | exact zN rfl | omega | assumption | (simp; done) | (simp [splice]; done) | (simp; omega) | (unfold fits; omega) | (unfold fits; simp_all; omega) | (simp_all; omega) | (simp_all; done) | intro _ | exact zI ?_ ?_ | intro _))))))
          refine H.done (by kernel_rfl) ?_
          refine slotAs 6 (.v (.int .i64 (lastSeq A.seqs 0 ka + (lastSeq A.seqs 0 kbb + m)))) rfl (Imp.of_eq (by rw [show lastSeq A.seqs 0 ka + (lastSeq A.seqs 0 kbb + (m : Int)) = lastSeq A.seqs 0 ka + lastSeq A.seqs 0 kbb + m by omega])) ?_
          exact fun a w h => ⟨(), h.weakP (by (repeat' (first | exact True.intro | exact Imp.refl _ | refine ⟨?_, ?_⟩))) (Sub.self _)⟩
      rintro ⟨⟩
      ((repeat refine S.seq ?_); refine S.region (L.go (T := tt) tt_ok rfl rfl ?sd8 ?_); (try (case sd8 => (repeat' ((first | first | exact trivial | exact zA | with_reducible refine zI ?_ ?_ | exact zB | exact zC | exact zD | exact zE | rfl | exact zN rfl | omega | assumption | (simp; done) | (simp [splice]; done) | (simp; omega) | (unfold fits; omega) | (unfold fits; simp_all; omega) | (simp_all; omega) | (simp_all; done) | intro _ | exact zI ?_ ?_ | intro _))))); try (refine L.nil ?_))
      have hsum2 : lastSeq (pubS A 0 c bB m).seqs 0 ka + lastSeq (pubS A 0 c bB m).seqs 0 kbb ≤ 3 * ((i + 1 : Nat) : Int) := by
        rw [p4, p4]
        rcases hcc with e | e
        · rw [if_pos e, if_neg (by rw [e]; exact ka_ne), e]; omega
        · rw [if_neg (by rw [e]; exact ka_ne.symm), if_pos e, e]; omega
      exact fun a w h => ⟨⟨(i + 1, x1, pubS A 0 c bB m), by show i + 1 ≤ _; omega, p2, hao2, by show (pubS A 0 c bB m).l.length = i + 1; omega, hsum2⟩, by show l.length - (i + 1) < l.length - i; omega, h.weakP (by (repeat' (first | exact True.intro | exact Imp.refl _ | refine ⟨?_, ?_⟩))) (Sub.self _)⟩
    have h3n : i = l.length := by have := of_dec' h3; omega
    exact fun a w h => ⟨⟨(x, A), has, ⟨hao.ok, fun q k => Int.le_trans (hao.le q k) (by omega)⟩, by show A.l.length ≤ 10; omega⟩, h.weakP (by (repeat' (first | exact True.intro | exact Imp.refl _ | refine ⟨?_, ?_⟩))) (Sub.self _)⟩
  rintro ⟨⟨x, A⟩, has, hao, hal⟩
  dsimp only at has hao hal ⊢
  obtain ⟨S0, hS0⟩ : ∃ S0, S0 = A.seqs := ⟨_, rfl⟩
  obtain ⟨za, hza⟩ : ∃ za, za = lastSeq S0 0 ka := ⟨_, rfl⟩
  obtain ⟨zb, hzb⟩ : ∃ zb, zb = lastSeq S0 0 kbb := ⟨_, rfl⟩
  rw [← hS0, ← hza, ← hzb]
  repeat refine S.seq ?_
  refine S.region ?_
  refine L.callP rfl rfl rfl rfl rfl rfl rfl ⟨trivial, by (repeat' ((first | first | exact trivial | exact zA | with_reducible refine zI ?_ ?_ | exact zB | exact zC | exact zD | exact zE | rfl | exact zN rfl | omega | assumption | (simp; done) | (simp [splice]; done) | (simp; omega) | (unfold fits; omega) | (unfold fits; simp_all; omega) | (simp_all; omega) | (simp_all; done) | intro _ | exact zI ?_ ?_ | intro _)))⟩ rfl (Imps.refl _) new_p ?_
  refine L.alloc (T := tt) 61 tt_ok rfl rfl rfl rfl rfl fun b13 => ?_
  (refine L.store (T := tt) tt_ok rfl rfl rfl rfl rfl rfl ?sd33 ?_; (try (case sd33 => (repeat' ((first | first | exact trivial | exact zA | with_reducible refine zI ?_ ?_ | exact zB | exact zC | exact zD | exact zE | rfl | exact zN rfl | omega | assumption | (simp; done) | (simp [splice]; done) | (simp; omega) | (unfold fits; omega) | (unfold fits; simp_all; omega) | (simp_all; omega) | (simp_all; done) | intro _ | exact zI ?_ ?_ | intro _))))))
  refine L.nil ?_
  ((repeat refine S.seq ?_); refine S.region (L.go (T := tt) tt_ok rfl rfl ?sd9 ?_); (try (case sd9 => (repeat' ((first | first | exact trivial | exact zA | with_reducible refine zI ?_ ?_ | exact zB | exact zC | exact zD | exact zE | rfl | exact zN rfl | omega | assumption | (simp; done) | (simp [splice]; done) | (simp; omega) | (unfold fits; omega) | (unfold fits; simp_all; omega) | (simp_all; omega) | (simp_all; done) | intro _ | exact zI ?_ ?_ | intro _))))); try (refine L.nil ?_))
  refine rowsTo ((60, .blk b7 67 (w3 za zb)) :: (61, .blk b13 71 (Shard.cells ⟨false, 1, [], [], []⟩)) :: auR b mb x A) (by unfold auR; (repeat (first | exact Sub.refl _ | refine Sub.pick (by first | exact p0 | exact pS p0 | exact pS (pS p0) | exact pS (pS (pS p0)) | exact pS (pS (pS (pS p0))) | exact pS (pS (pS (pS (pS p0))))) ?_))) ?_
  repeat refine S.seq ?_
  refine S.cut (ι := { q : Value × AuD × Shard × (ByteArray → Int) // AS q.2.1 q.2.2.1 q.2.2.2 ∧ AO q.2.1 100 ∧ q.2.1.seqs = S0 }) (fun q => [(5, .ptr 40 b 0), (6, .v (.int .i64 (za + zb))), (7, .ptr 60 b7 0), (13, .ptr 61 b13 0)]) (fun q => ((60, .blk b7 67 (w3 za zb)) :: (61, .blk b13 71 q.1.2.2.1.cells) :: auR b mb q.1.1 q.1.2.1)) ?_ ?_
  · repeat refine S.seq ?_
    refine S.block (S.loop (ι := { q : Nat × Value × AuD × Shard × (ByteArray → Int) // q.1 ≤ order.length ∧ AS q.2.2.1 q.2.2.2.1 q.2.2.2.2 ∧ AO q.2.2.1 100 ∧ q.2.2.1.seqs = S0 }) (fun q => [(1, intsA order), (5, .ptr 40 b 0), (6, .v (.int .i64 (za + zb))), (7, .ptr 60 b7 0), (13, .ptr 61 b13 0), (14, .v (.int .i64 q.1.1))])
      (fun q => ((60, .blk b7 67 (w3 za zb)) :: (61, .blk b13 71 q.1.2.2.2.1.cells) :: auR b mb q.1.2.1 q.1.2.2.1)) (fun q => order.length - q.1.1) ?_ ?_)
    · exact fun a w h => ⟨⟨(0, x, A, ⟨false, 1, [], [], []⟩, fun _ => 0), Nat.zero_le _, has, hao, hS0.symm⟩, h.weakP (by (repeat' (first | exact True.intro | exact Imp.refl _ | refine ⟨?_, ?_⟩))) (Sub.self _)⟩
    clear hal
    clear has hao
    rintro ⟨⟨i, x, A, s, pz⟩, hi, has, hao, hsq⟩
    dsimp only at hi has hao hsq ⊢
    ((repeat refine S.seq ?_); refine S.region (L.go (T := tt) tt_ok rfl rfl ?sd10 ?_); (try (case sd10 => (repeat' ((first | first | exact trivial | exact zA | with_reducible refine zI ?_ ?_ | exact zB | exact zC | exact zD | exact zE | rfl | exact zN rfl | omega | assumption | (simp; done) | (simp [splice]; done) | (simp; omega) | (unfold fits; omega) | (unfold fits; simp_all; omega) | (simp_all; omega) | (simp_all; done) | intro _ | exact zI ?_ ?_ | intro _))))); try (refine L.nil ?_))
    ((repeat refine S.seq ?_); refine S.cond rfl (fun h5 => ?_) (fun h5 => ?_) <;> (try first | refine S.skip ?_ | refine S.exit ?_))
    · have h5n : i < order.length := by
        have h5' : (decide ((i : Int) < (order.length : Int)) && decide ((i : Int) < 60)) = true := h5
        rw [Bool.and_eq_true, decide_eq_true_eq] at h5'
        omega
      have hlen := hao.ok.len
      obtain ⟨Q, hQ⟩ : ∃ Q, Q = nextO A.l A.l.length := ⟨_, rfl⟩
      have hQl : Q.length ≤ A.l.length := by
        rw [hQ]
        unfold nextO
        rw [List.length_map, List.length_take]
        have := plcL_len A.l A.l.length
        omega
      repeat refine S.seq ?_
      refine S.block ?_
      repeat refine S.seq ?_
      refine S.region ?_
      (refine L.go (T := tt) tt_ok rfl rfl ?sd22 ?_; (try (case sd22 => (repeat' ((first | first | exact trivial | exact zA | with_reducible refine zI ?_ ?_ | exact zB | exact zC | exact zD | exact zE | rfl | exact zN rfl | omega | assumption | (simp; done) | (simp [splice]; done) | (simp; omega) | (unfold fits; omega) | (unfold fits; simp_all; omega) | (simp_all; omega) | (simp_all; done) | intro _ | exact zI ?_ ?_ | intro _))))); try (refine L.nil ?_))
      refine L.call (G := auR b mb x A) (H := [(60, .blk b7 67 (w3 za zb)), (61, .blk b13 71 s.cells)]) rfl rfl rfl rfl rfl rfl rfl ⟨trivial, by (repeat' ((first | first | exact trivial | exact zA | with_reducible refine zI ?_ ?_ | exact zB | exact zC | exact zD | exact zE | rfl | exact zN rfl | omega | assumption | (simp; done) | (simp [splice]; done) | (simp; omega) | (unfold fits; omega) | (unfold fits; simp_all; omega) | (simp_all; omega) | (simp_all; done) | intro _ | exact zI ?_ ?_ | intro _)))⟩ rfl (by exact Imps.refl [.ptr 40 b 0]) (by exact List.perm_append_comm (l₁ := [_, _])) (next_p b mb x A hao.ok) ?_
      rintro r F' ⟨y, rfl, rfl⟩
      rw [← hQ]
      refine freezeSlot 82 46 rfl rfl rfl ?_
      (refine L.go (T := tt) tt_ok rfl rfl ?sd23 ?_; (try (case sd23 => (repeat' ((first | first | exact trivial | exact zA | with_reducible refine zI ?_ ?_ | exact zB | exact zC | exact zD | exact zE | rfl | exact zN rfl | omega | assumption | (simp; done) | (simp [splice]; done) | (simp; omega) | (unfold fits; omega) | (unfold fits; simp_all; omega) | (simp_all; omega) | (simp_all; done) | intro _ | exact zI ?_ ?_ | intro _))))); try (refine L.nil ?_))
      refine rowsTo ((60, .blk b7 67 (w3 za zb)) :: (61, .blk b13 71 s.cells) :: auR b mb x A) (Sub.of _ (by rw [List.append_nil]; exact List.perm_append_comm (l₁ := auR b mb x A))) ?_
      ((repeat refine S.seq ?_); refine S.region (L.go (T := tt) tt_ok rfl rfl ?sd11 ?_); (try (case sd11 => (repeat' ((first | first | exact trivial | exact zA | with_reducible refine zI ?_ ?_ | exact zB | exact zC | exact zD | exact zE | rfl | exact zN rfl | omega | assumption | (simp; done) | (simp [splice]; done) | (simp; omega) | (unfold fits; omega) | (unfold fits; simp_all; omega) | (simp_all; omega) | (simp_all; done) | intro _ | exact zI ?_ ?_ | intro _))))); try (refine L.nil ?_))
      ((repeat refine S.seq ?_); refine S.cond rfl (fun h6 => ?_) (fun h6 => ?_) <;> (try first | refine S.skip ?_ | refine S.exit ?_))
      · exact fun a w h => ⟨⟨(x, A, s, pz), has, hao, hsq⟩, h.weakP (by (repeat' (first | exact True.intro | exact Imp.refl _ | refine ⟨?_, ?_⟩))) (Sub.self _)⟩
      have h6n : 0 < Q.length := by
        have h6' : ((Q.length : Int) == 0) = false := h6
        rw [beq_eq_false_iff_ne] at h6'
        omega
      have hw := uwraps (n := Q.length) (by omega)
      obtain ⟨J, hJ, hJe⟩ := umod ((IntKind.u64.wrap (order.getD (i : Int).toNat default)).tdiv 2) (Q.length : Int) (by omega) (by omega)
      rw [← hw] at hJe
      obtain ⟨o, ho⟩ : ∃ o, o = Q.getD J default := ⟨_, rfl⟩
      obtain ⟨j, hj, hjf, hje⟩ := next_at (l := A.l) (j := J) (by rw [← hQ]; omega)
      rw [← hQ, ← ho] at hje
      obtain ⟨q1, q2, q3⟩ := has.put hj hjf hje
      have hob := has.obs o (by rw [hje, getD_get hj]; exact List.getElem_mem _)
      have hrow := row_len hob.row
      ((repeat refine S.seq ?_); refine S.region (L.go (T := tt) tt_ok rfl rfl ?sd12 ?_); (try (case sd12 => (repeat' ((first | first | exact trivial | exact zA | with_reducible refine zI ?_ ?_ | exact zB | exact zC | exact zD | exact zE | rfl | exact zN rfl | omega | assumption | (simp; done) | (simp [splice]; done) | (simp; omega) | (unfold fits; omega) | (unfold fits; simp_all; omega) | (simp_all; omega) | (simp_all; done) | intro _ | exact zI ?_ ?_ | intro _))))); try (refine L.nil ?_))
      refine L.alloc (T := tt) 62 tt_ok rfl rfl rfl rfl rfl fun b16 => ?_
      (refine L.store (T := tt) tt_ok rfl rfl rfl rfl rfl rfl ?sd34 ?_; (try (case sd34 => (repeat' ((first | first | exact trivial | exact zA | with_reducible refine zI ?_ ?_ | exact zB | exact zC | exact zD | exact zE | rfl | exact zN rfl | omega | assumption | (simp; done) | (simp [splice]; done) | (simp; omega) | (unfold fits; omega) | (unfold fits; simp_all; omega) | (simp_all; omega) | (simp_all; done) | intro _ | exact zI ?_ ?_ | intro _))))))
      refine L.nil ?_
      refine freezeBlk 16 62 rfl rfl rfl ?_
      refine rowsEq ((60, .blk b7 67 (w3 za zb)) :: (61, .blk b13 71 s.cells) :: auR b mb x A) rfl ?_
      refine slotAs 16 (.pel 2 o.cells) rfl (Imp.of_eq ?_) ?_
      · show AV.pel _ (gOf OutD.cells Q (IntKind.i64.wrap ((IntKind.u64.wrap ((IntKind.u64.wrap (order.getD (i : Int).toNat default)).tdiv 2)).tmod (IntKind.u64.wrap (Q.length : Int)))).toNat) = _
        rw [hJe, Int.toNat_natCast, gOf, ← ho]
        rfl
      repeat refine S.seq ?_
      refine S.region ?_
      (refine L.go (T := tt) tt_ok rfl rfl ?sd24 ?_; (try (case sd24 => (repeat' ((first | first | exact trivial | exact zA | with_reducible refine zI ?_ ?_ | exact zB | exact zC | exact zD | exact zE | rfl | exact zN rfl | omega | assumption | (simp; done) | (simp [splice]; done) | (simp; omega) | (unfold fits; omega) | (unfold fits; simp_all; omega) | (simp_all; omega) | (simp_all; done) | intro _ | exact zI ?_ ?_ | intro _))))); try (refine L.nil ?_))
      refine L.callP rfl rfl rfl rfl rfl rfl rfl ⟨trivial, by (repeat' ((first | first | exact trivial | exact zA | with_reducible refine zI ?_ ?_ | exact zB | exact zC | exact zD | exact zE | rfl | exact zN rfl | omega | assumption | (simp; done) | (simp [splice]; done) | (simp; omega) | (unfold fits; omega) | (unfold fits; simp_all; omega) | (simp_all; omega) | (simp_all; done) | intro _ | exact zI ?_ ?_ | intro _)))⟩ rfl (Imps.refl _) (put_p s o.l has.may.small) ?_
      obtain ⟨e, he⟩ : ∃ e, e = putE s o.l := ⟨_, rfl⟩
      rw [← he] at q1 q2 q3 ⊢
      obtain ⟨s2, hs2⟩ : ∃ s2, s2 = if e = 0 then putS s o.l else s := ⟨_, rfl⟩
      rw [← hs2] at q2 q3 ⊢
      (refine L.go (T := tt) tt_ok rfl rfl ?sd25 ?_; (try (case sd25 => (repeat' ((first | first | exact trivial | exact zA | with_reducible refine zI ?_ ?_ | exact zB | exact zC | exact zD | exact zE | rfl | exact zN rfl | omega | assumption | (simp; done) | (simp [splice]; done) | (simp; omega) | (unfold fits; omega) | (unfold fits; simp_all; omega) | (simp_all; omega) | (simp_all; done) | intro _ | exact zI ?_ ?_ | intro _))))); try (refine L.nil ?_))
      refine L.alloc (T := tt) 63 tt_ok rfl rfl rfl rfl rfl fun b17 => ?_
      (refine L.store (T := tt) tt_ok rfl rfl rfl rfl rfl rfl ?sd35 ?_; (try (case sd35 => (repeat' ((first | first | exact trivial | exact zA | with_reducible refine zI ?_ ?_ | exact zB | exact zC | exact zD | exact zE | rfl | exact zN rfl | omega | assumption | (simp; done) | (simp [splice]; done) | (simp; omega) | (unfold fits; omega) | (unfold fits; simp_all; omega) | (simp_all; omega) | (simp_all; done) | intro _ | exact zI ?_ ?_ | intro _))))))
      (refine L.go (T := tt) tt_ok rfl rfl ?sd26 ?_; (try (case sd26 => (repeat' ((first | first | exact trivial | exact zA | with_reducible refine zI ?_ ?_ | exact zB | exact zC | exact zD | exact zE | rfl | exact zN rfl | omega | assumption | (simp; done) | (simp [splice]; done) | (simp; omega) | (unfold fits; omega) | (unfold fits; simp_all; omega) | (simp_all; omega) | (simp_all; done) | intro _ | exact zI ?_ ?_ | intro _))))); try (refine L.nil ?_))
      repeat refine S.seq ?_
      refine S.region ?_
      (refine L.go (T := tt) tt_ok rfl rfl ?sd27 ?_; (try (case sd27 => (repeat' ((first | first | exact trivial | exact zA | with_reducible refine zI ?_ ?_ | exact zB | exact zC | exact zD | exact zE | rfl | exact zN rfl | omega | assumption | (simp; done) | (simp [splice]; done) | (simp; omega) | (unfold fits; omega) | (unfold fits; simp_all; omega) | (simp_all; omega) | (simp_all; done) | intro _ | exact zI ?_ ?_ | intro _))))); try (refine L.nil ?_))
      refine L.callG rfl rfl rfl rfl rfl rfl rfl (fun _ => ⟨trivial, by (repeat' ((first | first | exact trivial | exact zA | with_reducible refine zI ?_ ?_ | exact zB | exact zC | exact zD | exact zE | rfl | exact zN rfl | omega | assumption | (simp; done) | (simp [splice]; done) | (simp; omega) | (unfold fits; omega) | (unfold fits; simp_all; omega) | (simp_all; omega) | (simp_all; done) | intro _ | exact zI ?_ ?_ | intro _)))⟩) rfl (Imps.refl _) (fun _ => (same_p s s2)) ?_
      (refine L.go (T := tt) tt_ok rfl rfl ?sd28 ?_; (try (case sd28 => (repeat' ((first | first | exact trivial | exact zA | with_reducible refine zI ?_ ?_ | exact zB | exact zC | exact zD | exact zE | rfl | exact zN rfl | omega | assumption | (simp; done) | (simp [splice]; done) | (simp; omega) | (unfold fits; omega) | (unfold fits; simp_all; omega) | (simp_all; omega) | (simp_all; done) | intro _ | exact zI ?_ ?_ | intro _))))); try (refine L.nil ?_))
      refine slotAs 122 (.v (.bool false)) rfl (Imp.of_eq ?_) ?_
      · show AV.v (Value.bool ((e != 0 && e != 8) || (e == 8 && !same s s2))) = _
        rcases q1 with e0 | e8
        · rw [e0]; rfl
        · have : s2 = s := by rw [hs2, if_neg (by rw [e8]; decide)]
          rw [e8, this, same_eq, decide_eq_true rfl]
          rfl
      ((repeat refine S.seq ?_); refine S.cond rfl (fun h7 => ?_) (fun h7 => ?_) <;> (try first | refine S.skip ?_ | refine S.exit ?_))
      · cases h7
      ((repeat refine S.seq ?_); refine S.region (L.go (T := tt) tt_ok rfl rfl ?sd13 ?_); (try (case sd13 => (repeat' ((first | first | exact trivial | exact zA | with_reducible refine zI ?_ ?_ | exact zB | exact zC | exact zD | exact zE | rfl | exact zN rfl | omega | assumption | (simp; done) | (simp [splice]; done) | (simp; omega) | (unfold fits; omega) | (unfold fits; simp_all; omega) | (simp_all; omega) | (simp_all; done) | intro _ | exact zI ?_ ?_ | intro _))))); try (refine L.nil ?_))
      (refine L.store (T := tt) tt_ok rfl rfl rfl rfl rfl rfl ?sd36 ?_; (try (case sd36 => (repeat' ((first | first | exact trivial | exact zA | with_reducible refine zI ?_ ?_ | exact zB | exact zC | exact zD | exact zE | rfl | exact zN rfl | omega | assumption | (simp; done) | (simp [splice]; done) | (simp; omega) | (unfold fits; omega) | (unfold fits; simp_all; omega) | (simp_all; omega) | (simp_all; done) | intro _ | exact zI ?_ ?_ | intro _))))))
      refine L.nil ?_
      refine rowsEq ((63, .blk b17 71 s2.cells) :: ((60, .blk b7 67 (w3 za zb)) :: (61, .blk b13 71 s2.cells) :: auR b mb x A)) rfl ?_
      refine rowsTo _ (Sub.drop (Sub.self _)) ?_
      obtain ⟨N1, hN1, hN1e⟩ := and1s (order.getD (i : Int).toNat default)
      obtain ⟨t1, t2, t3, t4⟩ := q2.told hj hjf hje q3 q1
      repeat refine S.seq ?_
      refine S.cut (ι := { q : Value × AuD × (ByteArray → Int) // AS q.2.1 s2 q.2.2 ∧ AO q.2.1 100 ∧ q.2.1.seqs = S0 }) (fun q => [(1, intsA order), (5, .ptr 40 b 0), (6, .v (.int .i64 (za + zb))), (7, .ptr 60 b7 0), (13, .ptr 61 b13 0), (14, .v (.int .i64 i)), (149, .v (.bool false))]) (fun q => ((60, .blk b7 67 (w3 za zb)) :: (61, .blk b13 71 s2.cells) :: auR b mb q.1.1 q.1.2.1)) ?_ ?_
      · have hN : N1 = 0 ∨ N1 = 1 := by omega
        rcases hN with rfl | rfl
        · refine S.draw [] mixed ?_
          (refine H.ts (T := tt) [0, 1, 2, 3, 4] tt_ok (by kernel_rfl) (by kernel_rfl) (by kernel_rfl) (by intro ch a a' w h; obtain ⟨_, _, _, _, _, h, _⟩ := h; cases h) rfl ?sd42 ?_; (try (case sd42 => (repeat' ((first | first | exact trivial | exact zA | with_reducible refine zI ?_ ?_ | exact zB | exact zC | exact zD | exact zE | rfl | exact zN rfl | omega | assumption | (simp; done) | (simp [splice]; done) | (simp; omega) | (unfold fits; omega) | (unfold fits; simp_all; omega) | (simp_all; omega) | (simp_all; done) | intro _ | exact zI ?_ ?_ | intro _))))))
          refine H.tell 128 (.v (.int .i64 0)) rfl (Imp.of_eq (congrArg (fun z => AV.v (Value.int IntKind.i64 z)) hN1e)) ?_
          (refine H.ts (T := tt) [5, 6, 7, 8, 9, 10, 11, 12, 13, 14, 15, 16, 17, 18, 19, 20, 21, 22] tt_ok (by kernel_rfl) (by kernel_rfl) (by kernel_rfl) (by intro ch a a' w h; obtain ⟨_, _, _, _, _, h, _⟩ := h; cases h) rfl ?sd43 ?_; (try (case sd43 => (repeat' ((first | first | exact trivial | exact zA | with_reducible refine zI ?_ ?_ | exact zB | exact zC | exact zD | exact zE | rfl | exact zN rfl | omega | assumption | (simp; done) | (simp [splice]; done) | (simp; omega) | (unfold fits; omega) | (unfold fits; simp_all; omega) | (simp_all; omega) | (simp_all; done) | intro _ | exact zI ?_ ?_ | intro _))))))
          refine H.o1 23 rfl (by kernel_rfl) (by kernel_rfl) (O.unmet (r := .v (.int .i64 0)) rfl (by decide) rfl rfl) (.inr rfl) rfl fun _ => ?_
          (refine H.ts (T := tt) [24, 25] tt_ok (by kernel_rfl) (by kernel_rfl) (by kernel_rfl) (by intro ch a a' w h; obtain ⟨_, _, _, _, _, h, _⟩ := h; cases h) rfl ?sd44 ?_; (try (case sd44 => (repeat' ((first | first | exact trivial | exact zA | with_reducible refine zI ?_ ?_ | exact zB | exact zC | exact zD | exact zE | rfl | exact zN rfl | omega | assumption | (simp; done) | (simp [splice]; done) | (simp; omega) | (unfold fits; omega) | (unfold fits; simp_all; omega) | (simp_all; omega) | (simp_all; done) | intro _ | exact zI ?_ ?_ | intro _))))))
          refine H.done (by kernel_rfl) ?_
          exact fun a w h => ⟨⟨(x, A, pz), q2, hao, hsq⟩, h.weakP (by (repeat' (first | exact True.intro | exact Imp.refl _ | refine ⟨?_, ?_⟩))) (Sub.self _)⟩
        · refine S.draw [] mixed ?_
          (refine H.ts (T := tt) [0, 1, 2, 3, 4] tt_ok (by kernel_rfl) (by kernel_rfl) (by kernel_rfl) (by intro ch a a' w h; obtain ⟨_, _, _, _, _, h, _⟩ := h; cases h) rfl ?sd45 ?_; (try (case sd45 => (repeat' ((first | first | exact trivial | exact zA | with_reducible refine zI ?_ ?_ | exact zB | exact zC | exact zD | exact zE | rfl | exact zN rfl | omega | assumption | (simp; done) | (simp [splice]; done) | (simp; omega) | (unfold fits; omega) | (unfold fits; simp_all; omega) | (simp_all; omega) | (simp_all; done) | intro _ | exact zI ?_ ?_ | intro _))))))
          refine H.tell 128 (.v (.int .i64 1)) rfl (Imp.of_eq (congrArg (fun z => AV.v (Value.int IntKind.i64 z)) hN1e)) ?_
          (refine H.ts (T := tt) [5, 6, 7, 8, 9, 10, 11, 12, 13, 14, 15, 16, 17, 18, 19, 20, 21, 22] tt_ok (by kernel_rfl) (by kernel_rfl) (by kernel_rfl) (by intro ch a a' w h; obtain ⟨_, _, _, _, _, h, _⟩ := h; cases h) rfl ?sd46 ?_; (try (case sd46 => (repeat' ((first | first | exact trivial | exact zA | with_reducible refine zI ?_ ?_ | exact zB | exact zC | exact zD | exact zE | rfl | exact zN rfl | omega | assumption | (simp; done) | (simp [splice]; done) | (simp; omega) | (unfold fits; omega) | (unfold fits; simp_all; omega) | (simp_all; omega) | (simp_all; done) | intro _ | exact zI ?_ ?_ | intro _))))))
          refine H.o1 23 rfl (by kernel_rfl) (by kernel_rfl) (O.callT (G := auR b mb x A) (H := [(60, .blk b7 67 (w3 za zb)), (61, .blk b13 71 s2.cells)]) rfl rfl rfl rfl rfl rfl rfl rfl ⟨trivial, by (repeat' ((first | first | exact trivial | exact zA | with_reducible refine zI ?_ ?_ | exact zB | exact zC | exact zD | exact zE | rfl | exact zN rfl | omega | assumption | (simp; done) | (simp [splice]; done) | (simp; omega) | (unfold fits; omega) | (unfold fits; simp_all; omega) | (simp_all; omega) | (simp_all; done) | intro _ | exact zI ?_ ?_ | intro _)))⟩ rfl (by exact Imps.refl [.ptr 40 b 0, .v (.int .i64 0), .v (.string o.key0), .v (.int .i64 (lastM o).seq), .v (.int .i64 e)]) (by exact List.perm_append_comm (l₁ := [_, _])) (told_p b mb x A 0 o.key0 (lastM o).seq e hao.ok)) (.inl (by kernel_rfl)) (by kernel_rfl) fun q => ?_
          obtain ⟨⟨r, F'⟩, x2, e1, e2⟩ := q
          dsimp only at e1 e2
          subst e1 e2
          rw [t1]
          (refine H.ts (T := tt) [24, 25] tt_ok (by kernel_rfl) (by kernel_rfl) (by kernel_rfl) (by intro ch a a' w h; obtain ⟨_, _, _, _, _, h, _⟩ := h; cases h) rfl ?sd47 ?_; (try (case sd47 => (repeat' ((first | first | exact trivial | exact zA | with_reducible refine zI ?_ ?_ | exact zB | exact zC | exact zD | exact zE | rfl | exact zN rfl | omega | assumption | (simp; done) | (simp [splice]; done) | (simp; omega) | (unfold fits; omega) | (unfold fits; simp_all; omega) | (simp_all; omega) | (simp_all; done) | intro _ | exact zI ?_ ?_ | intro _))))))
          refine H.done (by kernel_rfl) ?_
          refine rowsTo ((60, .blk b7 67 (w3 za zb)) :: (61, .blk b13 71 s2.cells) :: auR b mb x2 (toldS A 0 o.key0 (lastM o).seq e)) (Sub.of _ (by rw [List.append_nil]; exact List.perm_append_comm (l₁ := auR b mb x2 (toldS A 0 o.key0 (lastM o).seq e)))) ?_
          have hao2 : AO (toldS A 0 o.key0 (lastM o).seq e) 100 := ⟨hao.ok.told 0 o.key0 (lastM o).seq e, fun q k => by rw [t3]; exact hao.le q k⟩
          exact fun a w h => ⟨⟨(x2, toldS A 0 o.key0 (lastM o).seq e, _), t4, hao2, t3.trans hsq⟩, h.weakP (by (repeat' (first | exact True.intro | exact Imp.refl _ | refine ⟨?_, ?_⟩))) (Sub.self _)⟩
      clear q2 q3 t1 t2 t3 t4 hao hsq has hje hjf hj hQ hQl hlen
      clear A x pz
      rintro ⟨⟨x, A, pz⟩, has, hao, hsq⟩
      dsimp only at has hao hsq ⊢
      ((repeat refine S.seq ?_); refine S.cond rfl (fun h8 => ?_) (fun h8 => ?_) <;> (try first | refine S.skip ?_ | refine S.exit ?_))
      · cases h8
      ((repeat refine S.seq ?_); refine S.region (L.go (T := tt) tt_ok rfl rfl ?sd14 ?_); (try (case sd14 => (repeat' ((first | first | exact trivial | exact zA | with_reducible refine zI ?_ ?_ | exact zB | exact zC | exact zD | exact zE | rfl | exact zN rfl | omega | assumption | (simp; done) | (simp [splice]; done) | (simp; omega) | (unfold fits; omega) | (unfold fits; simp_all; omega) | (simp_all; omega) | (simp_all; done) | intro _ | exact zI ?_ ?_ | intro _))))); try (refine L.nil ?_))
      exact fun a w h => ⟨⟨(i + 1, x, A, s2, pz), by show i + 1 ≤ _; omega, has, hao, hsq⟩, by show order.length - (i + 1) < order.length - i; omega, h.weakP (by (repeat' (first | exact True.intro | exact Imp.refl _ | refine ⟨?_, ?_⟩))) (Sub.self _)⟩
    exact fun a w h => ⟨⟨(x, A, s, pz), has, hao, hsq⟩, h.weakP (by (repeat' (first | exact True.intro | exact Imp.refl _ | refine ⟨?_, ?_⟩))) (Sub.self _)⟩
  rintro ⟨⟨x, A, s, pz⟩, has, hao, hsq⟩
  dsimp only at has hao hsq ⊢
  repeat refine S.seq ?_
  refine S.cut (ι := { s : Shard // May s ∧ (s.ready.length : Int) = za + zb ∧ lastSeq s.marks 2 ka = za ∧ lastSeq s.marks 2 kbb = zb }) (fun q => [(6, .v (.int .i64 (za + zb))), (7, .ptr 60 b7 0), (13, .ptr 61 b13 0)]) (fun q => [(60, .blk b7 67 (w3 za zb)), (61, .blk b13 71 q.1.cells)]) ?_ ?_
  · repeat refine S.seq ?_
    refine S.block (S.loop (ι := { q : Value × AuD × Shard × (ByteArray → Int) // AS q.2.1 q.2.2.1 q.2.2.2 ∧ AO q.2.1 100 ∧ q.2.1.seqs = S0 }) (fun q => [(5, .ptr 40 b 0), (6, .v (.int .i64 (za + zb))), (7, .ptr 60 b7 0), (13, .ptr 61 b13 0)]) (fun q => ((60, .blk b7 67 (w3 za zb)) :: (61, .blk b13 71 q.1.2.2.1.cells) :: auR b mb q.1.1 q.1.2.1)) (fun q => q.1.2.1.l.length) ?_ ?_)
    · exact fun a w h => ⟨⟨(x, A, s, pz), has, hao, hsq⟩, h.weakP (by (repeat' (first | exact True.intro | exact Imp.refl _ | refine ⟨?_, ?_⟩))) (Sub.self _)⟩
    clear hsq has hao
    clear A s x pz
    rintro ⟨⟨x, A, s, pz⟩, has, hao, hsq⟩
    dsimp only at has hao hsq ⊢
    have hlen := hao.ok.len
    repeat refine S.seq ?_
    refine S.region ?_
    (refine L.go (T := tt) tt_ok rfl rfl ?sd29 ?_; (try (case sd29 => (repeat' ((first | first | exact trivial | exact zA | with_reducible refine zI ?_ ?_ | exact zB | exact zC | exact zD | exact zE | rfl | exact zN rfl | omega | assumption | (simp; done) | (simp [splice]; done) | (simp; omega) | (unfold fits; omega) | (unfold fits; simp_all; omega) | (simp_all; omega) | (simp_all; done) | intro _ | exact zI ?_ ?_ | intro _))))); try (refine L.nil ?_))
    refine L.call (G := auR b mb x A) (H := [(60, .blk b7 67 (w3 za zb)), (61, .blk b13 71 s.cells)]) rfl rfl rfl rfl rfl rfl rfl ⟨trivial, by (repeat' ((first | first | exact trivial | exact zA | with_reducible refine zI ?_ ?_ | exact zB | exact zC | exact zD | exact zE | rfl | exact zN rfl | omega | assumption | (simp; done) | (simp [splice]; done) | (simp; omega) | (unfold fits; omega) | (unfold fits; simp_all; omega) | (simp_all; omega) | (simp_all; done) | intro _ | exact zI ?_ ?_ | intro _)))⟩ rfl (by exact Imps.refl [.ptr 40 b 0]) (by exact List.perm_append_comm (l₁ := [_, _])) (alen_p b mb x A) ?_
    rintro r F' ⟨rfl, rfl⟩
    refine rowsTo ((60, .blk b7 67 (w3 za zb)) :: (61, .blk b13 71 s.cells) :: auR b mb x A) (Sub.of _ (by rw [List.append_nil]; exact List.perm_append_comm (l₁ := auR b mb x A))) ?_
    (refine L.go (T := tt) tt_ok rfl rfl ?sd30 ?_; (try (case sd30 => (repeat' ((first | first | exact trivial | exact zA | with_reducible refine zI ?_ ?_ | exact zB | exact zC | exact zD | exact zE | rfl | exact zN rfl | omega | assumption | (simp; done) | (simp [splice]; done) | (simp; omega) | (unfold fits; omega) | (unfold fits; simp_all; omega) | (simp_all; omega) | (simp_all; done) | intro _ | exact zI ?_ ?_ | intro _))))); try (refine L.nil ?_))
    ((repeat refine S.seq ?_); refine S.cond rfl (fun h5 => ?_) (fun h5 => ?_) <;> (try first | refine S.skip ?_ | refine S.exit ?_))
    · have h5n : 0 < A.l.length := by have := of_dec h5; omega
      obtain ⟨Q, hQ⟩ : ∃ Q, Q = nextO A.l A.l.length := ⟨_, rfl⟩
      have hQp : 0 < Q.length := by rw [hQ]; exact next_pos h5n
      have hQl : Q.length ≤ A.l.length := by
        rw [hQ]
        unfold nextO
        rw [List.length_map, List.length_take]
        have := plcL_len A.l A.l.length
        omega
      repeat refine S.seq ?_
      refine S.block ?_
      repeat refine S.seq ?_
      refine S.region ?_
      (refine L.go (T := tt) tt_ok rfl rfl ?sd31 ?_; (try (case sd31 => (repeat' ((first | first | exact trivial | exact zA | with_reducible refine zI ?_ ?_ | exact zB | exact zC | exact zD | exact zE | rfl | exact zN rfl | omega | assumption | (simp; done) | (simp [splice]; done) | (simp; omega) | (unfold fits; omega) | (unfold fits; simp_all; omega) | (simp_all; omega) | (simp_all; done) | intro _ | exact zI ?_ ?_ | intro _))))); try (refine L.nil ?_))
      refine L.call (G := auR b mb x A) (H := [(60, .blk b7 67 (w3 za zb)), (61, .blk b13 71 s.cells)]) rfl rfl rfl rfl rfl rfl rfl ⟨trivial, by (repeat' ((first | first | exact trivial | exact zA | with_reducible refine zI ?_ ?_ | exact zB | exact zC | exact zD | exact zE | rfl | exact zN rfl | omega | assumption | (simp; done) | (simp [splice]; done) | (simp; omega) | (unfold fits; omega) | (unfold fits; simp_all; omega) | (simp_all; omega) | (simp_all; done) | intro _ | exact zI ?_ ?_ | intro _)))⟩ rfl (by exact Imps.refl [.ptr 40 b 0]) (by exact List.perm_append_comm (l₁ := [_, _])) (next_p b mb x A hao.ok) ?_
      rintro r F' ⟨y, rfl, rfl⟩
      rw [← hQ]
      refine freezeSlot 154 46 rfl rfl rfl ?_
      (refine L.go (T := tt) tt_ok rfl rfl ?sd32 ?_; (try (case sd32 => (repeat' ((first | first | exact trivial | exact zA | with_reducible refine zI ?_ ?_ | exact zB | exact zC | exact zD | exact zE | rfl | exact zN rfl | omega | assumption | (simp; done) | (simp [splice]; done) | (simp; omega) | (unfold fits; omega) | (unfold fits; simp_all; omega) | (simp_all; omega) | (simp_all; done) | intro _ | exact zI ?_ ?_ | intro _))))); try (refine L.nil ?_))
      refine rowsTo ((60, .blk b7 67 (w3 za zb)) :: (61, .blk b13 71 s.cells) :: auR b mb x A) (Sub.of _ (by rw [List.append_nil]; exact List.perm_append_comm (l₁ := auR b mb x A))) ?_
      ((repeat refine S.seq ?_); refine S.region (L.go (T := tt) tt_ok rfl rfl ?sd15 ?_); (try (case sd15 => (repeat' ((first | first | exact trivial | exact zA | with_reducible refine zI ?_ ?_ | exact zB | exact zC | exact zD | exact zE | rfl | exact zN rfl | omega | assumption | (simp; done) | (simp [splice]; done) | (simp; omega) | (unfold fits; omega) | (unfold fits; simp_all; omega) | (simp_all; omega) | (simp_all; done) | intro _ | exact zI ?_ ?_ | intro _))))); try (refine L.nil ?_))
      ((repeat refine S.seq ?_); refine S.cond rfl (fun h6 => ?_) (fun h6 => ?_) <;> (try first | refine S.skip ?_ | refine S.exit ?_))
      · exfalso
        have h6' : ((Q.length : Int) == 0) = true := h6
        rw [beq_iff_eq] at h6'
        omega
      obtain ⟨o, ho⟩ : ∃ o, o = Q.getD 0 default := ⟨_, rfl⟩
      obtain ⟨j, hj, hjf, hje⟩ := next_at (l := A.l) (j := 0) (by rw [← hQ]; exact hQp)
      rw [← hQ, ← ho] at hje
      obtain ⟨q1, q2, q3⟩ := has.put hj hjf hje
      have hob := has.obs o (by rw [hje, getD_get hj]; exact List.getElem_mem _)
      have hrow := row_len hob.row
      obtain ⟨e, he⟩ : ∃ e, e = putE s o.l := ⟨_, rfl⟩
      obtain ⟨s2, hs2⟩ : ∃ s2, s2 = if e = 0 then putS s o.l else s := ⟨_, rfl⟩
      have hput : PFn Tryd.prog 36 [s.av, msgs (Q.getD 0 default).l] (.tup [s2.av, .v (.int .i64 e)]) := by
        rw [hs2, he, ho]
        exact put_p s _ has.may.small
      rw [← he, ← hs2] at q2 q3
      rw [← he] at q1
      repeat refine S.seq ?_
      refine S.cut (ι := Nat) (fun k => [(5, .ptr 40 b 0), (6, .v (.int .i64 (za + zb))), (7, .ptr 60 b7 0), (13, .ptr 61 b13 0), (19, .lst 2 Q.length (gOf OutD.cells Q)), (20, .ptr 64 k 0), (21, .v (.int .i64 e))]) (fun k => (64, .blk k 71 s2.cells) :: ((60, .blk b7 67 (w3 za zb)) :: (61, .blk b13 71 s.cells) :: auR b mb x A)) ?_ ?_
      · refine S.draw [(0, [61])] mixed ?_
        (refine H.ts (T := tt) [0, 1, 2, 3, 4] tt_ok (by kernel_rfl) (by kernel_rfl) (by kernel_rfl) (by intro ch a a' w h; obtain ⟨_, _, _, _, _, h, _⟩ := h; cases h) rfl ?sd48 ?_; (try (case sd48 => (repeat' ((first | first | exact trivial | exact zA | with_reducible refine zI ?_ ?_ | exact zB | exact zC | exact zD | exact zE | rfl | exact zN rfl | omega | assumption | (simp; done) | (simp [splice]; done) | (simp; omega) | (unfold fits; omega) | (unfold fits; simp_all; omega) | (simp_all; omega) | (simp_all; done) | intro _ | exact zI ?_ ?_ | intro _))))))
        refine H.o2 5 9 rfl rfl (by kernel_rfl) (by kernel_rfl) (O.callP rfl rfl rfl rfl rfl rfl rfl ⟨trivial, by (repeat' ((first | first | exact trivial | exact zA | with_reducible refine zI ?_ ?_ | exact zB | exact zC | exact zD | exact zE | rfl | exact zN rfl | omega | assumption | (simp; done) | (simp [splice]; done) | (simp; omega) | (unfold fits; omega) | (unfold fits; simp_all; omega) | (simp_all; omega) | (simp_all; done) | intro _ | exact zI ?_ ?_ | intro _)))⟩ rfl (by exact Imps.refl _) hput) (O.alloc (T := tt) 64 tt_ok rfl rfl rfl rfl rfl) (.inr rfl) (.inr rfl) rfl rfl (fun _ => ?_) (fun b20 => ?_)
        · refine H.rebase ?_
          (refine H.ts (T := tt) [6, 7, 8] tt_ok (by kernel_rfl) (by kernel_rfl) (by kernel_rfl) (by intro ch a a' w h; obtain ⟨_, _, _, _, _, h, _⟩ := h; cases h) rfl ?sd49 ?_; (try (case sd49 => (repeat' ((first | first | exact trivial | exact zA | with_reducible refine zI ?_ ?_ | exact zB | exact zC | exact zD | exact zE | rfl | exact zN rfl | omega | assumption | (simp; done) | (simp [splice]; done) | (simp; omega) | (unfold fits; omega) | (unfold fits; simp_all; omega) | (simp_all; omega) | (simp_all; done) | intro _ | exact zI ?_ ?_ | intro _))))))
          refine H.o1 9 rfl (by kernel_rfl) (by kernel_rfl) (O.alloc (T := tt) 64 tt_ok rfl rfl rfl rfl rfl) (.inr rfl) rfl fun b20 => ?_
          (refine H.store (T := tt) 10 rfl (by kernel_rfl) (by kernel_rfl) tt_ok rfl rfl rfl rfl rfl rfl ?sd61 rfl (by kernel_rfl) ?_; (try (case sd61 => (repeat' ((first | first | exact trivial | exact zA | with_reducible refine zI ?_ ?_ | exact zB | exact zC | exact zD | exact zE | rfl | exact zN rfl | omega | assumption | (simp; done) | (simp [splice]; done) | (simp; omega) | (unfold fits; omega) | (unfold fits; simp_all; omega) | (simp_all; omega) | (simp_all; done) | intro _ | exact zI ?_ ?_ | intro _))))))
          (refine H.ts (T := tt) [11] tt_ok (by kernel_rfl) (by kernel_rfl) (by kernel_rfl) (by intro ch a a' w h; obtain ⟨_, _, _, _, _, h, _⟩ := h; cases h) rfl ?sd50 ?_; (try (case sd50 => (repeat' ((first | first | exact trivial | exact zA | with_reducible refine zI ?_ ?_ | exact zB | exact zC | exact zD | exact zE | rfl | exact zN rfl | omega | assumption | (simp; done) | (simp [splice]; done) | (simp; omega) | (unfold fits; omega) | (unfold fits; simp_all; omega) | (simp_all; omega) | (simp_all; done) | intro _ | exact zI ?_ ?_ | intro _))))))
          refine H.done (by kernel_rfl) ?_
          exact fun a w h => ⟨b20, h.weakP (by (repeat' (first | exact True.intro | exact Imp.refl _ | refine ⟨?_, ?_⟩))) (Sub.self _)⟩
        · refine H.callP 5 rfl (by kernel_rfl) (by kernel_rfl) rfl rfl rfl rfl rfl rfl rfl ⟨trivial, by (repeat' ((first | first | exact trivial | exact zA | with_reducible refine zI ?_ ?_ | exact zB | exact zC | exact zD | exact zE | rfl | exact zN rfl | omega | assumption | (simp; done) | (simp [splice]; done) | (simp; omega) | (unfold fits; omega) | (unfold fits; simp_all; omega) | (simp_all; omega) | (simp_all; done) | intro _ | exact zI ?_ ?_ | intro _)))⟩ rfl (by exact Imps.refl _) (hput) ?_
          refine H.rebase ?_
          (refine H.ts (T := tt) [6, 7, 8] tt_ok (by kernel_rfl) (by kernel_rfl) (by kernel_rfl) (by intro ch a a' w h; obtain ⟨_, _, _, _, _, h, _⟩ := h; cases h) rfl ?sd51 ?_; (try (case sd51 => (repeat' ((first | first | exact trivial | exact zA | with_reducible refine zI ?_ ?_ | exact zB | exact zC | exact zD | exact zE | rfl | exact zN rfl | omega | assumption | (simp; done) | (simp [splice]; done) | (simp; omega) | (unfold fits; omega) | (unfold fits; simp_all; omega) | (simp_all; omega) | (simp_all; done) | intro _ | exact zI ?_ ?_ | intro _))))))
          (refine H.store (T := tt) 10 rfl (by kernel_rfl) (by kernel_rfl) tt_ok rfl rfl rfl rfl rfl rfl ?sd62 rfl (by kernel_rfl) ?_; (try (case sd62 => (repeat' ((first | first | exact trivial | exact zA | with_reducible refine zI ?_ ?_ | exact zB | exact zC | exact zD | exact zE | rfl | exact zN rfl | omega | assumption | (simp; done) | (simp [splice]; done) | (simp; omega) | (unfold fits; omega) | (unfold fits; simp_all; omega) | (simp_all; omega) | (simp_all; done) | intro _ | exact zI ?_ ?_ | intro _))))))
          (refine H.ts (T := tt) [11] tt_ok (by kernel_rfl) (by kernel_rfl) (by kernel_rfl) (by intro ch a a' w h; obtain ⟨_, _, _, _, _, h, _⟩ := h; cases h) rfl ?sd52 ?_; (try (case sd52 => (repeat' ((first | first | exact trivial | exact zA | with_reducible refine zI ?_ ?_ | exact zB | exact zC | exact zD | exact zE | rfl | exact zN rfl | omega | assumption | (simp; done) | (simp [splice]; done) | (simp; omega) | (unfold fits; omega) | (unfold fits; simp_all; omega) | (simp_all; omega) | (simp_all; done) | intro _ | exact zI ?_ ?_ | intro _))))))
          refine H.done (by kernel_rfl) ?_
          exact fun a w h => ⟨b20, h.weakP (by (repeat' (first | exact True.intro | exact Imp.refl _ | refine ⟨?_, ?_⟩))) (Sub.self _)⟩
      intro b20
      ((repeat refine S.seq ?_); refine S.region (L.go (T := tt) tt_ok rfl rfl ?sd16 ?_); (try (case sd16 => (repeat' ((first | first | exact trivial | exact zA | with_reducible refine zI ?_ ?_ | exact zB | exact zC | exact zD | exact zE | rfl | exact zN rfl | omega | assumption | (simp; done) | (simp [splice]; done) | (simp; omega) | (unfold fits; omega) | (unfold fits; simp_all; omega) | (simp_all; omega) | (simp_all; done) | intro _ | exact zI ?_ ?_ | intro _))))); try (refine L.nil ?_))
      (refine L.store (T := tt) tt_ok rfl rfl rfl rfl rfl rfl ?sd37 ?_; (try (case sd37 => (repeat' ((first | first | exact trivial | exact zA | with_reducible refine zI ?_ ?_ | exact zB | exact zC | exact zD | exact zE | rfl | exact zN rfl | omega | assumption | (simp; done) | (simp [splice]; done) | (simp; omega) | (unfold fits; omega) | (unfold fits; simp_all; omega) | (simp_all; omega) | (simp_all; done) | intro _ | exact zI ?_ ?_ | intro _))))))
      refine L.nil ?_
      refine rowsEq ((64, .blk b20 71 s2.cells) :: ((60, .blk b7 67 (w3 za zb)) :: (61, .blk b13 71 s2.cells) :: auR b mb x A)) rfl ?_
      refine rowsTo _ (Sub.drop (Sub.self _)) ?_
      obtain ⟨t1, t2, t3, t4⟩ := q2.told hj hjf hje q3 q1
      have hk0 : o.key0 = ((Q.getD 0 default).l.getD 0 default).key := by rw [ho]; rfl
      have hls : (lastM o).seq = ((Q.getD 0 default).l.getD (((Q.getD 0 default).l.length : Int) - 1).toNat default).seq := by rw [ho]; rfl
      have hrow0 : 1 ≤ (Q.getD 0 default).l.length ∧ (Q.getD 0 default).l.length ≤ 8 := by rw [← ho]; exact hrow
      repeat refine S.seq ?_
      refine S.cut (ι := { q : Value × AuD × (ByteArray → Int) // AS q.2.1 s2 q.2.2 ∧ AO q.2.1 100 ∧ q.2.1.seqs = S0 ∧ q.2.1.l.length < A.l.length }) (fun q => [(5, .ptr 40 b 0), (6, .v (.int .i64 (za + zb))), (7, .ptr 60 b7 0), (13, .ptr 61 b13 0), (191, .v (.bool false))]) (fun q => ((60, .blk b7 67 (w3 za zb)) :: (61, .blk b13 71 s2.cells) :: auR b mb q.1.1 q.1.2.1)) ?_ ?_
      · refine S.draw [] mixed ?_
        (refine H.ts (T := tt) [0, 1, 2, 3, 4, 5, 6, 7, 8, 9, 10, 11, 12, 13, 14, 15, 16, 17, 18, 19, 20, 21] tt_ok (by kernel_rfl) (by kernel_rfl) (by kernel_rfl) (by intro ch a a' w h; obtain ⟨_, _, _, _, _, h, _⟩ := h; cases h) rfl ?sd53 ?_; (try (case sd53 => (repeat' ((first | first | exact trivial | exact zA | with_reducible refine zI ?_ ?_ | exact zB | exact zC | exact zD | exact zE | rfl | exact zN rfl | omega | assumption | (simp; done) | (simp [splice]; done) | (simp; omega) | (unfold fits; omega) | (unfold fits; simp_all; omega) | (simp_all; omega) | (simp_all; done) | intro _ | exact zI ?_ ?_ | intro _))))))
        refine H.o1 22 rfl (by kernel_rfl) (by kernel_rfl) (O.call (G := auR b mb x A) (H := [(60, .blk b7 67 (w3 za zb)), (61, .blk b13 71 s2.cells)]) rfl rfl rfl rfl rfl rfl rfl ⟨trivial, by (repeat' ((first | first | exact trivial | exact zA | with_reducible refine zI ?_ ?_ | exact zB | exact zC | exact zD | exact zE | rfl | exact zN rfl | omega | assumption | (simp; done) | (simp [splice]; done) | (simp; omega) | (unfold fits; omega) | (unfold fits; simp_all; omega) | (simp_all; omega) | (simp_all; done) | intro _ | exact zI ?_ ?_ | intro _)))⟩ rfl (show Imps [.ptr 40 b 0, .v (.int .i64 0), .v (.string ((Q.getD 0 default).l.getD 0 default).key), .v (.int .i64 ((Q.getD 0 default).l.getD (((Q.getD 0 default).l.length : Int) - 1).toNat default).seq), .v (.int .i64 e)] [.ptr 40 b 0, .v (.int .i64 0), .v (.string o.key0), .v (.int .i64 (lastM o).seq), .v (.int .i64 e)] from by rw [← hk0, ← hls]; exact Imps.refl _) (by exact List.perm_append_comm (l₁ := [_, _])) (told_p b mb x A 0 o.key0 (lastM o).seq e hao.ok)) (.inl (by kernel_rfl)) (by kernel_rfl) fun q => ?_
        obtain ⟨⟨r, F'⟩, x2, e1, e2⟩ := q
        dsimp only at e1 e2
        subst e1 e2
        rw [t1]
        (refine H.ts (T := tt) [23] tt_ok (by kernel_rfl) (by kernel_rfl) (by kernel_rfl) (by intro ch a a' w h; obtain ⟨_, _, _, _, _, h, _⟩ := h; cases h) rfl ?sd54 ?_; (try (case sd54 => (repeat' ((first | first | exact trivial | exact zA | with_reducible refine zI ?_ ?_ | exact zB | exact zC | exact zD | exact zE | rfl | exact zN rfl | omega | assumption | (simp; done) | (simp [splice]; done) | (simp; omega) | (unfold fits; omega) | (unfold fits; simp_all; omega) | (simp_all; omega) | (simp_all; done) | intro _ | exact zI ?_ ?_ | intro _))))))
        refine H.done (by kernel_rfl) ?_
        refine rowsTo ((60, .blk b7 67 (w3 za zb)) :: (61, .blk b13 71 s2.cells) :: auR b mb x2 (toldS A 0 o.key0 (lastM o).seq e)) (Sub.of _ (by rw [List.append_nil]; exact List.perm_append_comm (l₁ := auR b mb x2 (toldS A 0 o.key0 (lastM o).seq e)))) ?_
        have hao2 : AO (toldS A 0 o.key0 (lastM o).seq e) 100 := ⟨hao.ok.told 0 o.key0 (lastM o).seq e, fun q k => by rw [t3]; exact hao.le q k⟩
        exact fun a w h => ⟨⟨(x2, toldS A 0 o.key0 (lastM o).seq e, _), t4, hao2, t3.trans hsq, by show (toldS A 0 o.key0 (lastM o).seq e).l.length < _; rw [t2, List.length_eraseIdx, if_pos hj]; omega⟩, h.weakP (by (repeat' (first | exact True.intro | exact Imp.refl _ | refine ⟨?_, ?_⟩))) (Sub.self _)⟩
      rintro ⟨⟨x2, A2, pz2⟩, has2, hao2, hsq2, hlt⟩
      dsimp only at has2 hao2 hsq2 hlt ⊢
      ((repeat refine S.seq ?_); refine S.cond rfl (fun h7 => ?_) (fun h7 => ?_) <;> (try first | refine S.skip ?_ | refine S.exit ?_))
      · cases h7
      exact fun a w h => ⟨⟨(x2, A2, s2, pz2), has2, hao2, hsq2⟩, hlt, h.weakP (by (repeat' (first | exact True.intro | exact Imp.refl _ | refine ⟨?_, ?_⟩))) (Sub.self _)⟩
    have h5n : A.l.length = 0 := by have := of_dec' h5; omega
    have hd := has.done (List.length_eq_zero_iff.1 h5n)
    rw [hsq, ← hza, ← hzb] at hd
    exact fun a w h => ⟨⟨s, has.may, hd⟩, h.weakP (by (repeat' (first | exact True.intro | exact Imp.refl _ | refine ⟨?_, ?_⟩))) (by unfold auR; (repeat (first | exact Sub.refl _ | refine Sub.pick (by first | exact p0 | exact pS p0 | exact pS (pS p0) | exact pS (pS (pS p0)) | exact pS (pS (pS (pS p0))) | exact pS (pS (pS (pS (pS p0))))) ?_)))⟩
  rintro ⟨s, hm, hr1, hr2, hr3⟩
  dsimp only
  have hla := lastOf_eq hm.apart 2 ka
  have hlb := lastOf_eq hm.apart 2 kbb
  rw [hr2] at hla
  rw [hr3] at hlb
  have hA : PFn Tryd.prog 38 [s.av, .v (.int .i64 2), .v (.string ka)] (.v (.int .i64 za)) := by rw [← hla]; exact rlast_p s 2 ka
  have hB : PFn Tryd.prog 38 [s.av, .v (.int .i64 2), .v (.string kbb)] (.v (.int .i64 zb)) := by rw [← hlb]; exact rlast_p s 2 kbb
  have hM : PFn Tryd.prog 39 [s.av] (.v (.bool true)) := by
    have := may_p s hm.small.ready hm.small.held hm.small.keys
    rwa [(may_iff s).2 hm] at this
  repeat refine S.seq ?_
  refine S.draw [(3, [61]), (9, [61]), (12, [60]), (16, [61]), (19, [60]), (23, [61])] mixed ?_
  refine H.callP 0 rfl (by kernel_rfl) (by kernel_rfl) rfl rfl rfl rfl rfl rfl rfl ⟨trivial, by (repeat' ((first | first | exact trivial | exact zA | with_reducible refine zI ?_ ?_ | exact zB | exact zC | exact zD | exact zE | rfl | exact zN rfl | omega | assumption | (simp; done) | (simp [splice]; done) | (simp; omega) | (unfold fits; omega) | (unfold fits; simp_all; omega) | (simp_all; omega) | (simp_all; done) | intro _ | exact zI ?_ ?_ | intro _)))⟩ rfl (by exact Imps.refl _) (told20_p) ?_
  refine H.rebase ?_
  (refine H.ts (T := tt) [1, 2, 3, 4, 5, 6, 7, 8, 9, 11, 12] tt_ok (by kernel_rfl) (by kernel_rfl) (by kernel_rfl) (by intro ch a a' w h; obtain ⟨_, _, _, _, _, h, _⟩ := h; cases h) rfl ?sd55 ?_; (try (case sd55 => (repeat' ((first | first | exact trivial | exact zA | with_reducible refine zI ?_ ?_ | exact zB | exact zC | exact zD | exact zE | rfl | exact zN rfl | omega | assumption | (simp; done) | (simp [splice]; done) | (simp; omega) | (unfold fits; omega) | (unfold fits; simp_all; omega) | (simp_all; omega) | (simp_all; done) | intro _ | exact zI ?_ ?_ | intro _))))))
  refine H.callG 10 rfl (by kernel_rfl) (by kernel_rfl) rfl rfl rfl rfl rfl rfl rfl (fun _ => ⟨trivial, by (repeat' ((first | first | exact trivial | exact zA | with_reducible refine zI ?_ ?_ | exact zB | exact zC | exact zD | exact zE | rfl | exact zN rfl | omega | assumption | (simp; done) | (simp [splice]; done) | (simp; omega) | (unfold fits; omega) | (unfold fits; simp_all; omega) | (simp_all; omega) | (simp_all; done) | intro _ | exact zI ?_ ?_ | intro _)))⟩) rfl (by exact Imps.refl _) (fun _ => hA) ?_
  refine H.rebase ?_
  (refine H.ts (T := tt) [13, 14, 15, 16, 18, 19] tt_ok (by kernel_rfl) (by kernel_rfl) (by kernel_rfl) (by intro ch a a' w h; obtain ⟨_, _, _, _, _, h, _⟩ := h; cases h) rfl ?sd56 ?_; (try (case sd56 => (repeat' ((first | first | exact trivial | exact zA | with_reducible refine zI ?_ ?_ | exact zB | exact zC | exact zD | exact zE | rfl | exact zN rfl | omega | assumption | (simp; done) | (simp [splice]; done) | (simp; omega) | (unfold fits; omega) | (unfold fits; simp_all; omega) | (simp_all; omega) | (simp_all; done) | intro _ | exact zI ?_ ?_ | intro _))))))
  refine H.callG 17 rfl (by kernel_rfl) (by kernel_rfl) rfl rfl rfl rfl rfl rfl rfl (fun _ => ⟨trivial, by (repeat' ((first | first | exact trivial | exact zA | with_reducible refine zI ?_ ?_ | exact zB | exact zC | exact zD | exact zE | rfl | exact zN rfl | omega | assumption | (simp; done) | (simp [splice]; done) | (simp; omega) | (unfold fits; omega) | (unfold fits; simp_all; omega) | (simp_all; omega) | (simp_all; done) | intro _ | exact zI ?_ ?_ | intro _)))⟩) rfl (by exact Imps.refl _) (fun _ => hB) ?_
  refine H.rebase ?_
  (refine H.ts (T := tt) [20, 21, 22, 23] tt_ok (by kernel_rfl) (by kernel_rfl) (by kernel_rfl) (by intro ch a a' w h; obtain ⟨_, _, _, _, _, h, _⟩ := h; cases h) rfl ?sd57 ?_; (try (case sd57 => (repeat' ((first | first | exact trivial | exact zA | with_reducible refine zI ?_ ?_ | exact zB | exact zC | exact zD | exact zE | rfl | exact zN rfl | omega | assumption | (simp; done) | (simp [splice]; done) | (simp; omega) | (unfold fits; omega) | (unfold fits; simp_all; omega) | (simp_all; omega) | (simp_all; done) | intro _ | exact zI ?_ ?_ | intro _))))))
  refine H.callG 24 rfl (by kernel_rfl) (by kernel_rfl) rfl rfl rfl rfl rfl rfl rfl (fun _ => ⟨trivial, by (repeat' ((first | first | exact trivial | exact zA | with_reducible refine zI ?_ ?_ | exact zB | exact zC | exact zD | exact zE | rfl | exact zN rfl | omega | assumption | (simp; done) | (simp [splice]; done) | (simp; omega) | (unfold fits; omega) | (unfold fits; simp_all; omega) | (simp_all; omega) | (simp_all; done) | intro _ | exact zI ?_ ?_ | intro _)))⟩) rfl (by exact Imps.refl _) (fun _ => hM) ?_
  refine H.rebase ?_
  (refine H.ts (T := tt) [25, 26] tt_ok (by kernel_rfl) (by kernel_rfl) (by kernel_rfl) (by intro ch a a' w h; obtain ⟨_, _, _, _, _, h, _⟩ := h; cases h) rfl ?sd58 ?_; (try (case sd58 => (repeat' ((first | first | exact trivial | exact zA | with_reducible refine zI ?_ ?_ | exact zB | exact zC | exact zD | exact zE | rfl | exact zN rfl | omega | assumption | (simp; done) | (simp [splice]; done) | (simp; omega) | (unfold fits; omega) | (unfold fits; simp_all; omega) | (simp_all; omega) | (simp_all; done) | intro _ | exact zI ?_ ?_ | intro _))))))
  refine H.done (by kernel_rfl) ?_
  (((repeat refine S.seq ?_); refine S.ret ?_); refine E.retP (T := tt) tt_ok rfl rfl (by (repeat' ((first | first | exact trivial | exact zA | with_reducible refine zI ?_ ?_ | exact zB | exact zC | exact zD | exact zE | rfl | exact zN rfl | omega | assumption | (simp; done) | (simp [splice]; done) | (simp; omega) | (unfold fits; omega) | (unfold fits; simp_all; omega) | (simp_all; omega) | (simp_all; done) | intro _ | exact zI ?_ ?_ | intro _)))) ?_)
  exact Imp.of_eq (by simp [oneOf, hr1])
theorem r_intC : RdP Tryd.prog 3 intC fitI := r_int
theorem rd_intsA : RdP Tryd.prog 43 (fun l : List Int => [intsA l]) (fun l => l.length ≤ maxLen ∧ ∀ m ∈ l, fitI m) := rd_slice (sz := 1) (by kernel_rfl) (by kernel_rfl) (fun _ => rfl) r_intC
end Go.Proofs.YtfdneepgpekmiaaDoor
