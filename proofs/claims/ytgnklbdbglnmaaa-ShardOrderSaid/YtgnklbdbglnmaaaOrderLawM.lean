/- Of a key and a publisher messages come in their order: in plain words. -/
import Derived.Test.YtgnklbdbglnmaaaAcksWM
import Derived.Test.YtgnklbdbglnmaaaMgI
namespace Go.Proofs.Ytgnklbdbglnmaaa
set_option linter.unusedVariables false
set_option linter.unusedSimpArgs false
set_option maxHeartbeats 8000000
open Go.RowKit

theorem nameK_inj : ∀ i, i < 6 → ∀ j, j < 6 → nameK ((i : Nat) : Int) = nameK ((j : Nat) : Int) → i = j := by decide +kernel

def iota (d : Int) (c : Nat) : List Int := (List.range c).map fun (i : Nat) => d + 1 + (i : Int)
theorem iota_app (d : Int) (c k : Nat) : iota d c ++ iota (d + c) k = iota d (c + k) := by
  induction k with
  | zero => simp [iota]
  | succ k ih =>
    rw [← Nat.add_assoc]
    have e : ∀ d n, iota d (n + 1) = iota d n ++ [d + 1 + (n : Int)] := by
      intro d n
      simp [iota, List.range_succ]
    rw [e, e, ← List.append_assoc, ih]
    congr 2
    omega
theorem iota_cons (d : Int) (c : Nat) : iota d (c + 1) = (d + 1) :: iota (d + 1) c := by
  have := iota_app d 1 c
  rw [Nat.add_comm, ← this]
  simp [iota]

def pubs (p : Nat) (l : List Msg) : List Int := (l.filter fun m => m.pub == (p : Int)).map Msg.seq
def ofK (q : Nat) (l : List Msg) : List Msg := l.filter fun m => m.key == nameK q
def upd {α : Type} (D : Nat → α) (k : Nat) (v : α) : Nat → α := fun i => if i = k then v else D i

/-- Of one key: fresh ones, each publisher's in order behind what is done. -/
structure Ord0 (marks : List Mark) (D : Nat → Int) (q : Nat) (l : List Msg) : Prop where
  ag : ∀ m ∈ l, m.again = false
  ords : ∀ p, p < 4 → ∃ c : Nat, pubs p l = iota (D (q + p * 6)) c ∧ D (q + p * 6) + c = lastSeq marks (p : Int) (nameK q)

def HeldQ (s : Shard) (q : Nat) : Prop := ∃ h ∈ s.held, h.m.key = nameK q

structure Ord (s : Shard) (D H : Nat → Int) (B : Nat → Msg) (n : Nat) : Prop where
  may : May s
  thaw : s.frozen = false
  low : low s (3 * (n : Int))
  next : s.next ≤ n + 1
  keyR : ∀ m ∈ s.ready, ∃ q, q < 6 ∧ m.key = nameK ((q : Nat) : Int)
  keyH : ∀ h ∈ s.held, ∃ q, q < 6 ∧ h.m.key = nameK ((q : Nat) : Int)
  zero : ∀ q, q < 6 → ¬ HeldQ s q → H q = 0
  back : ∀ q, q < 6 → 0 ≤ (B q).seq
  pos : ∀ i, 0 ≤ D i
  one : ∀ q, q < 6 → (HeldQ s q ∨ (B q).seq = 0) → Ord0 s.marks D q (ofK q s.ready)
  two : ∀ q, q < 6 → ¬ HeldQ s q → 0 < (B q).seq → ∃ r, ofK q s.ready = { B q with again := true } :: r ∧ Ord0 s.marks D q r

theorem ord_new : Ord t0 (fun _ => 0) (fun _ => 0) (fun _ => default) 0 := by
  refine ⟨may_new, rfl, fun m hm => (by cases hm), by decide, fun m hm => (by cases hm), fun m hm => (by cases hm), fun _ _ _ => rfl, fun _ _ => by decide, fun _ => Int.le_refl _, fun q _ _ => ⟨fun m hm => (by cases hm), fun p _ => ⟨0, rfl, rfl⟩⟩, fun q _ _ h => absurd h (by decide)⟩
theorem Ord.skip {s : Shard} {D H : Nat → Int} {B : Nat → Msg} {n : Nat} (o : Ord s D H B n) : Ord s D H B (n + 1) := { o with low := low_mono o.low (by omega), next := by have := o.next; omega }

/-- A batch behind what a key has. -/
theorem Ord0.put {s : Shard} {D : Nat → Int} {q : Nat} {l : List Msg} {o : OpD} (m : May s) (hq : q < 6) (h : Ord0 s.marks D q l) : Ord0 (putM s.marks (markOf (nextL s o))) D q (l ++ ofK q (nextL s o)) := by
  have hl := next_len s o
  have hg := fun i hi => next_get s o (i := i) hi
  have hp := uM_lt o.pub 4 (by decide) (by decide)
  have hk := uM_lt o.key 6 (by decide) (by decide)
  obtain ⟨K, hK⟩ : ∃ K : Nat, uM o.key 6 = K := ⟨(uM o.key 6).toNat, by omega⟩
  obtain ⟨P, hP⟩ : ∃ P : Nat, uM o.pub 4 = P := ⟨(uM o.pub 4).toNat, by omega⟩
  have hlast : lastMsg (nextL s o) = ⟨uM o.pub 4, lastOf s.marks (uM o.pub 4) (nameK (uM o.key 6)) + (nextL s o).length, nameK (uM o.key 6), ⟨#[120]⟩, false⟩ := by
    unfold lastMsg
    rw [hg _ (by omega)]
    simp only [Msg.mk.injEq, true_and, and_true]
    omega
  have hmk : markOf (nextL s o) = ⟨P, nameK K, lastOf s.marks P (nameK K) + (nextL s o).length⟩ := by
    unfold markOf
    rw [hlast, hg 0 (by omega), hP, hK]
  have hmem : ∀ x ∈ nextL s o, x.pub = P ∧ x.key = nameK K ∧ x.again = false := by
    intro x hx
    obtain ⟨i, hi, rfl⟩ := List.getElem_of_mem hx
    have := hg i hi
    rw [getD_get hi] at this
    rw [this]
    exact ⟨hP, by rw [hK], rfl⟩
  refine ⟨fun x hx => ?_, fun p hp4 => ?_⟩
  · rcases List.mem_append.1 hx with h1 | h1
    · exact h.ag x h1
    · exact (hmem x (List.mem_filter.1 h1).1).2.2
  · obtain ⟨c, e1, e2⟩ := h.ords p hp4
    rw [putM_last m.apart, hmk]
    have hsplit : pubs p (l ++ ofK q (nextL s o)) = pubs p l ++ pubs p (ofK q (nextL s o)) := by simp [pubs]
    rw [hsplit, e1]
    by_cases he : p = P ∧ q = K
    · obtain ⟨rfl, rfl⟩ := he
      rw [if_pos ⟨rfl, rfl⟩]
      have hall : pubs p (ofK q (nextL s o)) = iota (lastOf s.marks p (nameK q)) (nextL s o).length := by
        have f1 : ofK q (nextL s o) = nextL s o := List.filter_eq_self.2 fun x hx => by simp [(hmem x hx).2.1]
        have f2 : (nextL s o).filter (fun m => m.pub == (p : Int)) = nextL s o := List.filter_eq_self.2 fun x hx => by simp [(hmem x hx).1]
        rw [f1, pubs, f2]
        simp [nextL, nextG, iota, hP, hK]
      rw [hall, lastOf_eq m.apart, ← e2, iota_app]
      refine ⟨c + (nextL s o).length, rfl, ?_⟩
      simp only
      omega
    · have hnone : pubs p (ofK q (nextL s o)) = [] := by
        unfold pubs ofK
        rw [List.filter_filter, List.map_eq_nil_iff, List.filter_eq_nil_iff]
        intro x hx hc
        simp only [Bool.and_eq_true, beq_iff_eq] at hc
        obtain ⟨h1, h2, -⟩ := hmem x hx
        refine he ⟨?_, nameK_inj q hq K (by omega) (by rw [← h2, hc.2])⟩
        have := hc.1
        omega
      rw [hnone, List.append_nil, if_neg]
      · exact ⟨c, rfl, e2⟩
      · rintro ⟨h1, h2⟩
        dsimp only at h1 h2
        exact he ⟨by omega, nameK_inj q hq K (by omega) h2.symm⟩
theorem Ord.put {s : Shard} {D H : Nat → Int} {B : Nat → Msg} {n : Nat} (h : Ord s D H B n) (hn : n ≤ 120) (o : OpD) : ((putR s (nextL s o)).2 = 0 ∨ (putR s (nextL s o)).2 = 4) ∧ Ord (putR s (nextL s o)).1 D H B (n + 1) := by
  have hlo := low_last h.may h.low (by omega) (uM o.pub 4) (nameK (uM o.key 6))
  have hb := last_bound h.may (uM o.pub 4) (nameK (uM o.key 6))
  have hr := next_row h.may (o := o) (by omega)
  have hl := next_len s o
  have hk := uM_lt o.key 6 (by decide) (by decide)
  obtain ⟨K, hK⟩ : ∃ K : Nat, uM o.key 6 = K := ⟨(uM o.key 6).toNat, by omega⟩
  have hlast : (lastMsg (nextL s o)).seq = lastOf s.marks (uM o.pub 4) (nameK (uM o.key 6)) + (nextL s o).length := by
    unfold lastMsg
    rw [next_get s o (by omega)]
    dsimp only
    omega
  have hput : putR s (nextL s o) = (s, 4) ∨ putR s (nextL s o) = ({ s with ready := s.ready ++ nextL s o, marks := putM s.marks (markOf (nextL s o)) }, 0) := by
    rw [put_eq, hr, (may_iff s).2 h.may, h.thaw, if_neg (by decide), if_neg, if_neg, if_neg (by decide)]
    · split
      · exact .inl rfl
      · exact .inr rfl
    · rw [next_get s o (by omega)]; dsimp only; omega
    · rw [next_get s o (by omega), hlast]; dsimp only; omega
  have hmay := may_putR h.may (nextL s o)
  have hlow := low_put (l := nextL s o) (n := 3 * ((n + 1 : Nat) : Int)) (low_mono h.low (by omega)) (by rw [hlast]; omega)
  rcases hput with e | e
  · rw [e]; exact ⟨.inr rfl, h.skip⟩
  · rw [e] at hmay hlow ⊢
    refine ⟨.inl rfl, hmay, h.thaw, hlow, by have := h.next; show s.next ≤ _; omega, fun m hm => ?_, h.keyH, h.zero, h.back, h.pos, fun q hq hh => ?_, fun q hq hh hB => ?_⟩
    · rcases List.mem_append.1 hm with h1 | h1
      · exact h.keyR m h1
      · obtain ⟨i, hi, rfl⟩ := List.getElem_of_mem h1
        have := next_get s o hi
        rw [getD_get hi] at this
        exact ⟨K, by omega, by rw [this]; show nameK _ = _; rw [hK]⟩
    · have := (h.one q hq hh).put (o := o) h.may hq
      rw [show ofK q (s.ready ++ nextL s o) = ofK q s.ready ++ ofK q (nextL s o) by simp [ofK]]
      exact this
    · obtain ⟨r, e1, e2⟩ := h.two q hq hh hB
      refine ⟨r ++ ofK q (nextL s o), ?_, e2.put (o := o) h.may hq⟩
      rw [show ofK q (s.ready ++ nextL s o) = ofK q s.ready ++ ofK q (nextL s o) by simp [ofK], e1]
      rfl

/-- One that is not of a key changes nothing of it. -/
theorem ofK_erase {q : Nat} : ∀ {l : List Msg} {k : Nat} (hk : k < l.length), l[k].key ≠ nameK q → ofK q (l.eraseIdx k) = ofK q l
  | x :: l, 0, _, h => by
    simp only [List.getElem_cons_zero] at h
    simp [ofK, List.filter_cons, h]
  | x :: l, k + 1, hk, h => by
    simp only [List.getElem_cons_succ] at h
    have := ofK_erase (q := q) (l := l) (k := k) (by simpa using hk) h
    simp only [ofK, List.eraseIdx_cons_succ, List.filter_cons] at this ⊢
    rw [this]
theorem ofK_first {q : Nat} : ∀ {l : List Msg} {k : Nat} (hk : k < l.length), l[k].key = nameK q → (∀ j (hj : j < k), (l[j]'(by omega)).key ≠ nameK q) → ofK q l = l[k] :: ofK q (l.eraseIdx k)
  | x :: l, 0, _, h, _ => by
    simp only [List.getElem_cons_zero] at h
    simp [ofK, List.filter_cons, h]
  | x :: l, k + 1, hk, h, hn => by
    simp only [List.getElem_cons_succ] at h
    have h0 := hn 0 (by omega)
    simp only [List.getElem_cons_zero] at h0
    have := ofK_first (q := q) (l := l) (k := k) (by simpa using hk) h (fun j hj => by
      have := hn (j + 1) (by omega)
      simpa using this)
    simp only [ofK, List.eraseIdx_cons_succ, List.filter_cons, List.getElem_cons_succ] at this ⊢
    rw [if_neg (by simpa using h0), this, if_neg (by simpa using h0)]

theorem Ord.bd {s : Shard} {D H : Nat → Int} {B : Nat → Msg} {n : Nat} (o : Ord s D H B n) {q p : Nat} (hq : q < 6) (hp : p < 4) : 0 ≤ D (q + p * 6) ∧ D (q + p * 6) ≤ 1073741824 := by
  have key : ∃ l, Ord0 s.marks D q l := by
    by_cases h : HeldQ s q
    · exact ⟨_, o.one q hq (.inl h)⟩
    · rcases Int.lt_or_le 0 (B q).seq with hB | hB
      · obtain ⟨r, -, e⟩ := o.two q hq h hB
        exact ⟨r, e⟩
      · exact ⟨_, o.one q hq (.inr (by have := o.back q hq; omega))⟩
  obtain ⟨l, e⟩ := key
  obtain ⟨c, -, e2⟩ := e.ords p hp
  have := last_bound o.may (p : Int) (nameK (q : Int))
  rw [lastOf_eq o.may.apart] at this
  have := o.pos (q + p * 6)
  omega

/-- What a get hands out. -/
structure Got (s : Shard) (D : Nat → Int) (B : Nat → Msg) (q : Nat) (h : Held) : Prop where
  lt : q < 6
  key : h.m.key = nameK q
  pub : 0 ≤ h.m.pub ∧ h.m.pub < 4
  again : h.m.again = decide ((B q).seq > 0)
  old : 0 < (B q).seq → h.m = { B q with again := true }
  new : (B q).seq = 0 → h.m.seq = D (q + h.m.pub.toNat * 6) + 1
  big : h.m.seq ≤ 1073741824
theorem Ord.get {s : Shard} {D H : Nat → Int} {B : Nat → Msg} {n : Nat} (o : Ord s D H B n) (hn : n ≤ 120) : ((getR s).2.2 = 3 ∨ ((getR s).2.2 = 0 ∧ ∃ q, Got s D B q (getR s).2.1 ∧ H q = 0 ∧
    Ord (getR s).1 (if (B q).seq = 0 then upd D (q + (getR s).2.1.m.pub.toNat * 6) (D (q + (getR s).2.1.m.pub.toNat * 6) + 1) else D) (upd H q (getR s).2.1.tag) B (n + 1))) := by
  have hnx := o.next
  have hmay := may_getR o.may
  have hge := get_eq s
  rw [(may_iff s).2 o.may, o.thaw, if_neg (by decide), if_neg (by decide)] at hge
  by_cases hf : freeAt s = -1
  · rw [hge, if_pos hf]; exact .inl rfl
  · rw [if_neg hf, if_neg (by omega)] at hge
    rw [hge] at hmay ⊢
    right
    refine ⟨rfl, ?_⟩
    obtain ⟨k, hk, hfk, hfree, hbef⟩ := freeAt_free hf
    have hH : getH s = ⟨s.next, s.ready[k]⟩ := by rw [getH, hfk, Int.toNat_natCast, getD_get hk]
    have hS : getS s = { s with ready := s.ready.eraseIdx k, held := s.held ++ [⟨s.next, s.ready[k]⟩], next := s.next + 1 } := by rw [getS, hH, hfk, Int.toNat_natCast]
    rw [hS] at hmay
    rw [hH, hS]
    have hmem : s.ready[k] ∈ s.ready := List.getElem_mem hk
    obtain ⟨hm1, hm2⟩ := o.may.ready _ hmem
    have hm3 : 0 ≤ s.ready[k].pub ∧ s.ready[k].pub < 4 ∧ 1 ≤ s.ready[k].seq ∧ s.ready[k].seq ≤ 1073741824 := by
      simp only [mayMsg, Bool.and_eq_true, decide_eq_true_eq] at hm1
      omega
    obtain ⟨q, hq, hkey⟩ := o.keyR _ hmem
    have hnh : ¬ HeldQ s q := by
      rintro ⟨x, hx, e⟩
      exact (hasKey_iff _ _).1 hfree x hx (by rw [e, hkey])
    have hof := ofK_first (q := q) hk hkey fun j hj e => by
      have h1 := hbef j hj
      rw [e, ← hkey, hfree] at h1
      cases h1
    generalize hM : s.ready[k] = M at *
    have hothers : ∀ q2, q2 < 6 → q2 ≠ q → ofK q2 (s.ready.eraseIdx k) = ofK q2 s.ready := fun q2 h2 hne => ofK_erase hk (by rw [hM, hkey]; exact fun e => hne (nameK_inj q hq q2 h2 e).symm)
    have hhq : ∀ q2, q2 < 6 → q2 ≠ q → (HeldQ { s with ready := s.ready.eraseIdx k, held := s.held ++ [⟨s.next, M⟩], next := s.next + 1 } q2 ↔ HeldQ s q2) := by
      intro q2 h2 hne
      constructor
      · rintro ⟨x, hx, e⟩
        rcases List.mem_append.1 hx with h1 | h1
        · exact ⟨x, h1, e⟩
        · rw [List.mem_singleton.1 h1] at e
          exact absurd (nameK_inj q2 h2 q hq (e.symm.trans hkey)) hne
      · rintro ⟨x, hx, e⟩
        exact ⟨x, List.mem_append_left _ hx, e⟩
    have hself : HeldQ { s with ready := s.ready.eraseIdx k, held := s.held ++ [⟨s.next, M⟩], next := s.next + 1 } q := ⟨⟨s.next, M⟩, List.mem_append_right _ (List.mem_singleton.2 rfl), hkey⟩
    obtain ⟨P, hP⟩ : ∃ P : Nat, M.pub = P := ⟨M.pub.toNat, by omega⟩
    have hPn : M.pub.toNat = P := by omega
    -- what the key has then
    have key : (M.again = decide ((B q).seq > 0)) ∧ (0 < (B q).seq → M = { B q with again := true }) ∧ ((B q).seq = 0 → M.seq = D (q + P * 6) + 1) ∧
        Ord0 s.marks (if (B q).seq = 0 then upd D (q + P * 6) (D (q + P * 6) + 1) else D) q (ofK q (s.ready.eraseIdx k)) := by
      rcases Int.lt_or_le 0 (B q).seq with hB | hB
      · obtain ⟨r, e1, e2⟩ := o.two q hq hnh hB
        rw [hof] at e1
        injection e1 with e3 e4
        rw [if_neg (by omega), e4]
        refine ⟨?_, fun _ => e3, fun h0 => by omega, e2⟩
        rw [e3, decide_eq_true hB]
      · have hB0 : (B q).seq = 0 := by have := o.back q hq; omega
        have h1 := o.one q hq (.inr hB0)
        rw [hof] at h1
        rw [if_pos hB0]
        obtain ⟨c, e1, e2⟩ := h1.ords P (by omega)
        have e3 : pubs P (M :: ofK q (s.ready.eraseIdx k)) = M.seq :: pubs P (ofK q (s.ready.eraseIdx k)) := by simp [pubs, List.filter_cons, hP]
        rw [e3] at e1
        rcases c with _ | c
        · cases e1
        · rw [iota_cons] at e1
          injection e1 with e4 e5
          refine ⟨?_, fun h0 => by omega, fun _ => e4, fun m hm => h1.ag m (List.mem_cons_of_mem _ hm), fun p hp => ?_⟩
          · rw [h1.ag M List.mem_cons_self, hB0]; rfl
          · by_cases hpp : p = P
            · subst hpp
              refine ⟨c, ?_, ?_⟩
              · rw [upd, if_pos rfl, e5]
              · rw [upd, if_pos rfl, ← e2]; omega
            · obtain ⟨c', f1, f2⟩ := h1.ords p hp
              refine ⟨c', ?_, ?_⟩
              · rw [upd, if_neg (by omega), ← f1]
                simp only [pubs, List.filter_cons]
                rw [if_neg]
                simp only [beq_iff_eq]
                omega
              · rw [upd, if_neg (by omega), f2]
    have hD : ∀ q2, q2 < 6 → q2 ≠ q → ∀ l, Ord0 s.marks D q2 l → Ord0 s.marks (if (B q).seq = 0 then upd D (q + P * 6) (D (q + P * 6) + 1) else D) q2 l := by
      intro q2 h2 hne l hl
      refine ⟨hl.ag, fun p hp => ?_⟩
      obtain ⟨c, f1, f2⟩ := hl.ords p hp
      refine ⟨c, ?_, ?_⟩
      · split
        · rw [upd, if_neg (by omega)]; exact f1
        · exact f1
      · split
        · rw [upd, if_neg (by omega)]; exact f2
        · exact f2
    dsimp only
    rw [hPn]
    refine ⟨q, ⟨hq, hkey, ⟨hm3.1, hm3.2.1⟩, key.1, key.2.1, by dsimp only; rw [hPn]; exact key.2.2.1, hm3.2.2.2⟩, o.zero q hq hnh, hmay, o.thaw, low_mono o.low (by omega), by show s.next + 1 ≤ _; omega, fun m hm => o.keyR m (List.mem_of_mem_eraseIdx hm), fun x hx => ?_, fun q2 h2 hno => ?_, o.back, fun i => ?_, fun q2 h2 hh => ?_, fun q2 h2 hh hB => ?_⟩
    · rcases List.mem_append.1 hx with h1 | h1
      · exact o.keyH x h1
      · rw [List.mem_singleton.1 h1]; exact ⟨q, hq, hkey⟩
    · have hne : q2 ≠ q := fun e => hno (e ▸ hself)
      rw [upd, if_neg hne]
      exact o.zero q2 h2 fun h => hno ((hhq q2 h2 hne).2 h)
    · have := o.pos i
      split
      · unfold upd
        split
        · have := o.pos (q + P * 6); omega
        · exact this
      · exact this
    · by_cases hne : q2 = q
      · subst hne; exact key.2.2.2
      · show Ord0 _ _ q2 (ofK q2 (s.ready.eraseIdx k))
        rw [hothers q2 h2 hne]
        refine hD q2 h2 hne _ (o.one q2 h2 ?_)
        rcases hh with hh | hh
        · exact .inl ((hhq q2 h2 hne).1 hh)
        · exact .inr hh
    · have hne : q2 ≠ q := fun e => hh (e ▸ hself)
      obtain ⟨r, e1, e2⟩ := o.two q2 h2 (fun h => hh ((hhq q2 h2 hne).2 h)) hB
      refine ⟨r, ?_, hD q2 h2 hne _ e2⟩
      show ofK q2 (s.ready.eraseIdx k) = _
      rw [hothers q2 h2 hne, e1]

/-- What is settled. -/
theorem Ord.settle {s : Shard} {D H : Nat → Int} {B : Nat → Msg} {n : Nat} (o : Ord s D H B n) {i : Nat} (hi : i < s.held.length) : ∃ q, q < 6 ∧ s.held[i].m.key = nameK ((q : Nat) : Int) ∧
    (ackS s s.held[i].tag).2 = 0 ∧ Ord (ackS s s.held[i].tag).1 D (upd H q 0) (upd B q default) (n + 1) ∧ (nackS s s.held[i].tag).2 = 0 ∧ Ord (nackS s s.held[i].tag).1 D (upd H q 0) (upd B q s.held[i].m) (n + 1) := by
  have hmem : s.held[i] ∈ s.held := List.getElem_mem hi
  obtain ⟨q, hq, hkey⟩ := o.keyH _ hmem
  have hat : heldAt s.held s.held[i].tag = i := by
    refine pidx_some hi ?_ fun j hj => ?_
    · rw [tagP, getD_get hi]; simp
    · rw [tagP, getD_get (by omega)]
      have := List.pairwise_iff_getElem.1 o.may.tags j i (by omega) hi hj
      simp only [beq_eq_false_iff_ne, ne_eq]
      omega
  have he : settleE s s.held[i].tag = 0 := by rw [settleE, (may_iff s).2 o.may, hat, if_neg (by decide), if_neg (by omega)]
  have hack : ackS s s.held[i].tag = ({ s with held := s.held.eraseIdx i }, 0) := by rw [ackS, if_pos he, hat, Int.toNat_natCast]
  have hnack : nackS s s.held[i].tag = ({ s with held := s.held.eraseIdx i, ready := s.held[i].m.back :: s.ready }, 0) := by
    rw [nackS, if_pos he, hat, Int.toNat_natCast, getD_get hi]
  have hmA := may_ackR o.may s.held[i].tag
  have hmN := may_nackR o.may s.held[i].tag
  rw [hack] at hmA ⊢
  rw [hnack] at hmN ⊢
  have hseq : 1 ≤ s.held[i].m.seq := (mayMsg_le (o.may.held _ hmem).2.2.1).1
  have hhq : ∀ q2, q2 < 6 → q2 ≠ q → (HeldQ { s with held := s.held.eraseIdx i } q2 ↔ HeldQ s q2) := by
    intro q2 h2 hne
    constructor
    · rintro ⟨x, hx, e⟩
      exact ⟨x, List.mem_of_mem_eraseIdx hx, e⟩
    · rintro ⟨x, hx, e⟩
      refine ⟨x, ?_, e⟩
      obtain ⟨j, hj, rfl⟩ := List.getElem_of_mem hx
      refine List.mem_eraseIdx_iff_getElem.2 ⟨j, hj, ?_, rfl⟩
      rintro rfl
      exact hne (nameK_inj q2 h2 q hq (e.symm.trans hkey))
  have hnot : ¬ HeldQ { s with held := s.held.eraseIdx i } q := by
    rintro ⟨x, hx, e⟩
    obtain ⟨j, hj, hne, rfl⟩ := List.mem_eraseIdx_iff_getElem.1 hx
    rcases Nat.lt_or_gt_of_ne hne with hl | hl
    · exact List.pairwise_iff_getElem.1 o.may.keys j i hj hi hl (e.trans hkey.symm)
    · exact List.pairwise_iff_getElem.1 o.may.keys i j hi hj hl (hkey.trans e.symm)
  have hone := o.one q hq (.inl ⟨_, hmem, hkey⟩)
  have hz : ∀ q2, q2 < 6 → ¬ HeldQ { s with held := s.held.eraseIdx i } q2 → upd H q 0 q2 = 0 := by
    intro q2 h2 hno
    unfold upd
    split
    · rfl
    · rename_i hne
      exact o.zero q2 h2 fun h => hno ((hhq q2 h2 hne).2 h)
  refine ⟨q, hq, hkey, rfl, ⟨hmA, o.thaw, low_mono o.low (by omega), by have := o.next; show s.next ≤ _; omega, o.keyR, fun x hx => o.keyH x (List.mem_of_mem_eraseIdx hx), hz, fun q2 h2 => ?_, o.pos, fun q2 h2 hh => ?_, fun q2 h2 hh hB => ?_⟩, rfl,
    ⟨hmN, o.thaw, low_mono o.low (by omega), by have := o.next; show s.next ≤ _; omega, fun m hm => ?_, fun x hx => o.keyH x (List.mem_of_mem_eraseIdx hx), hz, fun q2 h2 => ?_, o.pos, fun q2 h2 hh => ?_, fun q2 h2 hh hB => ?_⟩⟩
  · unfold upd; split
    · exact Int.le_refl _
    · exact o.back q2 h2
  · by_cases hne : q2 = q
    · subst hne; exact hone
    · rw [upd, if_neg hne] at hh
      exact o.one q2 h2 (hh.imp (hhq q2 h2 hne).1 id)
  · by_cases hne : q2 = q
    · subst hne; rw [upd, if_pos rfl] at hB; exact absurd hB (by decide)
    · rw [upd, if_neg hne] at hB ⊢
      exact o.two q2 h2 (fun h => hh ((hhq q2 h2 hne).2 h)) hB
  · rcases List.mem_cons.1 hm with rfl | hm
    · exact ⟨q, hq, hkey⟩
    · exact o.keyR m hm
  · unfold upd; split
    · omega
    · exact o.back q2 h2
  · by_cases hne : q2 = q
    · subst hne
      rcases hh with hh | hh
      · exact absurd hh hnot
      · rw [upd, if_pos rfl] at hh; omega
    · rw [upd, if_neg hne] at hh
      have := o.one q2 h2 (hh.imp (hhq q2 h2 hne).1 id)
      show Ord0 _ _ q2 (ofK q2 (_ :: s.ready))
      rw [show ofK q2 (s.held[i].m.back :: s.ready) = ofK q2 s.ready from List.filter_cons_of_neg (by
        simp only [beq_iff_eq]
        intro e
        exact hne (nameK_inj q2 h2 q hq (e.symm.trans hkey)))]
      exact this
  · by_cases hne : q2 = q
    · subst hne
      rw [upd, if_pos rfl] at hB ⊢
      refine ⟨ofK q2 s.ready, ?_, hone⟩
      exact List.filter_cons_of_pos (by simp only [beq_iff_eq]; exact hkey)
    · rw [upd, if_neg hne] at hB ⊢
      obtain ⟨r, e1, e2⟩ := o.two q2 h2 (fun h => hh ((hhq q2 h2 hne).2 h)) hB
      refine ⟨r, ?_, e2⟩
      rw [← e1]
      exact List.filter_cons_of_neg (by
        simp only [beq_iff_eq]
        intro e
        exact hne (nameK_inj q2 h2 q hq (e.symm.trans hkey)))

end Go.Proofs.Ytgnklbdbglnmaaa
