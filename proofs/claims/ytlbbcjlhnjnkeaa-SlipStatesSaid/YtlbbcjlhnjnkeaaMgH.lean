/- Texts of this proof, laid together: RefMay, RefA, RefB. -/
import Derived.Test.YtlbbcjlhnjnkeaaMgG
import Derived.Test.YtlbbcjlhnjnkeaaMgC
/- Which shards may be, as the reference asks. -/
namespace Go.Proofs.Ytlbbcjlhnjnkeaa
set_option linter.unusedVariables false
set_option linter.unusedSimpArgs false
set_option maxHeartbeats 8000000
open Go.RowKit

def markC (s : Shard) (k : Nat) : Prop := mayMsg (markMsg (s.marks.getD k default)) = true ∧ ∀ j, j < k → ¬ nm (s.marks.getD j default) (s.marks.getD k default).pub (s.marks.getD k default).key
def heldC (s : Shard) (k : Nat) : Prop :=
  (mayMsg (s.held.getD k default).m = true ∧ 1 ≤ (s.held.getD k default).tag ∧ (s.held.getD k default).tag < s.next ∧ ¬ ((k : Int) > 0 ∧ (s.held.getD k default).tag ≤ (s.held.getD (k - 1) default).tag) ∧
    ¬ lastOf s.marks (s.held.getD k default).m.pub (s.held.getD k default).m.key < (s.held.getD k default).m.seq) ∧
  ∀ j, j < k → (s.held.getD j default).m.key ≠ (s.held.getD k default).m.key
def hits (a b : Msg) : Prop := a.pub = b.pub ∧ a.key = b.key ∧ a.seq ≥ b.seq
def readyC (s : Shard) (k : Nat) : Prop :=
  ((mayMsg (s.ready.getD k default) = true ∧ ¬ lastOf s.marks (s.ready.getD k default).pub (s.ready.getD k default).key < (s.ready.getD k default).seq) ∧
    ∀ j, j < k → ¬ hits (s.ready.getD j default) (s.ready.getD k default)) ∧ ∀ j, j < s.held.length → ¬ hits (s.held.getD j default).m (s.ready.getD k default)
structure RMay (s : Shard) : Prop where
  size : 1 ≤ s.next ∧ s.next ≤ 1073741824 ∧ s.ready.length + s.held.length ≤ 48 ∧ s.marks.length ≤ 64
  marks : ∀ k, k < s.marks.length → markC s k
  held : ∀ k, k < s.held.length → heldC s k
  ready : ∀ k, k < s.ready.length → readyC s k

theorem all_get {α : Type} [Inhabited α] {l : List α} {P : α → Prop} : (∀ x ∈ l, P x) ↔ ∀ k, k < l.length → P (l.getD k default) := by
  constructor
  · intro h k hk; rw [getD_get hk]; exact h _ (List.getElem_mem hk)
  · intro h x hx
    obtain ⟨k, hk, rfl⟩ := List.getElem_of_mem hx
    have := h k hk; rwa [getD_get hk] at this
theorem pair_get {α : Type} [Inhabited α] {l : List α} {R : α → α → Prop} : l.Pairwise R ↔ ∀ k, k < l.length → ∀ j, j < k → R (l.getD j default) (l.getD k default) := by
  rw [List.pairwise_iff_getElem]
  constructor
  · intro h k hk j hj; rw [getD_get hk, getD_get (by omega)]; exact h j k (by omega) hk hj
  · intro h i j hi hj hij; have := h j hj i hij; rwa [getD_get hi, getD_get hj] at this

theorem rmay_iff (s : Shard) : mayShard s = true ↔ RMay s := by
  rw [may_iff]
  constructor
  · intro m
    have ha := pair_get.1 m.apart
    have hk := pair_get.1 m.keys
    have ht := pair_get.1 m.tags
    obtain ⟨-, i2, i3⟩ := List.pairwise_append.1 m.inc
    have i2' := List.pairwise_map.1 i2
    have ir := pair_get.1 i2'
    refine ⟨⟨m.next.1, m.next.2, m.all, m.few⟩, fun k h => ⟨all_get.1 m.marks k h, fun j hj => ha k h j hj⟩, fun k h => ?_, fun k h => ?_⟩
    · obtain ⟨h1, h2, h3, h4⟩ := all_get.1 m.held k h
      refine ⟨⟨h3, h1, h2, fun ⟨h5, h6⟩ => ?_, ?_⟩, fun j hj => hk k h j hj⟩
      · have := ht k h (k - 1) (by omega); omega
      · rw [lastOf_eq m.apart]; omega
    · obtain ⟨h1, h2⟩ := all_get.1 m.ready k h
      refine ⟨⟨⟨h1, by rw [lastOf_eq m.apart]; omega⟩, fun j hj ⟨e1, e2, e3⟩ => ?_⟩, fun j hj ⟨e1, e2, e3⟩ => ?_⟩
      · have := ir k h j hj e1 e2
        simp only [Msg.mark] at this
        omega
      · rw [getD_get h, getD_get hj] at *
        have := i3 s.held[j].m.mark (List.mem_map.2 ⟨_, List.getElem_mem hj, rfl⟩) s.ready[k].mark (List.mem_map.2 ⟨_, List.getElem_mem h, rfl⟩) e1 e2
        simp only [Msg.mark] at this
        omega
  · intro r
    have ha : s.marks.Pairwise apart := pair_get.2 fun k hk j hj => (r.marks k hk).2 j hj
    have ht : ∀ k, k < s.held.length → ∀ j, j < k → (s.held.getD j default).tag < (s.held.getD k default).tag := by
      intro k
      induction k with
      | zero => intro _ j hj; omega
      | succ k ih =>
        intro hk j hj
        have h1 := (r.held (k + 1) hk).1.2.2.2.1
        have e : k + 1 - 1 = k := rfl
        rw [e] at h1
        have h2 : (s.held.getD k default).tag < (s.held.getD (k + 1) default).tag := by
          have : ¬ (s.held.getD (k + 1) default).tag ≤ (s.held.getD k default).tag := fun h => h1 ⟨by omega, h⟩
          omega
        rcases Nat.lt_or_eq_of_le (Nat.le_of_lt_succ hj) with h | h
        · have := ih (by omega) j h; omega
        · rw [h]; exact h2
    have hkeys : s.held.Pairwise fun a b => a.m.key ≠ b.m.key := pair_get.2 fun k hk j hj => (r.held k hk).2 j hj
    refine ⟨all_get.2 fun k hk => (r.marks k hk).1, ha, r.size.2.2.2, ⟨r.size.1, r.size.2.1⟩, r.size.2.2.1, all_get.2 fun k hk => ?_, pair_get.2 ht, hkeys, all_get.2 fun k hk => ?_, ?_⟩
    · obtain ⟨⟨h1, h2, h3, h4, h5⟩, -⟩ := r.held k hk
      rw [lastOf_eq ha] at h5
      exact ⟨h2, h3, h1, by omega⟩
    · obtain ⟨⟨⟨h1, h2⟩, -⟩, -⟩ := r.ready k hk
      rw [lastOf_eq ha] at h2
      exact ⟨h1, by omega⟩
    · rw [List.pairwise_append]
      refine ⟨apart_inc (heldMarks_apart hkeys), List.pairwise_map.2 (pair_get.2 fun k hk j hj e1 e2 => ?_), fun a ha b hb e1 e2 => ?_⟩
      · have := (r.ready k hk).1.2 j hj
        simp only [Msg.mark] at e1 e2 ⊢
        have h3 : ¬ (s.ready.getD j default).seq ≥ (s.ready.getD k default).seq := fun h => this ⟨e1, e2, h⟩
        omega
      · obtain ⟨x, hx, rfl⟩ := List.mem_map.1 ha
        obtain ⟨y, hy, rfl⟩ := List.mem_map.1 hb
        obtain ⟨j, hj, rfl⟩ := List.getElem_of_mem hx
        obtain ⟨k, hk, rfl⟩ := List.getElem_of_mem hy
        have := (r.ready k hk).2 j hj
        rw [getD_get hj, getD_get hk] at this
        simp only [Msg.mark] at e1 e2 ⊢
        have h3 : ¬ s.held[j].m.seq ≥ s.ready[k].seq := fun h => this ⟨e1, e2, h⟩
        omega

end Go.Proofs.Ytlbbcjlhnjnkeaa

/- The reference: which shards may be. -/
namespace Go.Proofs.Ytlbbcjlhnjnkeaa
set_option linter.unusedVariables false
set_option linter.unusedSimpArgs false
set_option maxHeartbeats 8000000
open Go.RowKit
set_option maxRecDepth 4000

theorem lastOf_first {l : List Mark} {p : Int} {k : ByteArray} {i : Nat} (hi : i < l.length) (hn : nm (l.getD i default) p k) (hno : ∀ j, j < i → ¬ nm (l.getD j default) p k) : lastOf l p k = (l.getD i default).seq := by
  have : markAt l p k = i := pidx_some hi ((nm_b _ _ _).2 hn) fun j hj => Bool.eq_false_iff.2 fun h => hno j hj ((nm_b _ _ _).1 h)
  rw [lastOf, this, if_neg (by omega), Int.toNat_natCast]
theorem lastOf_none {l : List Mark} {p : Int} {k : ByteArray} (hno : ∀ j, j < l.length → ¬ nm (l.getD j default) p k) : lastOf l p k = 0 := by
  have : markAt l p k = -1 := pidx_none fun j hj => Bool.eq_false_iff.2 fun h => hno j hj ((nm_b _ _ _).1 h)
  rw [lastOf, this]; rfl
theorem b_nm {m : Mark} {p : Int} {k : ByteArray} (h : (m.pub == p && m.key == k) = false) : ¬ nm m p k := fun e => by rw [(nm_b m p k).2 e] at h; cases h
theorem heldB (s : Shard) (k : Nat) : (!mayMsg (s.held.getD k default).m || decide ((s.held.getD k default).tag < 1) || decide ((s.held.getD k default).tag ≥ s.next) || decide ((k : Int) > 0) && decide ((s.held.getD k default).tag ≤ (s.held.getD ((k : Int) - 1).toNat default).tag) ||
    decide (lastOf s.marks (s.held.getD k default).m.pub (s.held.getD k default).m.key < (s.held.getD k default).m.seq)) = false ↔ (mayMsg (s.held.getD k default).m = true ∧ 1 ≤ (s.held.getD k default).tag ∧ (s.held.getD k default).tag < s.next ∧ ¬ ((k : Int) > 0 ∧ (s.held.getD k default).tag ≤ (s.held.getD (k - 1) default).tag) ∧
    ¬ lastOf s.marks (s.held.getD k default).m.pub (s.held.getD k default).m.key < (s.held.getD k default).m.seq) := by
  rw [show ((k : Int) - 1).toNat = k - 1 by omega]
  simp only [Bool.or_eq_false_iff, Bool.and_eq_false_iff, Bool.not_eq_false', decide_eq_false_iff_not, Int.not_lt, Int.not_le, ge_iff_le, gt_iff_lt, and_assoc]
  constructor <;> (rintro ⟨a, b, c, d, e⟩; exact ⟨a, b, c, by omega, e⟩)
theorem readyB (s : Shard) (x : Msg) : (!mayMsg x || decide (lastOf s.marks x.pub x.key < x.seq)) = false ↔ mayMsg x = true ∧ ¬ lastOf s.marks x.pub x.key < x.seq := by simp
theorem hitsB (a b : Msg) : (a.pub == b.pub && a.key == b.key && decide (a.seq ≥ b.seq)) = true ↔ hits a b := by simp [hits, and_assoc]
theorem hitsB' {a b : Msg} (h : (a.pub == b.pub && a.key == b.key && decide (a.seq ≥ b.seq)) = false) : ¬ hits a b := fun e => by rw [(hitsB a b).2 e] at h; cases h
theorem bad {b : Bool} (h : b = true) (h' : b = false) : False := by rw [h] at h'; cases h'
theorem notMay {s : Shard} (h : ¬ RMay s) : mayShard s = false := Bool.eq_false_iff.2 fun e => h ((rmay_iff s).1 e)

theorem rmayMsg_p (m : Msg) : PFn Try.prog 59 [m.av] (.v (.bool (mayMsg m))) := by
  refine FnC.intro Try.func59 rfl Try.ntmps59 rfl ?_; intro off w0
  repeat refine S.seq ?_
  refine S.region ?_
  refine L.box 1 rfl rfl rfl rfl rfl trivial rfl fun b1 => ?_
  (refine L.go (T := tt) tt_ok rfl rfl ?sd421 ?_; (try (case sd421 => (repeat' (first | exact trivial | with_reducible refine zI ?_ ?_)))); try (refine L.nil ?_))
  ((repeat refine S.seq ?_); refine S.region (L.go (T := tt) tt_ok rfl rfl ?sd379 ?_); (try (case sd379 => (repeat' (first | exact trivial | exact zA | with_reducible refine zI ?_ ?_ | exact zB | exact zC | exact zE | rfl | (simp; done))))); try (refine L.nil ?_))
  (((repeat refine S.seq ?_); refine S.ret ?_); refine E.retP (T := tt) tt_ok rfl rfl (by (repeat' (first | exact trivial | with_reducible refine zI ?_ ?_))) (Imp.of_eq ?_))
  rfl

theorem rlast_p (s : Shard) (p : Int) (key : ByteArray) : PFn Try.prog 35 [s.av, .v (.int .i64 p), .v (.string key)] (.v (.int .i64 (lastOf s.marks p key))) := by
  refine FnC.intro Try.func35 rfl Try.ntmps35 rfl ?_; intro off w0
  refine lenAgg (cs := s.cells) (n := s.marks.length) 0 4 rfl rfl fun hn => ?_
  repeat refine S.seq ?_
  refine S.region ?_
  refine L.box 3 rfl rfl rfl rfl rfl trivial rfl fun b3 => ?_
  (refine L.go (T := tt) tt_ok rfl rfl ?sd422 ?_; (try (case sd422 => (repeat' (first | exact trivial | with_reducible refine zI ?_ ?_)))); try (refine L.nil ?_))
  ((repeat refine S.seq ?_); refine S.region (L.go (T := tt) tt_ok rfl rfl ?sd380 ?_); (try (case sd380 => (repeat' (first | exact trivial | with_reducible refine zI ?_ ?_)))); try (refine L.nil ?_))
  repeat refine S.seq ?_
  refine S.block (S.loop (ι := { k : Nat // k ≤ s.marks.length ∧ ∀ j, j < k → ¬ nm (s.marks.getD j default) p key }) (fun k => [(1, .v (.int .i64 p)), (2, .v (.string key)), (3, .ptr 3 b3 0), (7, .v (.int .i64 k.1))])
    (fun k => [(3, .blk b3 29 s.cells)]) (fun k => s.marks.length - k.1) ?_ ?_)
  · refine fun a w h => ⟨⟨0, Nat.zero_le _, ?_⟩, h.weak (by (repeat' (first | exact True.intro | exact Imp.refl _ | refine ⟨?_, ?_⟩))) (by (repeat (first | exact List.nil_sublist _ | refine List.Sublist.cons_cons _ ?_ | refine List.Sublist.cons _ ?_)))⟩
    exact fun j hj => absurd hj (by omega)
  rintro ⟨k, hk, ik⟩
  dsimp only
  ((repeat refine S.seq ?_); refine S.region (L.go (T := tt) tt_ok rfl rfl ?sd381 ?_); (try (case sd381 => (repeat' (first | exact trivial | with_reducible refine zI ?_ ?_ | rfl)))); try (refine L.nil ?_))
  ((repeat refine S.seq ?_); refine S.cond rfl (fun h1 => ?_) (fun h1 => ?_) <;> (try first | refine S.skip ?_ | refine S.exit ?_))
  · have h1 := of_dec h1
    repeat refine S.seq ?_
    refine S.block ?_
    ((repeat refine S.seq ?_); refine S.region (L.go (T := tt) tt_ok rfl rfl ?sd382 ?_); (try (case sd382 => (repeat' (first | exact trivial | exact zA | with_reducible refine zI ?_ ?_ | exact zB | exact zC | exact zD | rfl | omega | (simp; done) | (simp; omega))))); try (refine L.nil ?_))
    ((repeat refine S.seq ?_); refine S.cond rfl (fun h2 => ?_) (fun h2 => ?_) <;> (try first | refine S.skip ?_ | refine S.exit ?_))
    · skip
      ((repeat refine S.seq ?_); refine S.region (L.go (T := tt) tt_ok rfl rfl ?sd383 ?_); (try (case sd383 => (repeat' (first | exact trivial | with_reducible refine zI ?_ ?_ | rfl | omega)))); try (refine L.nil ?_))
      (((repeat refine S.seq ?_); refine S.ret ?_); refine E.retP (T := tt) tt_ok rfl rfl (by (repeat' (first | exact trivial | with_reducible refine zI ?_ ?_))) (Imp.of_eq ?_))
      rw [lastOf_first (by omega) ((nm_b _ _ _).1 h2) ik]
      rfl
    ((repeat refine S.seq ?_); refine S.region (L.go (T := tt) tt_ok rfl rfl ?sd384 ?_); (try (case sd384 => (repeat' (first | exact trivial | with_reducible refine zI ?_ ?_ | (unfold fits; omega))))); try (refine L.nil ?_))
    refine fun a w hR => ⟨⟨k + 1, by omega, ?_⟩, by simp only; omega, hR.weak (by (repeat' (first | exact True.intro | exact Imp.refl _ | refine ⟨?_, ?_⟩))) (by (repeat (first | exact List.nil_sublist _ | refine List.Sublist.cons_cons _ ?_ | refine List.Sublist.cons _ ?_)))⟩
    exact upto_succ ik (b_nm h2)
  · have h1 := of_dec' h1
    ((repeat refine S.seq ?_); refine S.region (L.go (T := tt) tt_ok rfl rfl ?sd385 ?_); (try (case sd385 => (repeat' (first | exact trivial | with_reducible refine zI ?_ ?_)))); try (refine L.nil ?_))
    (((repeat refine S.seq ?_); refine S.ret ?_); refine E.retP (T := tt) tt_ok rfl rfl (by (repeat' (first | exact trivial | with_reducible refine zI ?_ ?_))) (Imp.of_eq ?_))
    rw [lastOf_none fun j hj => ik j (by omega)]
    rfl

theorem rmay_p (s : Shard) (hs : s.small) : PFn Try.prog 60 [s.av] (.v (.bool (mayShard s))) := by
  have ⟨hs1, hs2, hs3⟩ := hs
  refine FnC.intro Try.func60 rfl Try.ntmps60 rfl ?_; intro off w0
  repeat refine S.seq ?_
  refine S.region ?_
  refine L.box 1 rfl rfl rfl rfl rfl trivial rfl fun b1 => ?_
  (refine L.go (T := tt) tt_ok rfl rfl ?sd423 ?_; (try (case sd423 => (repeat' (first | exact trivial | with_reducible refine zI ?_ ?_)))); try (refine L.nil ?_))
  ((repeat refine S.seq ?_); refine S.region (L.go (T := tt) tt_ok rfl rfl ?sd386 ?_); (try (case sd386 => (repeat' (first | exact trivial | exact zA | with_reducible refine zI ?_ ?_ | exact zB | exact zC | exact zE | rfl | (simp; done) | (unfold fits; simp_all; omega))))); try (refine L.nil ?_))
  ((repeat refine S.seq ?_); refine S.cond rfl (fun h1 => ?_) (fun h1 => ?_) <;> (try first | refine S.skip ?_ | refine S.exit ?_))
  · skip
    ((repeat refine S.seq ?_); refine S.region (L.go (T := tt) tt_ok rfl rfl ?sd387 ?_); (try (case sd387 => (repeat' (first | exact trivial | with_reducible refine zI ?_ ?_)))); try (refine L.nil ?_))
    (((repeat refine S.seq ?_); refine S.ret ?_); refine E.retP (T := tt) tt_ok rfl rfl (by (repeat' (first | exact trivial | with_reducible refine zI ?_ ?_))) (Imp.of_eq ?_))
    have hno : mayShard s = false := notMay fun r => by
      obtain ⟨q1, q2, q3, q4⟩ := r.size
      simp only [Bool.or_eq_true, decide_eq_true_eq] at h1
      omega
    rw [hno]
    rfl
  have hsz : 1 ≤ s.next ∧ s.next ≤ 1073741824 ∧ s.ready.length + s.held.length ≤ 48 ∧ s.marks.length ≤ 64 := by
    simp only [Bool.or_eq_false_iff, decide_eq_false_iff_not] at h1
    omega
  ((repeat refine S.seq ?_); refine S.region (L.go (T := tt) tt_ok rfl rfl ?sd388 ?_); (try (case sd388 => (repeat' (first | exact trivial | with_reducible refine zI ?_ ?_)))); try (refine L.nil ?_))
  repeat refine S.seq ?_
  refine S.block (S.loop (ι := { k : Nat // k ≤ s.marks.length ∧ ∀ j, j < k → markC s j }) (fun k => [(1, .ptr 1 b1 0), (3, .v (.int .i64 k.1))])
    (fun k => [(1, .blk b1 29 s.cells)]) (fun k => s.marks.length - k.1) ?_ ?_)
  · refine fun a w h => ⟨⟨0, Nat.zero_le _, ?_⟩, h.weak (by (repeat' (first | exact True.intro | exact Imp.refl _ | refine ⟨?_, ?_⟩))) (by (repeat (first | exact List.nil_sublist _ | refine List.Sublist.cons_cons _ ?_ | refine List.Sublist.cons _ ?_)))⟩
    exact fun j hj => absurd hj (by omega)
  rintro ⟨k, hk, ik⟩
  dsimp only
  ((repeat refine S.seq ?_); refine S.region (L.go (T := tt) tt_ok rfl rfl ?sd389 ?_); (try (case sd389 => (repeat' (first | exact trivial | with_reducible refine zI ?_ ?_ | rfl)))); try (refine L.nil ?_))
  ((repeat refine S.seq ?_); refine S.cond rfl (fun h2 => ?_) (fun h2 => ?_) <;> (try first | refine S.skip ?_ | refine S.exit ?_))
  · have h2 := of_dec h2
    repeat refine S.seq ?_
    refine S.block ?_
    ((repeat refine S.seq ?_); refine S.region (L.go (T := tt) tt_ok rfl rfl ?sd390 ?_); (try (case sd390 => (repeat' (first | exact trivial | with_reducible refine zI ?_ ?_ | rfl | omega)))); try (refine L.nil ?_))
    refine L.alloc (T := tt) 4 tt_ok rfl rfl rfl rfl rfl fun b4 => ?_
    (refine L.store (T := tt) tt_ok rfl rfl rfl rfl rfl rfl ?sd425 ?_; (try (case sd425 => (repeat' (first | exact trivial | with_reducible refine zI ?_ ?_ | rfl | exact zN rfl)))))
    refine L.nil ?_
    ((repeat refine S.seq ?_); refine S.region (L.go (T := tt) tt_ok rfl rfl ?sd391 ?_); (try (case sd391 => (repeat' (first | exact trivial | with_reducible refine zI ?_ ?_ | rfl | exact zN rfl)))); try (refine L.nil ?_))
    refine L.callP rfl rfl rfl rfl rfl rfl rfl ⟨trivial, by (repeat' (first | exact trivial | with_reducible refine zI ?_ ?_))⟩ rfl (Imps.refl _) (rmayMsg_p (markMsg (s.marks.getD k default))) ?_
    (refine L.go (T := tt) tt_ok rfl rfl ?sd424 ?_; (try (case sd424 => (repeat' (first | exact trivial | with_reducible refine zI ?_ ?_)))); try (refine L.nil ?_))
    ((repeat refine S.seq ?_); refine S.cond rfl (fun h3 => ?_) (fun h3 => ?_) <;> (try first | refine S.skip ?_ | refine S.exit ?_))
    · skip
      ((repeat refine S.seq ?_); refine S.region (L.go (T := tt) tt_ok rfl rfl ?sd392 ?_); (try (case sd392 => (repeat' (first | exact trivial | with_reducible refine zI ?_ ?_)))); try (refine L.nil ?_))
      (((repeat refine S.seq ?_); refine S.ret ?_); refine E.retP (T := tt) tt_ok rfl rfl (by (repeat' (first | exact trivial | with_reducible refine zI ?_ ?_))) (Imp.of_eq ?_))
      have hno : mayShard s = false := notMay fun r => by
        have := (r.marks k (by omega)).1
        rw [this] at h3
        cases h3
      rw [hno]
      rfl
    have hmk : mayMsg (markMsg (s.marks.getD k default)) = true := by simpa using h3
    ((repeat refine S.seq ?_); refine S.region (L.go (T := tt) tt_ok rfl rfl ?sd393 ?_); (try (case sd393 => (repeat' (first | exact trivial | with_reducible refine zI ?_ ?_)))); try (refine L.nil ?_))
    repeat refine S.seq ?_
    refine S.block (S.loop (ι := { j : Nat // j ≤ k ∧ ∀ i, i < j → ¬ nm (s.marks.getD i default) (s.marks.getD k default).pub (s.marks.getD k default).key }) (fun j => [(1, .ptr 1 b1 0), (3, .v (.int .i64 k)), (4, .ptr 4 b4 0), (5, .v (.int .i64 j.1))])
      (fun j => [(4, .blk b4 60 (s.marks.getD k default).cells), (1, .blk b1 29 s.cells)]) (fun j => k - j.1) ?_ ?_)
    · refine fun a w h => ⟨⟨0, Nat.zero_le _, ?_⟩, h.weak (by (repeat' (first | exact True.intro | exact Imp.refl _ | refine ⟨?_, ?_⟩))) (by (repeat (first | exact List.nil_sublist _ | refine List.Sublist.cons_cons _ ?_ | refine List.Sublist.cons _ ?_)))⟩
      exact fun j hj => absurd hj (by omega)
    rintro ⟨j, hj, ij⟩
    dsimp only
    ((repeat refine S.seq ?_); refine S.region (L.go (T := tt) tt_ok rfl rfl ?sd394 ?_); (try (case sd394 => (repeat' (first | exact trivial | with_reducible refine zI ?_ ?_)))); try (refine L.nil ?_))
    ((repeat refine S.seq ?_); refine S.cond rfl (fun h4 => ?_) (fun h4 => ?_) <;> (try first | refine S.skip ?_ | refine S.exit ?_))
    · have h4 := of_dec h4
      repeat refine S.seq ?_
      refine S.block ?_
      repeat refine S.seq ?_
      refine S.draw [(1, [1]), (7, [4]), (11, [1]), (17, [4])] mixed ?_
      (refine H.ts (T := tt) [0, 1, 2, 3, 4, 5, 6, 7, 8, 9, 10, 11, 12, 13, 14, 15, 16, 17, 18, 19] tt_ok (by kernel_rfl) (by kernel_rfl) (by kernel_rfl) (by intro ch a a' w h; obtain ⟨_, _, _, _, _, h, _⟩ := h; cases h) rfl ?sd428 ?_; (try (case sd428 => (repeat' (first | exact trivial | exact zA | with_reducible refine zI ?_ ?_ | exact zB | exact zC | exact zD | rfl | omega | (simp; done) | (simp; omega))))))
      refine H.done (by kernel_rfl) ?_
      ((repeat refine S.seq ?_); refine S.cond rfl (fun h5 => ?_) (fun h5 => ?_) <;> (try first | refine S.skip ?_ | refine S.exit ?_))
      · skip
        ((repeat refine S.seq ?_); refine S.region (L.go (T := tt) tt_ok rfl rfl ?sd395 ?_); (try (case sd395 => (repeat' (first | exact trivial | with_reducible refine zI ?_ ?_)))); try (refine L.nil ?_))
        (((repeat refine S.seq ?_); refine S.ret ?_); refine E.retP (T := tt) tt_ok rfl rfl (by (repeat' (first | exact trivial | with_reducible refine zI ?_ ?_))) (Imp.of_eq ?_))
        have hno : mayShard s = false := notMay fun r => by
          exact (r.marks k (by omega)).2 j (by omega) ((nm_b _ _ _).1 h5)
        rw [hno]
        rfl
      ((repeat refine S.seq ?_); refine S.region (L.go (T := tt) tt_ok rfl rfl ?sd396 ?_); (try (case sd396 => (repeat' (first | exact trivial | with_reducible refine zI ?_ ?_ | (unfold fits; omega))))); try (refine L.nil ?_))
      refine fun a w hR => ⟨⟨j + 1, by omega, ?_⟩, by simp only; omega, hR.weak (by (repeat' (first | exact True.intro | exact Imp.refl _ | refine ⟨?_, ?_⟩))) (by (repeat (first | exact List.nil_sublist _ | refine List.Sublist.cons_cons _ ?_ | refine List.Sublist.cons _ ?_)))⟩
      exact upto_succ ij (b_nm h5)
    · have h4 := of_dec' h4
      ((repeat refine S.seq ?_); refine S.region (L.go (T := tt) tt_ok rfl rfl ?sd397 ?_); (try (case sd397 => (repeat' (first | exact trivial | with_reducible refine zI ?_ ?_ | (unfold fits; omega))))); try (refine L.nil ?_))
      refine fun a w hR => ⟨⟨k + 1, by omega, ?_⟩, by simp only; omega, hR.weak (by (repeat' (first | exact True.intro | exact Imp.refl _ | refine ⟨?_, ?_⟩))) (by (repeat (first | exact List.nil_sublist _ | refine List.Sublist.cons_cons _ ?_ | refine List.Sublist.cons _ ?_)))⟩
      exact upto_succ ik ⟨hmk, fun i hi => ij i (by omega)⟩
  · have h2 := of_dec' h2
    have hM : ∀ j, j < s.marks.length → markC s j := fun j hj => ik j (by omega)
    ((repeat refine S.seq ?_); refine S.region (L.go (T := tt) tt_ok rfl rfl ?sd398 ?_); (try (case sd398 => (repeat' (first | exact trivial | with_reducible refine zI ?_ ?_)))); try (refine L.nil ?_))
    repeat refine S.seq ?_
    refine S.block (S.loop (ι := { k : Nat // k ≤ s.held.length ∧ ∀ j, j < k → heldC s j }) (fun k => [(1, .ptr 1 b1 0), (6, .v (.int .i64 k.1))])
      (fun k => [(1, .blk b1 29 s.cells)]) (fun k => s.held.length - k.1) ?_ ?_)
    · refine fun a w h => ⟨⟨0, Nat.zero_le _, ?_⟩, h.weak (by (repeat' (first | exact True.intro | exact Imp.refl _ | refine ⟨?_, ?_⟩))) (by (repeat (first | exact List.nil_sublist _ | refine List.Sublist.cons_cons _ ?_ | refine List.Sublist.cons _ ?_)))⟩
      exact fun j hj => absurd hj (by omega)
    rintro ⟨k, hk, ik⟩
    dsimp only
    ((repeat refine S.seq ?_); refine S.region (L.go (T := tt) tt_ok rfl rfl ?sd399 ?_); (try (case sd399 => (repeat' (first | exact trivial | with_reducible refine zI ?_ ?_ | rfl)))); try (refine L.nil ?_))
    ((repeat refine S.seq ?_); refine S.cond rfl (fun h6 => ?_) (fun h6 => ?_) <;> (try first | refine S.skip ?_ | refine S.exit ?_))
    · have h6 := of_dec h6
      repeat refine S.seq ?_
      refine S.block ?_
      ((repeat refine S.seq ?_); refine S.region (L.go (T := tt) tt_ok rfl rfl ?sd400 ?_); (try (case sd400 => (repeat' (first | exact trivial | with_reducible refine zI ?_ ?_ | rfl | omega)))); try (refine L.nil ?_))
      refine L.alloc (T := tt) 7 tt_ok rfl rfl rfl rfl rfl fun b7 => ?_
      (refine L.store (T := tt) tt_ok rfl rfl rfl rfl rfl rfl ?sd426 ?_; (try (case sd426 => (repeat' (first | exact trivial | with_reducible refine zI ?_ ?_ | rfl | exact zN rfl)))))
      refine L.nil ?_
      repeat refine S.seq ?_
      refine S.draw [(1, [7]), (6, [7]), (11, [7]), (13, [1]), (21, [7]), (23, [1]), (33, [1]), (36, [7]), (39, [7]), (43, [7])] mixed ?_
      (refine H.ts (T := tt) [0, 1] tt_ok (by kernel_rfl) (by kernel_rfl) (by kernel_rfl) (by intro ch a a' w h; obtain ⟨_, _, _, _, _, h, _⟩ := h; cases h) rfl ?sd429 ?_; (try (case sd429 => (repeat' (first | exact trivial | with_reducible refine zI ?_ ?_ | rfl | exact zN rfl)))))
      refine H.callP 2 rfl (by kernel_rfl) (by kernel_rfl) rfl rfl rfl rfl rfl rfl rfl ⟨trivial, by (repeat' (first | exact trivial | with_reducible refine zI ?_ ?_))⟩ rfl (by exact Imps.refl _) ((rmayMsg_p (s.held.getD k default).m)) ?_
      (refine H.ts (T := tt) [3, 4, 5, 6, 7, 8, 9, 10, 11, 12, 13, 14, 15, 16, 17, 18, 19, 20, 21, 22, 23, 24, 25, 26, 27, 28, 29, 30, 31, 32, 33, 34, 35, 36, 37, 38, 39, 41, 42, 43] tt_ok (by kernel_rfl) (by kernel_rfl) (by kernel_rfl) (by intro ch a a' w h; obtain ⟨_, _, _, _, _, h, _⟩ := h; cases h) rfl ?sd430 ?_; (try (case sd430 => (repeat' (first | exact trivial | exact zA | with_reducible refine zI ?_ ?_ | exact zB | exact zC | exact zD | exact zE | rfl | exact zN rfl | (simp; done) | (unfold fits; simp_all; omega) | (simp_all; omega) | (simp_all; done) | intro _)))))
      refine H.callG 40 rfl (by kernel_rfl) (by kernel_rfl) rfl rfl rfl rfl rfl rfl rfl (fun _ => ⟨trivial, by (repeat' (first | exact trivial | with_reducible refine zI ?_ ?_ | omega))⟩) rfl (by exact Imps.refl _) (fun _ => (rlast_p s (s.held.getD k default).m.pub (s.held.getD k default).m.key)) ?_
      (refine H.ts (T := tt) [44, 45] tt_ok (by kernel_rfl) (by kernel_rfl) (by kernel_rfl) (by intro ch a a' w h; obtain ⟨_, _, _, _, _, h, _⟩ := h; cases h) rfl ?sd431 ?_; (try (case sd431 => (repeat' (first | exact trivial | with_reducible refine zI ?_ ?_ | exact zB | exact zD)))))
      refine H.done (by kernel_rfl) ?_
      ((repeat refine S.seq ?_); refine S.cond rfl (fun h7 => ?_) (fun h7 => ?_) <;> (try first | refine S.skip ?_ | refine S.exit ?_))
      · skip
        ((repeat refine S.seq ?_); refine S.region (L.go (T := tt) tt_ok rfl rfl ?sd401 ?_); (try (case sd401 => (repeat' (first | exact trivial | with_reducible refine zI ?_ ?_)))); try (refine L.nil ?_))
        (((repeat refine S.seq ?_); refine S.ret ?_); refine E.retP (T := tt) tt_ok rfl rfl (by (repeat' (first | exact trivial | with_reducible refine zI ?_ ?_))) (Imp.of_eq ?_))
        have hno : mayShard s = false := notMay fun r => by
          exact bad h7 ((heldB s k).2 (r.held k (by omega)).1)
        rw [hno]
        rfl
      have hC := (heldB s k).1 h7
      ((repeat refine S.seq ?_); refine S.region (L.go (T := tt) tt_ok rfl rfl ?sd402 ?_); (try (case sd402 => (repeat' (first | exact trivial | with_reducible refine zI ?_ ?_)))); try (refine L.nil ?_))
      repeat refine S.seq ?_
      refine S.block (S.loop (ι := { j : Nat // j ≤ k ∧ ∀ i, i < j → (s.held.getD i default).m.key ≠ (s.held.getD k default).m.key }) (fun j => [(1, .ptr 1 b1 0), (6, .v (.int .i64 k)), (7, .ptr 7 b7 0), (8, .v (.int .i64 j.1))])
        (fun j => [(7, .blk b7 53 (s.held.getD k default).cells), (1, .blk b1 29 s.cells)]) (fun j => k - j.1) ?_ ?_)
      · refine fun a w h => ⟨⟨0, Nat.zero_le _, ?_⟩, h.weak (by (repeat' (first | exact True.intro | exact Imp.refl _ | refine ⟨?_, ?_⟩))) (by (repeat (first | exact List.nil_sublist _ | refine List.Sublist.cons_cons _ ?_ | refine List.Sublist.cons _ ?_)))⟩
        exact fun j hj => absurd hj (by omega)
      rintro ⟨j, hj, ij⟩
      dsimp only
      ((repeat refine S.seq ?_); refine S.region (L.go (T := tt) tt_ok rfl rfl ?sd403 ?_); (try (case sd403 => (repeat' (first | exact trivial | with_reducible refine zI ?_ ?_)))); try (refine L.nil ?_))
      ((repeat refine S.seq ?_); refine S.cond rfl (fun h8 => ?_) (fun h8 => ?_) <;> (try first | refine S.skip ?_ | refine S.exit ?_))
      · have h8 := of_dec h8
        repeat refine S.seq ?_
        refine S.block ?_
        repeat refine S.seq ?_
        refine S.draw [(1, [1]), (9, [7])] mixed ?_
        (refine H.ts (T := tt) [0, 1, 2, 3, 4, 5, 6, 7, 8, 9, 10] tt_ok (by kernel_rfl) (by kernel_rfl) (by kernel_rfl) (by intro ch a a' w h; obtain ⟨_, _, _, _, _, h, _⟩ := h; cases h) rfl ?sd432 ?_; (try (case sd432 => (repeat' (first | exact trivial | with_reducible refine zI ?_ ?_ | rfl | omega)))))
        refine H.done (by kernel_rfl) ?_
        ((repeat refine S.seq ?_); refine S.cond rfl (fun h9 => ?_) (fun h9 => ?_) <;> (try first | refine S.skip ?_ | refine S.exit ?_))
        · skip
          ((repeat refine S.seq ?_); refine S.region (L.go (T := tt) tt_ok rfl rfl ?sd404 ?_); (try (case sd404 => (repeat' (first | exact trivial | with_reducible refine zI ?_ ?_)))); try (refine L.nil ?_))
          (((repeat refine S.seq ?_); refine S.ret ?_); refine E.retP (T := tt) tt_ok rfl rfl (by (repeat' (first | exact trivial | with_reducible refine zI ?_ ?_))) (Imp.of_eq ?_))
          have hno : mayShard s = false := notMay fun r => by
            exact (r.held k (by omega)).2 j (by omega) (by simpa using h9)
          rw [hno]
          rfl
        ((repeat refine S.seq ?_); refine S.region (L.go (T := tt) tt_ok rfl rfl ?sd405 ?_); (try (case sd405 => (repeat' (first | exact trivial | with_reducible refine zI ?_ ?_ | (unfold fits; omega))))); try (refine L.nil ?_))
        refine fun a w hR => ⟨⟨j + 1, by omega, ?_⟩, by simp only; omega, hR.weak (by (repeat' (first | exact True.intro | exact Imp.refl _ | refine ⟨?_, ?_⟩))) (by (repeat (first | exact List.nil_sublist _ | refine List.Sublist.cons_cons _ ?_ | refine List.Sublist.cons _ ?_)))⟩
        exact upto_succ ij (by simpa using h9)
      · have h8 := of_dec' h8
        ((repeat refine S.seq ?_); refine S.region (L.go (T := tt) tt_ok rfl rfl ?sd406 ?_); (try (case sd406 => (repeat' (first | exact trivial | with_reducible refine zI ?_ ?_ | (unfold fits; omega))))); try (refine L.nil ?_))
        refine fun a w hR => ⟨⟨k + 1, by omega, ?_⟩, by simp only; omega, hR.weak (by (repeat' (first | exact True.intro | exact Imp.refl _ | refine ⟨?_, ?_⟩))) (by (repeat (first | exact List.nil_sublist _ | refine List.Sublist.cons_cons _ ?_ | refine List.Sublist.cons _ ?_)))⟩
        exact upto_succ ik ⟨hC, fun i hi => ij i (by omega)⟩
    · have h6 := of_dec' h6
      have hH : ∀ j, j < s.held.length → heldC s j := fun j hj => ik j (by omega)
      ((repeat refine S.seq ?_); refine S.region (L.go (T := tt) tt_ok rfl rfl ?sd407 ?_); (try (case sd407 => (repeat' (first | exact trivial | with_reducible refine zI ?_ ?_)))); try (refine L.nil ?_))
      repeat refine S.seq ?_
      refine S.block (S.loop (ι := { k : Nat // k ≤ s.ready.length ∧ ∀ j, j < k → readyC s j }) (fun k => [(1, .ptr 1 b1 0), (9, .v (.int .i64 k.1))])
        (fun k => [(1, .blk b1 29 s.cells)]) (fun k => s.ready.length - k.1) ?_ ?_)
      · refine fun a w h => ⟨⟨0, Nat.zero_le _, ?_⟩, h.weak (by (repeat' (first | exact True.intro | exact Imp.refl _ | refine ⟨?_, ?_⟩))) (by (repeat (first | exact List.nil_sublist _ | refine List.Sublist.cons_cons _ ?_ | refine List.Sublist.cons _ ?_)))⟩
        exact fun j hj => absurd hj (by omega)
      rintro ⟨k, hk, ik⟩
      dsimp only
      ((repeat refine S.seq ?_); refine S.region (L.go (T := tt) tt_ok rfl rfl ?sd408 ?_); (try (case sd408 => (repeat' (first | exact trivial | with_reducible refine zI ?_ ?_ | rfl)))); try (refine L.nil ?_))
      ((repeat refine S.seq ?_); refine S.cond rfl (fun h10 => ?_) (fun h10 => ?_) <;> (try first | refine S.skip ?_ | refine S.exit ?_))
      · have h10 := of_dec h10
        repeat refine S.seq ?_
        refine S.block ?_
        ((repeat refine S.seq ?_); refine S.region (L.go (T := tt) tt_ok rfl rfl ?sd409 ?_); (try (case sd409 => (repeat' (first | exact trivial | with_reducible refine zI ?_ ?_ | rfl | omega)))); try (refine L.nil ?_))
        refine L.alloc (T := tt) 10 tt_ok rfl rfl rfl rfl rfl fun b10 => ?_
        (refine L.store (T := tt) tt_ok rfl rfl rfl rfl rfl rfl ?sd427 ?_; (try (case sd427 => (repeat' (first | exact trivial | with_reducible refine zI ?_ ?_ | rfl | exact zN rfl)))))
        refine L.nil ?_
        repeat refine S.seq ?_
        refine S.draw [(0, [10]), (4, [1]), (6, [10]), (8, [10]), (11, [10])] mixed ?_
        (refine H.ts (T := tt) [0] tt_ok (by kernel_rfl) (by kernel_rfl) (by kernel_rfl) (by intro ch a a' w h; obtain ⟨_, _, _, _, _, h, _⟩ := h; cases h) rfl ?sd433 ?_; (try (case sd433 => (repeat' (first | exact trivial | with_reducible refine zI ?_ ?_ | rfl | exact zN rfl)))))
        refine H.callP 1 rfl (by kernel_rfl) (by kernel_rfl) rfl rfl rfl rfl rfl rfl rfl ⟨trivial, by (repeat' (first | exact trivial | with_reducible refine zI ?_ ?_))⟩ rfl (by exact Imps.refl _) ((rmayMsg_p (s.ready.getD k default))) ?_
        (refine H.ts (T := tt) [2, 3, 4, 5, 6, 7, 8, 10, 11] tt_ok (by kernel_rfl) (by kernel_rfl) (by kernel_rfl) (by intro ch a a' w h; obtain ⟨_, _, _, _, _, h, _⟩ := h; cases h) rfl ?sd434 ?_; (try (case sd434 => (repeat' (first | exact trivial | exact zA | with_reducible refine zI ?_ ?_ | rfl | exact zN rfl | (simp; done) | intro _)))))
        refine H.callG 9 rfl (by kernel_rfl) (by kernel_rfl) rfl rfl rfl rfl rfl rfl rfl (fun _ => ⟨trivial, by (repeat' (first | exact trivial | with_reducible refine zI ?_ ?_ | omega))⟩) rfl (by exact Imps.refl _) (fun _ => (rlast_p s (s.ready.getD k default).pub (s.ready.getD k default).key)) ?_
        (refine H.ts (T := tt) [12, 13] tt_ok (by kernel_rfl) (by kernel_rfl) (by kernel_rfl) (by intro ch a a' w h; obtain ⟨_, _, _, _, _, h, _⟩ := h; cases h) rfl ?sd435 ?_; (try (case sd435 => (repeat' (first | exact trivial | with_reducible refine zI ?_ ?_ | exact zB | exact zD)))))
        refine H.done (by kernel_rfl) ?_
        ((repeat refine S.seq ?_); refine S.cond rfl (fun h11 => ?_) (fun h11 => ?_) <;> (try first | refine S.skip ?_ | refine S.exit ?_))
        · skip
          ((repeat refine S.seq ?_); refine S.region (L.go (T := tt) tt_ok rfl rfl ?sd410 ?_); (try (case sd410 => (repeat' (first | exact trivial | with_reducible refine zI ?_ ?_)))); try (refine L.nil ?_))
          (((repeat refine S.seq ?_); refine S.ret ?_); refine E.retP (T := tt) tt_ok rfl rfl (by (repeat' (first | exact trivial | with_reducible refine zI ?_ ?_))) (Imp.of_eq ?_))
          have hno : mayShard s = false := notMay fun r => by
            exact bad h11 ((readyB s _).2 (r.ready k (by omega)).1.1)
          rw [hno]
          rfl
        have hRd := (readyB s _).1 h11
        ((repeat refine S.seq ?_); refine S.region (L.go (T := tt) tt_ok rfl rfl ?sd411 ?_); (try (case sd411 => (repeat' (first | exact trivial | with_reducible refine zI ?_ ?_)))); try (refine L.nil ?_))
        repeat refine S.seq ?_
        refine S.block (S.loop (ι := { j : Nat // j ≤ k ∧ ∀ i, i < j → ¬ hits (s.ready.getD i default) (s.ready.getD k default) }) (fun j => [(1, .ptr 1 b1 0), (9, .v (.int .i64 k)), (10, .ptr 10 b10 0), (11, .v (.int .i64 j.1))])
          (fun j => [(10, .blk b10 41 (s.ready.getD k default).cells), (1, .blk b1 29 s.cells)]) (fun j => k - j.1) ?_ ?_)
        · refine fun a w h => ⟨⟨0, Nat.zero_le _, ?_⟩, h.weak (by (repeat' (first | exact True.intro | exact Imp.refl _ | refine ⟨?_, ?_⟩))) (by (repeat (first | exact List.nil_sublist _ | refine List.Sublist.cons_cons _ ?_ | refine List.Sublist.cons _ ?_)))⟩
          exact fun j hj => absurd hj (by omega)
        rintro ⟨j, hj, ij⟩
        dsimp only
        ((repeat refine S.seq ?_); refine S.region (L.go (T := tt) tt_ok rfl rfl ?sd412 ?_); (try (case sd412 => (repeat' (first | exact trivial | with_reducible refine zI ?_ ?_)))); try (refine L.nil ?_))
        ((repeat refine S.seq ?_); refine S.cond rfl (fun h12 => ?_) (fun h12 => ?_) <;> (try first | refine S.skip ?_ | refine S.exit ?_))
        · have h12 := of_dec h12
          repeat refine S.seq ?_
          refine S.block ?_
          repeat refine S.seq ?_
          refine S.draw [(1, [1]), (7, [10]), (11, [1]), (17, [10]), (22, [1]), (28, [10])] mixed ?_
          (refine H.ts (T := tt) [0, 1, 2, 3, 4, 5, 6, 7, 8, 9, 10, 11, 12, 13, 14, 15, 16, 17, 18, 19, 20, 21, 22, 23, 24, 25, 26, 27, 28, 29, 30] tt_ok (by kernel_rfl) (by kernel_rfl) (by kernel_rfl) (by intro ch a a' w h; obtain ⟨_, _, _, _, _, h, _⟩ := h; cases h) rfl ?sd436 ?_; (try (case sd436 => (repeat' (first | exact trivial | exact zA | with_reducible refine zI ?_ ?_ | exact zB | exact zC | exact zD | rfl | omega | (simp; done) | (simp; omega) | (simp_all; omega))))))
          refine H.done (by kernel_rfl) ?_
          ((repeat refine S.seq ?_); refine S.cond rfl (fun h13 => ?_) (fun h13 => ?_) <;> (try first | refine S.skip ?_ | refine S.exit ?_))
          · skip
            ((repeat refine S.seq ?_); refine S.region (L.go (T := tt) tt_ok rfl rfl ?sd413 ?_); (try (case sd413 => (repeat' (first | exact trivial | with_reducible refine zI ?_ ?_)))); try (refine L.nil ?_))
            (((repeat refine S.seq ?_); refine S.ret ?_); refine E.retP (T := tt) tt_ok rfl rfl (by (repeat' (first | exact trivial | with_reducible refine zI ?_ ?_))) (Imp.of_eq ?_))
            have hno : mayShard s = false := notMay fun r => by
              exact (r.ready k (by omega)).1.2 j (by omega) ((hitsB _ _).1 h13)
            rw [hno]
            rfl
          ((repeat refine S.seq ?_); refine S.region (L.go (T := tt) tt_ok rfl rfl ?sd414 ?_); (try (case sd414 => (repeat' (first | exact trivial | with_reducible refine zI ?_ ?_ | (unfold fits; omega))))); try (refine L.nil ?_))
          refine fun a w hR => ⟨⟨j + 1, by omega, ?_⟩, by simp only; omega, hR.weak (by (repeat' (first | exact True.intro | exact Imp.refl _ | refine ⟨?_, ?_⟩))) (by (repeat (first | exact List.nil_sublist _ | refine List.Sublist.cons_cons _ ?_ | refine List.Sublist.cons _ ?_)))⟩
          exact upto_succ ij (hitsB' h13)
        · have h12 := of_dec' h12
          have hin : ∀ i, i < k → ¬ hits (s.ready.getD i default) (s.ready.getD k default) := fun i hi => ij i (by omega)
          ((repeat refine S.seq ?_); refine S.region (L.go (T := tt) tt_ok rfl rfl ?sd415 ?_); (try (case sd415 => (repeat' (first | exact trivial | with_reducible refine zI ?_ ?_)))); try (refine L.nil ?_))
          repeat refine S.seq ?_
          refine S.block (S.loop (ι := { j : Nat // j ≤ s.held.length ∧ ∀ i, i < j → ¬ hits (s.held.getD i default).m (s.ready.getD k default) }) (fun j => [(1, .ptr 1 b1 0), (9, .v (.int .i64 k)), (10, .ptr 10 b10 0), (12, .v (.int .i64 j.1))])
            (fun j => [(10, .blk b10 41 (s.ready.getD k default).cells), (1, .blk b1 29 s.cells)]) (fun j => s.held.length - j.1) ?_ ?_)
          · refine fun a w h => ⟨⟨0, Nat.zero_le _, ?_⟩, h.weak (by (repeat' (first | exact True.intro | exact Imp.refl _ | refine ⟨?_, ?_⟩))) (by (repeat (first | exact List.nil_sublist _ | refine List.Sublist.cons_cons _ ?_ | refine List.Sublist.cons _ ?_)))⟩
            exact fun j hj => absurd hj (by omega)
          rintro ⟨j, hj, ij⟩
          dsimp only
          ((repeat refine S.seq ?_); refine S.region (L.go (T := tt) tt_ok rfl rfl ?sd416 ?_); (try (case sd416 => (repeat' (first | exact trivial | with_reducible refine zI ?_ ?_ | rfl)))); try (refine L.nil ?_))
          ((repeat refine S.seq ?_); refine S.cond rfl (fun h14 => ?_) (fun h14 => ?_) <;> (try first | refine S.skip ?_ | refine S.exit ?_))
          · have h14 := of_dec h14
            repeat refine S.seq ?_
            refine S.block ?_
            repeat refine S.seq ?_
            refine S.draw [(1, [1]), (8, [10]), (12, [1]), (19, [10]), (24, [1]), (31, [10])] mixed ?_
            (refine H.ts (T := tt) [0, 1, 2, 3, 4, 5, 6, 7, 8, 9, 10, 11, 12, 13, 14, 15, 16, 17, 18, 19, 20, 21, 22, 23, 24, 25, 26, 27, 28, 29, 30, 31, 32, 33] tt_ok (by kernel_rfl) (by kernel_rfl) (by kernel_rfl) (by intro ch a a' w h; obtain ⟨_, _, _, _, _, h, _⟩ := h; cases h) rfl ?sd437 ?_; (try (case sd437 => (repeat' (first | exact trivial | exact zA | with_reducible refine zI ?_ ?_ | exact zB | exact zC | exact zD | rfl | omega | (simp; done) | (simp; omega) | (simp_all; done))))))
            refine H.done (by kernel_rfl) ?_
            ((repeat refine S.seq ?_); refine S.cond rfl (fun h15 => ?_) (fun h15 => ?_) <;> (try first | refine S.skip ?_ | refine S.exit ?_))
            · skip
              ((repeat refine S.seq ?_); refine S.region (L.go (T := tt) tt_ok rfl rfl ?sd417 ?_); (try (case sd417 => (repeat' (first | exact trivial | with_reducible refine zI ?_ ?_)))); try (refine L.nil ?_))
              (((repeat refine S.seq ?_); refine S.ret ?_); refine E.retP (T := tt) tt_ok rfl rfl (by (repeat' (first | exact trivial | with_reducible refine zI ?_ ?_))) (Imp.of_eq ?_))
              have hno : mayShard s = false := notMay fun r => by
                exact (r.ready k (by omega)).2 j (by omega) ((hitsB _ _).1 h15)
              rw [hno]
              rfl
            ((repeat refine S.seq ?_); refine S.region (L.go (T := tt) tt_ok rfl rfl ?sd418 ?_); (try (case sd418 => (repeat' (first | exact trivial | with_reducible refine zI ?_ ?_ | (unfold fits; omega))))); try (refine L.nil ?_))
            refine fun a w hR => ⟨⟨j + 1, by omega, ?_⟩, by simp only; omega, hR.weak (by (repeat' (first | exact True.intro | exact Imp.refl _ | refine ⟨?_, ?_⟩))) (by (repeat (first | exact List.nil_sublist _ | refine List.Sublist.cons_cons _ ?_ | refine List.Sublist.cons _ ?_)))⟩
            exact upto_succ ij (hitsB' h15)
          · have h14 := of_dec' h14
            ((repeat refine S.seq ?_); refine S.region (L.go (T := tt) tt_ok rfl rfl ?sd419 ?_); (try (case sd419 => (repeat' (first | exact trivial | with_reducible refine zI ?_ ?_ | (unfold fits; omega))))); try (refine L.nil ?_))
            refine fun a w hR => ⟨⟨k + 1, by omega, ?_⟩, by simp only; omega, hR.weak (by (repeat' (first | exact True.intro | exact Imp.refl _ | refine ⟨?_, ?_⟩))) (by (repeat (first | exact List.nil_sublist _ | refine List.Sublist.cons_cons _ ?_ | refine List.Sublist.cons _ ?_)))⟩
            exact upto_succ ik ⟨⟨hRd, hin⟩, fun i hi => ij i (by omega)⟩
      · have h10 := of_dec' h10
        ((repeat refine S.seq ?_); refine S.region (L.go (T := tt) tt_ok rfl rfl ?sd420 ?_); (try (case sd420 => (repeat' (first | exact trivial | with_reducible refine zI ?_ ?_)))); try (refine L.nil ?_))
        (((repeat refine S.seq ?_); refine S.ret ?_); refine E.retP (T := tt) tt_ok rfl rfl (by (repeat' (first | exact trivial | with_reducible refine zI ?_ ?_))) (Imp.of_eq ?_))
        have hyes : mayShard s = true := (rmay_iff s).2 ⟨hsz, hM, hH, fun j hj => ik j (by omega)⟩
        rw [hyes]
        rfl

end Go.Proofs.Ytlbbcjlhnjnkeaa

/- The reference: what may be put at once, frozen shards, the same shards. -/
namespace Go.Proofs.Ytlbbcjlhnjnkeaa
set_option linter.unusedVariables false
set_option linter.unusedSimpArgs false
set_option maxHeartbeats 8000000
open Go.RowKit
set_option maxRecDepth 4000

def rowC (l : List Msg) (k : Nat) : Prop := mayMsg (l.getD k default) = true ∧ (l.getD k default).again = false ∧ (l.getD k default).pub = (l.getD 0 default).pub ∧ (l.getD k default).key = (l.getD 0 default).key ∧ (l.getD k default).seq = (l.getD 0 default).seq + k
theorem row_iff (l : List Msg) : mayRow l = true ↔ (1 ≤ l.length ∧ l.length ≤ 8) ∧ ∀ k, k < l.length → rowC l k := by
  constructor
  · intro h
    refine ⟨row_len h, fun k hk => ?_⟩
    have := row_seq h k hk
    unfold rowC
    rwa [getD_get hk]
  · rintro ⟨h1, h2⟩
    unfold mayRow
    rw [Bool.and_eq_true]
    refine ⟨by simp only [Bool.not_eq_true', Bool.or_eq_false_iff, decide_eq_false_iff_not]; omega, List.all_eq_true.2 fun k hk => ?_⟩
    have hk : k < l.length := by simpa using hk
    obtain ⟨g1, g2, g3, g4, g5⟩ := h2 k hk
    unfold rowE
    simp only [g1, g2, g3, g4, Bool.not_false, beq_self_eq_true, Bool.and_self, Bool.true_and, Bool.or_eq_true, beq_iff_eq]
    by_cases h0 : k = 0
    · exact .inl h0
    · refine .inr ?_
      have := (h2 (k - 1) (by omega)).2.2.2.2
      omega
theorem rowB (l : List Msg) (k : Nat) : (!mayMsg (l.getD k default) || (l.getD k default).again || (l.getD k default).pub != (l.getD 0 default).pub || !((l.getD k default).key == (l.getD 0 default).key) || (l.getD k default).seq != (l.getD 0 default).seq + k) = false ↔ rowC l k := by
  simp [rowC, and_assoc]
theorem list_eq {α : Type} [Inhabited α] {l m : List α} (h : l.length = m.length) (hj : ∀ j, j < l.length → l.getD j default = m.getD j default) : l = m := by
  apply List.ext_getElem h
  intro i h1 h2
  have := hj i h1
  rwa [getD_get h1, getD_get h2] at this
theorem eqMsg_of {a b : Msg} (h : (!(a.pub == b.pub && (a.seq == b.seq && (a.key == b.key && (a.body == b.body && (a.again == b.again && true)))))) = false) : a = b := by
  cases a; cases b; simpa [and_assoc] using h
theorem eqHeld_of {a b : Held} (h : (!(a.tag == b.tag && ((a.m.pub == b.m.pub && (a.m.seq == b.m.seq && (a.m.key == b.m.key && (a.m.body == b.m.body && (a.m.again == b.m.again && true))))) && true))) = false) : a = b := by
  obtain ⟨t, m⟩ := a; obtain ⟨t', m'⟩ := b; cases m; cases m'; simpa [and_assoc] using h
theorem eqMark_of {a b : Mark} (h : (!(a.pub == b.pub && (a.key == b.key && (a.seq == b.seq && true)))) = false) : a = b := by
  cases a; cases b; simpa [and_assoc] using h
theorem notRow {l : List Msg} (h : ¬ ((1 ≤ l.length ∧ l.length ≤ 8) ∧ ∀ k, k < l.length → rowC l k)) : mayRow l = false := Bool.eq_false_iff.2 fun e => h ((row_iff l).1 e)

theorem rbatch_p (l : List Msg) : PFn Try.prog 61 [msgs l] (.v (.bool (mayRow l))) := by
  refine FnC.intro Try.func61 rfl Try.ntmps61 rfl ?_; intro off w0
  ((repeat refine S.seq ?_); refine S.region (L.go (T := tt) tt_ok rfl rfl ?sd438 ?_); (try (case sd438 => (repeat' (first | exact trivial | with_reducible refine zI ?_ ?_)))); try (refine L.nil ?_))
  ((repeat refine S.seq ?_); refine S.region (L.go (T := tt) tt_ok rfl rfl ?sd439 ?_); (try (case sd439 => (repeat' (first | exact trivial | exact zA | with_reducible refine zI ?_ ?_ | exact zB | exact zC | exact zE)))); try (refine L.nil ?_))
  ((repeat refine S.seq ?_); refine S.cond rfl (fun h1 => ?_) (fun h1 => ?_) <;> (try first | refine S.skip ?_ | refine S.exit ?_))
  · skip
    ((repeat refine S.seq ?_); refine S.region (L.go (T := tt) tt_ok rfl rfl ?sd440 ?_); (try (case sd440 => (repeat' (first | exact trivial | with_reducible refine zI ?_ ?_)))); try (refine L.nil ?_))
    (((repeat refine S.seq ?_); refine S.ret ?_); refine E.retP (T := tt) tt_ok rfl rfl (by (repeat' (first | exact trivial | with_reducible refine zI ?_ ?_))) (Imp.of_eq ?_))
    have hno : mayRow l = false := notRow fun r => by
      simp only [Bool.or_eq_true, decide_eq_true_eq] at h1
      omega
    rw [hno]
    rfl
    -- HOLE 1
  have hsz : 1 ≤ l.length ∧ l.length ≤ 8 := by
    simp only [Bool.or_eq_false_iff, decide_eq_false_iff_not] at h1
    omega
  -- HOLE 2
  ((repeat refine S.seq ?_); refine S.region (L.go (T := tt) tt_ok rfl rfl ?sd441 ?_); (try (case sd441 => (repeat' (first | exact trivial | with_reducible refine zI ?_ ?_)))); try (refine L.nil ?_))
  repeat refine S.seq ?_
  refine S.block (S.loop (ι := { k : Nat // k ≤ l.length ∧ ∀ j, j < k → rowC l j }) (fun k => [(0, msgs l), (3, .v (.int .i64 k.1))])
    (fun k => []) (fun k => l.length - k.1) ?_ ?_)
  · refine fun a w h => ⟨⟨0, Nat.zero_le _, ?_⟩, h.weak (by (repeat' (first | exact True.intro | exact Imp.refl _ | refine ⟨?_, ?_⟩))) (by (repeat (first | exact List.nil_sublist _ | refine List.Sublist.cons_cons _ ?_ | refine List.Sublist.cons _ ?_)))⟩
    exact fun j hj => absurd hj (by omega)
    -- HOLE 3
  rintro ⟨k, hk, ik⟩
  dsimp only
  ((repeat refine S.seq ?_); refine S.region (L.go (T := tt) tt_ok rfl rfl ?sd442 ?_); (try (case sd442 => (repeat' (first | exact trivial | with_reducible refine zI ?_ ?_)))); try (refine L.nil ?_))
  ((repeat refine S.seq ?_); refine S.cond rfl (fun h2 => ?_) (fun h2 => ?_) <;> (try first | refine S.skip ?_ | refine S.exit ?_))
  · have h2 := of_dec h2
    repeat refine S.seq ?_
    refine S.block ?_
    repeat refine S.seq ?_
    refine S.draw [] mixed ?_
    (refine H.ts (T := tt) [0, 1, 2, 3] tt_ok (by kernel_rfl) (by kernel_rfl) (by kernel_rfl) (by intro ch a a' w h; obtain ⟨_, _, _, _, _, h, _⟩ := h; cases h) rfl ?sd496 ?_; (try (case sd496 => (repeat' (first | exact trivial | with_reducible refine zI ?_ ?_ | rfl | omega)))))
    have hb : mayMsg (l.getD k default) = true → 1 ≤ (l.getD 0 default).seq ∧ (l.getD 0 default).seq ≤ 1073741824 := fun hb => by
      rcases Nat.eq_zero_or_pos k with rfl | h0
      · exact mayMsg_le hb
      · exact mayMsg_le (ik 0 h0).1
    refine H.callP 4 rfl (by kernel_rfl) (by kernel_rfl) rfl rfl rfl rfl rfl rfl rfl ⟨trivial, by (repeat' (first | exact trivial | with_reducible refine zI ?_ ?_))⟩ rfl (by exact Imps.refl _) ((rmayMsg_p (l.getD k default))) ?_
    (refine H.ts (T := tt) [5, 6, 7, 8, 9, 10, 11, 12, 13, 14, 15, 16, 17, 18, 19, 20, 21, 22, 23, 24, 25, 26, 27, 28, 29, 30, 31, 32, 33, 34, 35, 36, 37, 38, 39, 40, 41, 42, 43, 44, 45, 46, 47] tt_ok (by kernel_rfl) (by kernel_rfl) (by kernel_rfl) (by intro ch a a' w h; obtain ⟨_, _, _, _, _, h, _⟩ := h; cases h) rfl ?sd497 ?_; (try (case sd497 => (repeat' (first | exact trivial | exact zA | with_reducible refine zI ?_ ?_ | exact zB | exact zC | exact zD | (simp_all; omega) | (simp_all; done))))))
    refine H.ts (T := tt) [48] tt_ok (by kernel_rfl) (by kernel_rfl) (by kernel_rfl) (by intro ch a a' w h; obtain ⟨_, _, _, _, _, h, _⟩ := h; cases h) rfl ?_ ?_
    · (repeat' (first | exact True.intro | assumption | refine And.intro ?_ ?_ | intro hg))
      all_goals (have := hb (by revert hg; cases mayMsg (l.getD k default) <;> simp); simp only [Int.toNat_zero]; omega)
    (refine H.ts (T := tt) [49, 50] tt_ok (by kernel_rfl) (by kernel_rfl) (by kernel_rfl) (by intro ch a a' w h; obtain ⟨_, _, _, _, _, h, _⟩ := h; cases h) rfl ?sd498 ?_; (try (case sd498 => (repeat' (first | exact trivial | with_reducible refine zI ?_ ?_ | exact zB | exact zD)))))
    refine H.done (by kernel_rfl) ?_
    ((repeat refine S.seq ?_); refine S.cond rfl (fun h3 => ?_) (fun h3 => ?_) <;> (try first | refine S.skip ?_ | refine S.exit ?_))
    · skip
      ((repeat refine S.seq ?_); refine S.region (L.go (T := tt) tt_ok rfl rfl ?sd443 ?_); (try (case sd443 => (repeat' (first | exact trivial | with_reducible refine zI ?_ ?_)))); try (refine L.nil ?_))
      (((repeat refine S.seq ?_); refine S.ret ?_); refine E.retP (T := tt) tt_ok rfl rfl (by (repeat' (first | exact trivial | with_reducible refine zI ?_ ?_))) (Imp.of_eq ?_))
      have hno : mayRow l = false := notRow fun r => by
        exact bad h3 ((rowB l k).2 (r.2 k (by omega)))
      rw [hno]
      rfl
      -- HOLE 4
    -- HOLE 5
    ((repeat refine S.seq ?_); refine S.region (L.go (T := tt) tt_ok rfl rfl ?sd444 ?_); (try (case sd444 => (repeat' (first | exact trivial | with_reducible refine zI ?_ ?_ | (unfold fits; omega))))); try (refine L.nil ?_))
    refine fun a w hR => ⟨⟨k + 1, by omega, ?_⟩, by simp only; omega, hR.weak (by (repeat' (first | exact True.intro | exact Imp.refl _ | refine ⟨?_, ?_⟩))) (by (repeat (first | exact List.nil_sublist _ | refine List.Sublist.cons_cons _ ?_ | refine List.Sublist.cons _ ?_)))⟩
    exact upto_succ ik ((rowB l k).1 h3)
    -- HOLE 6
  · have h2 := of_dec' h2
    -- HOLE 7
    ((repeat refine S.seq ?_); refine S.region (L.go (T := tt) tt_ok rfl rfl ?sd445 ?_); (try (case sd445 => (repeat' (first | exact trivial | with_reducible refine zI ?_ ?_)))); try (refine L.nil ?_))
    (((repeat refine S.seq ?_); refine S.ret ?_); refine E.retP (T := tt) tt_ok rfl rfl (by (repeat' (first | exact trivial | with_reducible refine zI ?_ ?_))) (Imp.of_eq ?_))
    have hyes : mayRow l = true := (row_iff l).2 ⟨hsz, fun j hj => ik j (by omega)⟩
    rw [hyes]
    rfl
    -- HOLE 8

theorem rnew_p : PFn Try.prog 15 [] (Shard.av ⟨false, 1, [], [], []⟩) := by
  refine FnC.intro Try.func15 rfl Try.ntmps15 rfl ?_; intro off w0
  repeat refine S.seq ?_
  refine S.region ?_
  refine L.alloc (T := tt) 0 tt_ok rfl rfl rfl rfl rfl fun b0 => ?_
  refine L.nil ?_
  ((repeat refine S.seq ?_); refine S.region (L.go (T := tt) tt_ok rfl rfl ?sd446 ?_); (try (case sd446 => (repeat' (first | exact trivial | with_reducible refine zI ?_ ?_ | rfl | exact zN rfl)))); try (refine L.nil ?_))
  (refine L.store (T := tt) tt_ok rfl rfl rfl rfl rfl rfl ?sd489 ?_; (try (case sd489 => (repeat' (first | exact trivial | with_reducible refine zI ?_ ?_ | rfl | exact zN rfl)))))
  refine L.nil ?_
  (((repeat refine S.seq ?_); refine S.ret ?_); refine E.retP (T := tt) tt_ok rfl rfl (by (repeat' (first | exact trivial | with_reducible refine zI ?_ ?_ | rfl | exact zN rfl))) ?_)
  exact Imp.agg ⟨Imp.refl _, Imp.refl _, Imp.nil _ _, Imp.nil _ _, Imp.nil _ _, trivial⟩

theorem rlocked_p (s : Shard) (key : ByteArray) : PFn Try.prog 62 [s.av, .v (.string key)] (.v (.bool (hasKey s.held key))) := by
  refine FnC.intro Try.func62 rfl Try.ntmps62 rfl ?_; intro off w0
  refine lenAgg (cs := s.cells) (n := s.held.length) 0 3 rfl rfl fun hn => ?_
  repeat refine S.seq ?_
  refine S.region ?_
  refine L.box 2 rfl rfl rfl rfl rfl trivial rfl fun b2 => ?_
  (refine L.go (T := tt) tt_ok rfl rfl ?sd476 ?_; (try (case sd476 => (repeat' (first | exact trivial | with_reducible refine zI ?_ ?_)))); try (refine L.nil ?_))
  ((repeat refine S.seq ?_); refine S.region (L.go (T := tt) tt_ok rfl rfl ?sd447 ?_); (try (case sd447 => (repeat' (first | exact trivial | with_reducible refine zI ?_ ?_)))); try (refine L.nil ?_))
  repeat refine S.seq ?_
  refine S.block (S.loop (ι := { k : Nat // k ≤ s.held.length ∧ ∀ j, j < k → (s.held.getD j default).m.key ≠ key }) (fun k => [(1, .v (.string key)), (2, .ptr 2 b2 0), (5, .v (.int .i64 k.1))])
    (fun k => [(2, .blk b2 29 s.cells)]) (fun k => s.held.length - k.1) ?_ ?_)
  · refine fun a w h => ⟨⟨0, Nat.zero_le _, ?_⟩, h.weak (by (repeat' (first | exact True.intro | exact Imp.refl _ | refine ⟨?_, ?_⟩))) (by (repeat (first | exact List.nil_sublist _ | refine List.Sublist.cons_cons _ ?_ | refine List.Sublist.cons _ ?_)))⟩
    exact fun j hj => absurd hj (by omega)
    -- HOLE 1
  rintro ⟨k, hk, ik⟩
  dsimp only
  ((repeat refine S.seq ?_); refine S.region (L.go (T := tt) tt_ok rfl rfl ?sd448 ?_); (try (case sd448 => (repeat' (first | exact trivial | with_reducible refine zI ?_ ?_ | rfl)))); try (refine L.nil ?_))
  ((repeat refine S.seq ?_); refine S.cond rfl (fun h1 => ?_) (fun h1 => ?_) <;> (try first | refine S.skip ?_ | refine S.exit ?_))
  · have h1 := of_dec h1
    repeat refine S.seq ?_
    refine S.block ?_
    ((repeat refine S.seq ?_); refine S.region (L.go (T := tt) tt_ok rfl rfl ?sd449 ?_); (try (case sd449 => (repeat' (first | exact trivial | with_reducible refine zI ?_ ?_ | rfl | omega)))); try (refine L.nil ?_))
    ((repeat refine S.seq ?_); refine S.cond rfl (fun h2 => ?_) (fun h2 => ?_) <;> (try first | refine S.skip ?_ | refine S.exit ?_))
    · skip
      ((repeat refine S.seq ?_); refine S.region (L.go (T := tt) tt_ok rfl rfl ?sd450 ?_); (try (case sd450 => (repeat' (first | exact trivial | with_reducible refine zI ?_ ?_)))); try (refine L.nil ?_))
      (((repeat refine S.seq ?_); refine S.ret ?_); refine E.retP (T := tt) tt_ok rfl rfl (by (repeat' (first | exact trivial | with_reducible refine zI ?_ ?_))) (Imp.of_eq ?_))
      have hyes : hasKey s.held key = true := List.any_eq_true.2 ⟨_, List.getElem_mem (show k < s.held.length by omega), by rw [← getD_get]; exact h2⟩
      rw [hyes]
      rfl
      -- HOLE 2
    -- HOLE 3
    ((repeat refine S.seq ?_); refine S.region (L.go (T := tt) tt_ok rfl rfl ?sd451 ?_); (try (case sd451 => (repeat' (first | exact trivial | with_reducible refine zI ?_ ?_ | (unfold fits; omega))))); try (refine L.nil ?_))
    refine fun a w hR => ⟨⟨k + 1, by omega, ?_⟩, by simp only; omega, hR.weak (by (repeat' (first | exact True.intro | exact Imp.refl _ | refine ⟨?_, ?_⟩))) (by (repeat (first | exact List.nil_sublist _ | refine List.Sublist.cons_cons _ ?_ | refine List.Sublist.cons _ ?_)))⟩
    exact upto_succ ik (by simpa using h2)
    -- HOLE 4
  · have h1 := of_dec' h1
    -- HOLE 5
    ((repeat refine S.seq ?_); refine S.region (L.go (T := tt) tt_ok rfl rfl ?sd452 ?_); (try (case sd452 => (repeat' (first | exact trivial | with_reducible refine zI ?_ ?_)))); try (refine L.nil ?_))
    (((repeat refine S.seq ?_); refine S.ret ?_); refine E.retP (T := tt) tt_ok rfl rfl (by (repeat' (first | exact trivial | with_reducible refine zI ?_ ?_))) (Imp.of_eq ?_))
    have hno : hasKey s.held key = false := (hasKey_iff _ _).2 (all_get.2 fun j hj => ik j (by omega))
    rw [hno]
    rfl
    -- HOLE 6

theorem rsame_p (a b : Shard) : PFn Try.prog 10 [a.av, b.av] (.v (.bool (same a b))) := by
  refine FnC.intro Try.func10 rfl Try.ntmps10 rfl ?_; intro off w0
  refine lenAgg (cs := a.cells) (n := a.ready.length) 0 2 rfl rfl fun hn1 => lenAgg (cs := a.cells) (n := a.held.length) 0 3 rfl rfl fun hn2 => lenAgg (cs := a.cells) (n := a.marks.length) 0 4 rfl rfl fun hn3 => ?_
  repeat refine S.seq ?_
  refine S.region ?_
  refine L.box 2 rfl rfl rfl rfl rfl trivial rfl fun b2 => ?_
  refine L.box 3 rfl rfl rfl rfl rfl trivial rfl fun b3 => ?_
  (refine L.go (T := tt) tt_ok rfl rfl ?sd477 ?_; (try (case sd477 => (repeat' (first | exact trivial | with_reducible refine zI ?_ ?_)))); try (refine L.nil ?_))
  ((repeat refine S.seq ?_); refine S.region (L.go (T := tt) tt_ok rfl rfl ?sd453 ?_); (try (case sd453 => (repeat' (first | exact trivial | exact zA | with_reducible refine zI ?_ ?_ | exact zB | exact zC | exact zD | rfl | (simp; done))))); try (refine L.nil ?_))
  ((repeat refine S.seq ?_); refine S.cond rfl (fun h1 => ?_) (fun h1 => ?_) <;> (try first | refine S.skip ?_ | refine S.exit ?_))
  · skip
    ((repeat refine S.seq ?_); refine S.region (L.go (T := tt) tt_ok rfl rfl ?sd454 ?_); (try (case sd454 => (repeat' (first | exact trivial | with_reducible refine zI ?_ ?_)))); try (refine L.nil ?_))
    (((repeat refine S.seq ?_); refine S.ret ?_); refine E.retP (T := tt) tt_ok rfl rfl (by (repeat' (first | exact trivial | with_reducible refine zI ?_ ?_))) (Imp.of_eq ?_))
    have hno : same a b = false := by
      rw [same_eq, decide_eq_false_iff_not]
      intro e
      simp only [Bool.or_eq_true, bne_iff_ne, ne_eq] at h1
      obtain rfl := e
      simp at h1
    rw [hno]
    rfl
    -- HOLE 1
  have hsz : a.frozen = b.frozen ∧ a.next = b.next ∧ a.ready.length = b.ready.length ∧ a.held.length = b.held.length ∧ a.marks.length = b.marks.length := by
    simp only [Bool.or_eq_false_iff, bne_eq_false_iff_eq, Bool.not_eq_eq_eq_not, Bool.not_false, beq_iff_eq] at h1
    exact ⟨h1.1.1.1.1, h1.1.1.1.2, by omega, by omega, by omega⟩
  -- HOLE 2
  ((repeat refine S.seq ?_); refine S.region (L.go (T := tt) tt_ok rfl rfl ?sd455 ?_); (try (case sd455 => (repeat' (first | exact trivial | with_reducible refine zI ?_ ?_)))); try (refine L.nil ?_))
  repeat refine S.seq ?_
  refine S.block (S.loop (ι := { k : Nat // k ≤ a.ready.length ∧ ∀ j, j < k → a.ready.getD j default = b.ready.getD j default }) (fun k => [(2, .ptr 2 b2 0), (3, .ptr 3 b3 0), (5, .v (.int .i64 k.1))])
    (fun k => [(3, .blk b3 29 b.cells), (2, .blk b2 29 a.cells)]) (fun k => a.ready.length - k.1) ?_ ?_)
  · refine fun a w h => ⟨⟨0, Nat.zero_le _, ?_⟩, h.weak (by (repeat' (first | exact True.intro | exact Imp.refl _ | refine ⟨?_, ?_⟩))) (by (repeat (first | exact List.nil_sublist _ | refine List.Sublist.cons_cons _ ?_ | refine List.Sublist.cons _ ?_)))⟩
    exact fun j hj => absurd hj (by omega)
    -- HOLE 3
  rintro ⟨k, hk, ik⟩
  dsimp only
  ((repeat refine S.seq ?_); refine S.region (L.go (T := tt) tt_ok rfl rfl ?sd456 ?_); (try (case sd456 => (repeat' (first | exact trivial | with_reducible refine zI ?_ ?_ | rfl)))); try (refine L.nil ?_))
  ((repeat refine S.seq ?_); refine S.cond rfl (fun h2 => ?_) (fun h2 => ?_) <;> (try first | refine S.skip ?_ | refine S.exit ?_))
  · have h2 := of_dec h2
    repeat refine S.seq ?_
    refine S.block ?_
    repeat refine S.seq ?_
    refine S.draw [(1, [2]), (6, [3])] mixed ?_
    (refine H.ts (T := tt) [0, 1, 2, 3, 4, 5, 6, 7, 8, 9, 10] tt_ok (by kernel_rfl) (by kernel_rfl) (by kernel_rfl) (by intro ch a a' w h; obtain ⟨_, _, _, _, _, h, _⟩ := h; cases h) rfl ?sd499 ?_; (try (case sd499 => (repeat' (first | exact trivial | with_reducible refine zI ?_ ?_ | rfl | omega)))))
    refine H.done (by kernel_rfl) ?_
    ((repeat refine S.seq ?_); refine S.cond rfl (fun h3 => ?_) (fun h3 => ?_) <;> (try first | refine S.skip ?_ | refine S.exit ?_))
    · skip
      ((repeat refine S.seq ?_); refine S.region (L.go (T := tt) tt_ok rfl rfl ?sd457 ?_); (try (case sd457 => (repeat' (first | exact trivial | with_reducible refine zI ?_ ?_)))); try (refine L.nil ?_))
      (((repeat refine S.seq ?_); refine S.ret ?_); refine E.retP (T := tt) tt_ok rfl rfl (by (repeat' (first | exact trivial | with_reducible refine zI ?_ ?_))) (Imp.of_eq ?_))
      have hno : same a b = false := by
        rw [same_eq, decide_eq_false_iff_not]
        intro e
        obtain rfl := e
        simp at h3
      rw [hno]
      rfl
      -- HOLE 4
    -- HOLE 5
    ((repeat refine S.seq ?_); refine S.region (L.go (T := tt) tt_ok rfl rfl ?sd458 ?_); (try (case sd458 => (repeat' (first | exact trivial | with_reducible refine zI ?_ ?_ | (unfold fits; omega))))); try (refine L.nil ?_))
    refine fun a w hR => ⟨⟨k + 1, by omega, ?_⟩, by simp only; omega, hR.weak (by (repeat' (first | exact True.intro | exact Imp.refl _ | refine ⟨?_, ?_⟩))) (by (repeat (first | exact List.nil_sublist _ | refine List.Sublist.cons_cons _ ?_ | refine List.Sublist.cons _ ?_)))⟩
    exact upto_succ ik (eqMsg_of h3)
    -- HOLE 6
  · have h2 := of_dec' h2
    have e1 : a.ready = b.ready := list_eq hsz.2.2.1 fun j hj => ik j (by omega)
    -- HOLE 7
    ((repeat refine S.seq ?_); refine S.region (L.go (T := tt) tt_ok rfl rfl ?sd459 ?_); (try (case sd459 => (repeat' (first | exact trivial | with_reducible refine zI ?_ ?_)))); try (refine L.nil ?_))
    repeat refine S.seq ?_
    refine S.block (S.loop (ι := { k : Nat // k ≤ a.held.length ∧ ∀ j, j < k → a.held.getD j default = b.held.getD j default }) (fun k => [(2, .ptr 2 b2 0), (3, .ptr 3 b3 0), (6, .v (.int .i64 k.1))])
      (fun k => [(3, .blk b3 29 b.cells), (2, .blk b2 29 a.cells)]) (fun k => a.held.length - k.1) ?_ ?_)
    · refine fun a w h => ⟨⟨0, Nat.zero_le _, ?_⟩, h.weak (by (repeat' (first | exact True.intro | exact Imp.refl _ | refine ⟨?_, ?_⟩))) (by (repeat (first | exact List.nil_sublist _ | refine List.Sublist.cons_cons _ ?_ | refine List.Sublist.cons _ ?_)))⟩
      exact fun j hj => absurd hj (by omega)
      -- HOLE 8
    rintro ⟨k, hk, ik⟩
    dsimp only
    ((repeat refine S.seq ?_); refine S.region (L.go (T := tt) tt_ok rfl rfl ?sd460 ?_); (try (case sd460 => (repeat' (first | exact trivial | with_reducible refine zI ?_ ?_ | rfl)))); try (refine L.nil ?_))
    ((repeat refine S.seq ?_); refine S.cond rfl (fun h4 => ?_) (fun h4 => ?_) <;> (try first | refine S.skip ?_ | refine S.exit ?_))
    · have h4 := of_dec h4
      repeat refine S.seq ?_
      refine S.block ?_
      repeat refine S.seq ?_
      refine S.draw [(1, [2]), (6, [3])] mixed ?_
      (refine H.ts (T := tt) [0, 1, 2, 3, 4, 5, 6, 7, 8, 9, 10] tt_ok (by kernel_rfl) (by kernel_rfl) (by kernel_rfl) (by intro ch a a' w h; obtain ⟨_, _, _, _, _, h, _⟩ := h; cases h) rfl ?sd500 ?_; (try (case sd500 => (repeat' (first | exact trivial | with_reducible refine zI ?_ ?_ | rfl | omega)))))
      refine H.done (by kernel_rfl) ?_
      ((repeat refine S.seq ?_); refine S.cond rfl (fun h5 => ?_) (fun h5 => ?_) <;> (try first | refine S.skip ?_ | refine S.exit ?_))
      · skip
        ((repeat refine S.seq ?_); refine S.region (L.go (T := tt) tt_ok rfl rfl ?sd461 ?_); (try (case sd461 => (repeat' (first | exact trivial | with_reducible refine zI ?_ ?_)))); try (refine L.nil ?_))
        (((repeat refine S.seq ?_); refine S.ret ?_); refine E.retP (T := tt) tt_ok rfl rfl (by (repeat' (first | exact trivial | with_reducible refine zI ?_ ?_))) (Imp.of_eq ?_))
        have hno : same a b = false := by
          rw [same_eq, decide_eq_false_iff_not]
          intro e
          obtain rfl := e
          simp at h5
        rw [hno]
        rfl
        -- HOLE 9
      -- HOLE 10
      ((repeat refine S.seq ?_); refine S.region (L.go (T := tt) tt_ok rfl rfl ?sd462 ?_); (try (case sd462 => (repeat' (first | exact trivial | with_reducible refine zI ?_ ?_ | (unfold fits; omega))))); try (refine L.nil ?_))
      refine fun a w hR => ⟨⟨k + 1, by omega, ?_⟩, by simp only; omega, hR.weak (by (repeat' (first | exact True.intro | exact Imp.refl _ | refine ⟨?_, ?_⟩))) (by (repeat (first | exact List.nil_sublist _ | refine List.Sublist.cons_cons _ ?_ | refine List.Sublist.cons _ ?_)))⟩
      exact upto_succ ik (eqHeld_of h5)
      -- HOLE 11
    · have h4 := of_dec' h4
      have e2 : a.held = b.held := list_eq hsz.2.2.2.1 fun j hj => ik j (by omega)
      -- HOLE 12
      ((repeat refine S.seq ?_); refine S.region (L.go (T := tt) tt_ok rfl rfl ?sd463 ?_); (try (case sd463 => (repeat' (first | exact trivial | with_reducible refine zI ?_ ?_)))); try (refine L.nil ?_))
      repeat refine S.seq ?_
      refine S.block (S.loop (ι := { k : Nat // k ≤ a.marks.length ∧ ∀ j, j < k → a.marks.getD j default = b.marks.getD j default }) (fun k => [(2, .ptr 2 b2 0), (3, .ptr 3 b3 0), (7, .v (.int .i64 k.1))])
        (fun k => [(3, .blk b3 29 b.cells), (2, .blk b2 29 a.cells)]) (fun k => a.marks.length - k.1) ?_ ?_)
      · refine fun a w h => ⟨⟨0, Nat.zero_le _, ?_⟩, h.weak (by (repeat' (first | exact True.intro | exact Imp.refl _ | refine ⟨?_, ?_⟩))) (by (repeat (first | exact List.nil_sublist _ | refine List.Sublist.cons_cons _ ?_ | refine List.Sublist.cons _ ?_)))⟩
        exact fun j hj => absurd hj (by omega)
        -- HOLE 13
      rintro ⟨k, hk, ik⟩
      dsimp only
      ((repeat refine S.seq ?_); refine S.region (L.go (T := tt) tt_ok rfl rfl ?sd464 ?_); (try (case sd464 => (repeat' (first | exact trivial | with_reducible refine zI ?_ ?_ | rfl)))); try (refine L.nil ?_))
      ((repeat refine S.seq ?_); refine S.cond rfl (fun h6 => ?_) (fun h6 => ?_) <;> (try first | refine S.skip ?_ | refine S.exit ?_))
      · have h6 := of_dec h6
        repeat refine S.seq ?_
        refine S.block ?_
        repeat refine S.seq ?_
        refine S.draw [(1, [2]), (6, [3])] mixed ?_
        (refine H.ts (T := tt) [0, 1, 2, 3, 4, 5, 6, 7, 8, 9, 10] tt_ok (by kernel_rfl) (by kernel_rfl) (by kernel_rfl) (by intro ch a a' w h; obtain ⟨_, _, _, _, _, h, _⟩ := h; cases h) rfl ?sd501 ?_; (try (case sd501 => (repeat' (first | exact trivial | with_reducible refine zI ?_ ?_ | rfl | omega)))))
        refine H.done (by kernel_rfl) ?_
        ((repeat refine S.seq ?_); refine S.cond rfl (fun h7 => ?_) (fun h7 => ?_) <;> (try first | refine S.skip ?_ | refine S.exit ?_))
        · skip
          ((repeat refine S.seq ?_); refine S.region (L.go (T := tt) tt_ok rfl rfl ?sd465 ?_); (try (case sd465 => (repeat' (first | exact trivial | with_reducible refine zI ?_ ?_)))); try (refine L.nil ?_))
          (((repeat refine S.seq ?_); refine S.ret ?_); refine E.retP (T := tt) tt_ok rfl rfl (by (repeat' (first | exact trivial | with_reducible refine zI ?_ ?_))) (Imp.of_eq ?_))
          have hno : same a b = false := by
            rw [same_eq, decide_eq_false_iff_not]
            intro e
            obtain rfl := e
            simp at h7
          rw [hno]
          rfl
          -- HOLE 14
        -- HOLE 15
        ((repeat refine S.seq ?_); refine S.region (L.go (T := tt) tt_ok rfl rfl ?sd466 ?_); (try (case sd466 => (repeat' (first | exact trivial | with_reducible refine zI ?_ ?_ | (unfold fits; omega))))); try (refine L.nil ?_))
        refine fun a w hR => ⟨⟨k + 1, by omega, ?_⟩, by simp only; omega, hR.weak (by (repeat' (first | exact True.intro | exact Imp.refl _ | refine ⟨?_, ?_⟩))) (by (repeat (first | exact List.nil_sublist _ | refine List.Sublist.cons_cons _ ?_ | refine List.Sublist.cons _ ?_)))⟩
        exact upto_succ ik (eqMark_of h7)
        -- HOLE 16
      · have h6 := of_dec' h6
        -- HOLE 17
        ((repeat refine S.seq ?_); refine S.region (L.go (T := tt) tt_ok rfl rfl ?sd467 ?_); (try (case sd467 => (repeat' (first | exact trivial | with_reducible refine zI ?_ ?_)))); try (refine L.nil ?_))
        (((repeat refine S.seq ?_); refine S.ret ?_); refine E.retP (T := tt) tt_ok rfl rfl (by (repeat' (first | exact trivial | with_reducible refine zI ?_ ?_))) (Imp.of_eq ?_))
        have e3 : a.marks = b.marks := list_eq hsz.2.2.2.2 fun j hj => ik j (by omega)
        have hyes : same a b = true := by simp [same, hsz.1, hsz.2.1, e1, e2, e3]
        rw [hyes]
        rfl
        -- HOLE 18

theorem rset_p (s : Shard) (on : Bool) (hs : s.small) : PFn Try.prog 64 [s.av, .v (.bool on)] (.tup [(setFrozen s on).1.av, .v (.int .i64 (setFrozen s on).2)]) := by
  refine FnC.intro Try.func64 rfl Try.ntmps64 rfl ?_; intro off w0
  repeat refine S.seq ?_
  refine S.region ?_
  refine L.box 2 rfl rfl rfl rfl rfl trivial rfl fun b2 => ?_
  refine L.alloc (T := tt) 4 tt_ok rfl rfl rfl rfl rfl fun b4 => ?_
  (refine L.go (T := tt) tt_ok rfl rfl ?sd478 ?_; (try (case sd478 => (repeat' (first | exact trivial | with_reducible refine zI ?_ ?_)))); try (refine L.nil ?_))
  repeat refine S.seq ?_
  refine S.block ?_
  ((repeat refine S.seq ?_); refine S.region (L.go (T := tt) tt_ok rfl rfl ?sd468 ?_); (try (case sd468 => (repeat' (first | exact trivial | with_reducible refine zI ?_ ?_ | rfl | exact zN rfl)))); try (refine L.nil ?_))
  refine L.callP rfl rfl rfl rfl rfl rfl rfl ⟨trivial, by (repeat' (first | exact trivial | with_reducible refine zI ?_ ?_))⟩ rfl (Imps.refl _) (rmay_p _ (by assumption)) ?_
  (refine L.go (T := tt) tt_ok rfl rfl ?sd479 ?_; (try (case sd479 => (repeat' (first | exact trivial | with_reducible refine zI ?_ ?_)))); try (refine L.nil ?_))
  ((repeat refine S.seq ?_); refine S.cond rfl (fun h1 => ?_) (fun h1 => ?_) <;> (try first | refine S.skip ?_ | refine S.exit ?_))
  · skip
    ((repeat refine S.seq ?_); refine S.region (L.go (T := tt) tt_ok rfl rfl ?sd469 ?_); (try (case sd469 => (repeat' (first | exact trivial | with_reducible refine zI ?_ ?_ | rfl | exact zN rfl)))); try (refine L.nil ?_))
    (refine L.store (T := tt) tt_ok rfl rfl rfl rfl rfl rfl ?sd490 ?_; (try (case sd490 => (repeat' (first | exact trivial | with_reducible refine zI ?_ ?_ | rfl | exact zN rfl)))))
    (refine L.go (T := tt) tt_ok rfl rfl ?sd480 ?_; (try (case sd480 => (repeat' (first | exact trivial | with_reducible refine zI ?_ ?_)))); try (refine L.nil ?_))
    (((repeat refine S.seq ?_); refine S.ret ?_); refine E.retP (T := tt) tt_ok rfl rfl (by (repeat' (first | exact trivial | with_reducible refine zI ?_ ?_ | rfl | exact zN rfl))) (Imp.of_eq ?_))
    rw [setFrozen, if_pos h1]
    rfl
    -- HOLE 1
  -- HOLE 2
  ((repeat refine S.seq ?_); refine S.region (L.go (T := tt) tt_ok rfl rfl ?sd470 ?_); (try (case sd470 => (repeat' (first | exact trivial | with_reducible refine zI ?_ ?_ | rfl)))); try (refine L.nil ?_))
  ((repeat refine S.seq ?_); refine S.cond rfl (fun h2 => ?_) (fun h2 => ?_) <;> (try first | refine S.skip ?_ | refine S.exit ?_))
  · skip
    ((repeat refine S.seq ?_); refine S.region (L.go (T := tt) tt_ok rfl rfl ?sd471 ?_); (try (case sd471 => (repeat' (first | exact trivial | with_reducible refine zI ?_ ?_ | rfl | exact zN rfl)))); try (refine L.nil ?_))
    (refine L.store (T := tt) tt_ok rfl rfl rfl rfl rfl rfl ?sd491 ?_; (try (case sd491 => (repeat' (first | exact trivial | with_reducible refine zI ?_ ?_ | rfl | exact zN rfl)))))
    (refine L.go (T := tt) tt_ok rfl rfl ?sd481 ?_; (try (case sd481 => (repeat' (first | exact trivial | with_reducible refine zI ?_ ?_)))); try (refine L.nil ?_))
    (((repeat refine S.seq ?_); refine S.ret ?_); refine E.retP (T := tt) tt_ok rfl rfl (by (repeat' (first | exact trivial | with_reducible refine zI ?_ ?_ | rfl | exact zN rfl))) (Imp.of_eq ?_))
    rw [setFrozen, if_neg (by simp_all), if_pos h2]
    rfl
    -- HOLE 3
  -- HOLE 4
  ((repeat refine S.seq ?_); refine S.region (L.go (T := tt) tt_ok rfl rfl ?sd472 ?_); (try (case sd472 => (repeat' (first | exact trivial | with_reducible refine zI ?_ ?_)))); try (refine L.nil ?_))
  (refine L.store (T := tt) tt_ok rfl rfl rfl rfl rfl rfl ?sd492 ?_; (try (case sd492 => (repeat' (first | exact trivial | with_reducible refine zI ?_ ?_ | rfl | exact zN rfl)))))
  refine L.nil ?_
  ((repeat refine S.seq ?_); refine S.region (L.go (T := tt) tt_ok rfl rfl ?sd473 ?_); (try (case sd473 => (repeat' (first | exact trivial | with_reducible refine zI ?_ ?_ | rfl | exact zN rfl)))); try (refine L.nil ?_))
  (refine L.store (T := tt) tt_ok rfl rfl rfl rfl rfl rfl ?sd493 ?_; (try (case sd493 => (repeat' (first | exact trivial | with_reducible refine zI ?_ ?_ | rfl | exact zN rfl)))))
  (refine L.go (T := tt) tt_ok rfl rfl ?sd482 ?_; (try (case sd482 => (repeat' (first | exact trivial | with_reducible refine zI ?_ ?_)))); try (refine L.nil ?_))
  (((repeat refine S.seq ?_); refine S.ret ?_); refine E.retP (T := tt) tt_ok rfl rfl (by (repeat' (first | exact trivial | with_reducible refine zI ?_ ?_ | rfl | exact zN rfl))) (Imp.of_eq ?_))
  rw [setFrozen, if_neg (by simp_all), if_neg (by simp_all)]
  rfl
  -- HOLE 5

theorem rfreeze_p (s : Shard) (hs : s.small) : PFn Try.prog 42 [s.av] (.tup [(setFrozen s true).1.av, .v (.int .i64 (setFrozen s true).2)]) := by
  refine FnC.intro Try.func42 rfl Try.ntmps42 rfl ?_; intro off w0
  repeat refine S.seq ?_
  refine S.region ?_
  refine L.box 1 rfl rfl rfl rfl rfl trivial rfl fun b1 => ?_
  refine L.alloc (T := tt) 2 tt_ok rfl rfl rfl rfl rfl fun b2 => ?_
  (refine L.go (T := tt) tt_ok rfl rfl ?sd483 ?_; (try (case sd483 => (repeat' (first | exact trivial | with_reducible refine zI ?_ ?_)))); try (refine L.nil ?_))
  ((repeat refine S.seq ?_); refine S.region (L.go (T := tt) tt_ok rfl rfl ?sd474 ?_); (try (case sd474 => (repeat' (first | exact trivial | with_reducible refine zI ?_ ?_ | rfl | exact zN rfl)))); try (refine L.nil ?_))
  refine L.callP rfl rfl rfl rfl rfl rfl rfl ⟨trivial, by (repeat' (first | exact trivial | with_reducible refine zI ?_ ?_))⟩ rfl (Imps.refl _) (rset_p _ _ (by assumption)) ?_
  (refine L.go (T := tt) tt_ok rfl rfl ?sd484 ?_; (try (case sd484 => (repeat' (first | exact trivial | with_reducible refine zI ?_ ?_)))); try (refine L.nil ?_))
  (refine L.store (T := tt) tt_ok rfl rfl rfl rfl rfl rfl ?sd494 ?_; (try (case sd494 => (repeat' (first | exact trivial | with_reducible refine zI ?_ ?_ | rfl | exact zN rfl)))))
  (refine L.go (T := tt) tt_ok rfl rfl ?sd485 ?_; (try (case sd485 => (repeat' (first | exact trivial | with_reducible refine zI ?_ ?_)))); try (refine L.nil ?_))
  (((repeat refine S.seq ?_); refine S.ret ?_); refine E.retP (T := tt) tt_ok rfl rfl (by (repeat' (first | exact trivial | with_reducible refine zI ?_ ?_ | rfl | exact zN rfl))) (Imp.of_eq ?_))
  rfl

theorem rthaw_p (s : Shard) (hs : s.small) : PFn Try.prog 43 [s.av] (.tup [(setFrozen s false).1.av, .v (.int .i64 (setFrozen s false).2)]) := by
  refine FnC.intro Try.func43 rfl Try.ntmps43 rfl ?_; intro off w0
  repeat refine S.seq ?_
  refine S.region ?_
  refine L.box 1 rfl rfl rfl rfl rfl trivial rfl fun b1 => ?_
  refine L.alloc (T := tt) 2 tt_ok rfl rfl rfl rfl rfl fun b2 => ?_
  (refine L.go (T := tt) tt_ok rfl rfl ?sd486 ?_; (try (case sd486 => (repeat' (first | exact trivial | with_reducible refine zI ?_ ?_)))); try (refine L.nil ?_))
  ((repeat refine S.seq ?_); refine S.region (L.go (T := tt) tt_ok rfl rfl ?sd475 ?_); (try (case sd475 => (repeat' (first | exact trivial | with_reducible refine zI ?_ ?_ | rfl | exact zN rfl)))); try (refine L.nil ?_))
  refine L.callP rfl rfl rfl rfl rfl rfl rfl ⟨trivial, by (repeat' (first | exact trivial | with_reducible refine zI ?_ ?_))⟩ rfl (Imps.refl _) (rset_p _ _ (by assumption)) ?_
  (refine L.go (T := tt) tt_ok rfl rfl ?sd487 ?_; (try (case sd487 => (repeat' (first | exact trivial | with_reducible refine zI ?_ ?_)))); try (refine L.nil ?_))
  (refine L.store (T := tt) tt_ok rfl rfl rfl rfl rfl rfl ?sd495 ?_; (try (case sd495 => (repeat' (first | exact trivial | with_reducible refine zI ?_ ?_ | rfl | exact zN rfl)))))
  (refine L.go (T := tt) tt_ok rfl rfl ?sd488 ?_; (try (case sd488 => (repeat' (first | exact trivial | with_reducible refine zI ?_ ?_)))); try (refine L.nil ?_))
  (((repeat refine S.seq ?_); refine S.ret ?_); refine E.retP (T := tt) tt_ok rfl rfl (by (repeat' (first | exact trivial | with_reducible refine zI ?_ ?_ | rfl | exact zN rfl))) (Imp.of_eq ?_))
  rfl


end Go.Proofs.Ytlbbcjlhnjnkeaa
