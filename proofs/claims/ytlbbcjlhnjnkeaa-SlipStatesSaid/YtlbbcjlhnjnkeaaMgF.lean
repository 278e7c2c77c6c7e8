/- Texts of this proof, laid together: ShardE, ShardF, ApiEq, EqMsgs, EqHelds, EqMarks, ShardG, ShardI. -/
import Derived.Test.YtlbbcjlhnjnkeaaMgD
import Derived.Test.YtlbbcjlhnjnkeaaMgC
import Derived.Test.YtlbbcjlhnjnkeaaMgE
import Derived.Test.YtlbbcjlhnjnkeaaMgB
/- A held message is settled. -/
namespace Go.Proofs.Ytlbbcjlhnjnkeaa
set_option linter.unusedVariables false
set_option linter.unusedSimpArgs false
set_option maxHeartbeats 8000000
open Go.RowKit
set_option maxRecDepth 4000

def tagP (l : List Held) (tag : Int) (i : Nat) : Bool := (l.getD i default).tag == tag
/-- The place of a held one; -1. -/
def heldAt (l : List Held) (tag : Int) : Int := pidx (tagP l tag) l.length
theorem heldAt_lt (l : List Held) (tag : Int) : -1 ≤ heldAt l tag ∧ heldAt l tag < l.length := by
  unfold heldAt
  rcases pidx_cases (tagP l tag) l.length with ⟨h, -⟩ | ⟨k, hk, -, -, h⟩ <;> rw [h] <;> omega

theorem settled1_p (h : Held) (tag : Int) : PFn Try.prog 79 [h.av, .pel 1 [.v (.int .i64 tag)]] (.v (.bool (h.tag == tag))) := by
  refine FnC.intro Try.func79 rfl Try.ntmps79 rfl ?_; intro off w0
  repeat refine S.seq ?_
  refine S.region (L.box 0 rfl rfl rfl rfl rfl trivial rfl fun b => ?_)
  (refine L.go (T := tt) tt_ok rfl rfl ?sd145 ?_; (try (case sd145 => (repeat' (first | exact trivial | with_reducible refine zI ?_ ?_)))); try (refine L.nil ?_))
  ((repeat refine S.seq ?_); refine S.region (L.go (T := tt) tt_ok rfl rfl ?sd136 ?_); (try (case sd136 => (repeat' (first | exact trivial | with_reducible refine zI ?_ ?_ | rfl)))); try (refine L.nil ?_))
  ((repeat refine S.seq ?_); refine S.ret ?_)
  exact E.retP (T := tt) tt_ok rfl rfl (by (repeat' (first | exact trivial | with_reducible refine zI ?_ ?_))) (Imp.refl _)

/-- What a settling tells: 0, or why not. -/
def settleE (s : Shard) (tag : Int) : Int := if !mayShard s then 1 else if heldAt s.held tag < 0 then 3 else 0
def dropG {α : Type} [Inhabited α] (f : α → List AV) (l : List α) (k : Nat) (i : Nat) : List AV := if i < k then gOf f l i else gOf f l (i + 1)

theorem settled_p (s : Shard) (tag : Int) (hs : s.small) : FnC Try.prog 70 [s.av, .v (.int .i64 tag)] [] (fun r F' =>
    (settleE s tag ≠ 0 ∧ r = .tup [s.av, Msg.av default, .v (.int .i64 (settleE s tag))] ∧ F' = []) ∨
    (settleE s tag = 0 ∧ ∃ x y z, r = .tup [.agg [.v (.bool s.frozen), .v (.int .i64 s.next), .ref 91 x, .ref 92 y, .ref 93 z], Msg.av (s.held.getD (heldAt s.held tag).toNat default).m, .v (.int .i64 0)] ∧
      F' = [(92, .own y 53 6 (s.held.length - 1) (dropG Held.cells s.held (heldAt s.held tag).toNat)), (93, .own z 60 3 s.marks.length (gOf Mark.cells s.marks)), (91, .own x 41 5 s.ready.length (gOf Msg.cells s.ready))])) := by
  have ⟨h1, h2, hk⟩ := hs
  have hat := heldAt_lt s.held tag
  refine FnC.intro Try.func70 rfl Try.ntmps70 rfl ?_; intro off w0
  repeat refine S.seq ?_
  refine S.region ?_
  refine L.box 1 rfl rfl rfl rfl rfl trivial rfl fun b => ?_
  refine L.box 2 rfl rfl rfl rfl rfl trivial rfl fun bt => ?_
  refine L.alloc (T := tt) 3 tt_ok rfl rfl rfl rfl rfl fun b2 => ?_
  refine L.alloc (T := tt) 4 tt_ok rfl rfl rfl rfl rfl fun b3 => ?_
  (refine L.go (T := tt) tt_ok rfl rfl ?sd146 ?_; (try (case sd146 => (repeat' (first | exact trivial | with_reducible refine zI ?_ ?_)))); try (refine L.nil ?_))
  ((repeat refine S.seq ?_); refine S.region (L.go (T := tt) tt_ok rfl rfl ?sd137 ?_); (try (case sd137 => (repeat' (first | exact trivial | with_reducible refine zI ?_ ?_ | rfl | exact zN rfl)))); try (refine L.nil ?_))
  refine L.callP rfl rfl rfl rfl rfl rfl rfl ⟨trivial, by (repeat' (first | exact trivial | with_reducible refine zI ?_ ?_))⟩ rfl (by exact Imps.refl [s.av]) (may_p s h1 h2 hk) ?_
  (refine L.go (T := tt) tt_ok rfl rfl ?sd147 ?_; (try (case sd147 => (repeat' (first | exact trivial | with_reducible refine zI ?_ ?_)))); try (refine L.nil ?_))
  ((repeat refine S.seq ?_); refine S.cond rfl (fun h0 => ?_) (fun h0 => ?_) <;> (try first | refine S.skip ?_ | refine S.exit ?_))
  · ((repeat refine S.seq ?_); refine S.region (L.go (T := tt) tt_ok rfl rfl ?sd138 ?_); (try (case sd138 => (repeat' (first | exact trivial | with_reducible refine zI ?_ ?_ | rfl | exact zN rfl)))); try (refine L.nil ?_))
    (refine L.store (T := tt) tt_ok rfl rfl rfl rfl rfl rfl ?sd152 ?_; (try (case sd152 => (repeat' (first | exact trivial | with_reducible refine zI ?_ ?_ | rfl | exact zN rfl)))))
    (refine L.store (T := tt) tt_ok rfl rfl rfl rfl rfl rfl ?sd153 ?_; (try (case sd153 => (repeat' (first | exact trivial | with_reducible refine zI ?_ ?_ | rfl | exact zN rfl)))))
    (refine L.go (T := tt) tt_ok rfl rfl ?sd148 ?_; (try (case sd148 => (repeat' (first | exact trivial | with_reducible refine zI ?_ ?_)))); try (refine L.nil ?_))
    ((repeat refine S.seq ?_); refine S.ret ?_)
    have : settleE s tag = 1 := by rw [settleE, if_pos h0]
    refine E.ret (T := tt) tt_ok rfl rfl (by (repeat' (first | exact trivial | with_reducible refine zI ?_ ?_ | rfl | exact zN rfl))) (Imp.of_eq ?_) (List.nil_sublist _) (.inl ⟨by omega, rfl, rfl⟩)
    rw [this]
    rfl
  have hm : mayShard s = true := by simpa using h0
  repeat refine S.seq ?_
  refine freezeBlk 3 2 rfl rfl rfl ?_
  ((repeat refine S.seq ?_); refine S.region (L.go (T := tt) tt_ok rfl rfl ?sd139 ?_); (try (case sd139 => (repeat' (first | exact trivial | with_reducible refine zI ?_ ?_ | rfl)))); try (refine L.nil ?_))
  refine L.callP rfl rfl rfl rfl rfl rfl rfl ⟨trivial, by (repeat' (first | exact trivial | with_reducible refine zI ?_ ?_))⟩ rfl (by exact Imps.refl [helds s.held, .fn (.func 79) [.pel 1 [.v (.int .i64 tag)]]])
    (r := .v (.int .i64 (heldAt s.held tag))) (IdxHeld (tagP s.held tag) rfl (fun i hi => rfl) (fun i hi => settled1_p _ tag)) ?_
  (refine L.go (T := tt) tt_ok rfl rfl ?sd149 ?_; (try (case sd149 => (repeat' (first | exact trivial | with_reducible refine zI ?_ ?_)))); try (refine L.nil ?_))
  ((repeat refine S.seq ?_); refine S.region (L.go (T := tt) tt_ok rfl rfl ?sd140 ?_); (try (case sd140 => (repeat' (first | exact trivial | with_reducible refine zI ?_ ?_)))); try (refine L.nil ?_))
  ((repeat refine S.seq ?_); refine S.cond rfl (fun h3 => ?_) (fun h3 => ?_) <;> (try first | refine S.skip ?_ | refine S.exit ?_))
  · ((repeat refine S.seq ?_); refine S.region (L.go (T := tt) tt_ok rfl rfl ?sd141 ?_); (try (case sd141 => (repeat' (first | exact trivial | with_reducible refine zI ?_ ?_ | rfl | exact zN rfl)))); try (refine L.nil ?_))
    (refine L.store (T := tt) tt_ok rfl rfl rfl rfl rfl rfl ?sd154 ?_; (try (case sd154 => (repeat' (first | exact trivial | with_reducible refine zI ?_ ?_ | rfl | exact zN rfl)))))
    (refine L.store (T := tt) tt_ok rfl rfl rfl rfl rfl rfl ?sd155 ?_; (try (case sd155 => (repeat' (first | exact trivial | with_reducible refine zI ?_ ?_ | rfl | exact zN rfl)))))
    (refine L.go (T := tt) tt_ok rfl rfl ?sd150 ?_; (try (case sd150 => (repeat' (first | exact trivial | with_reducible refine zI ?_ ?_)))); try (refine L.nil ?_))
    ((repeat refine S.seq ?_); refine S.ret ?_)
    have : settleE s tag = 3 := by rw [settleE, if_neg (by simp [hm]), if_pos (of_dec h3)]
    refine E.ret (T := tt) tt_ok rfl rfl (by (repeat' (first | exact trivial | with_reducible refine zI ?_ ?_ | rfl | exact zN rfl))) (Imp.of_eq ?_) (List.nil_sublist _) (.inl ⟨by omega, rfl, rfl⟩)
    rw [this]
    rfl
  have h3' := of_dec' h3
  obtain ⟨k, hkk⟩ : ∃ k : Nat, heldAt s.held tag = k := ⟨(heldAt s.held tag).toNat, by omega⟩
  have hE : settleE s tag = 0 := by rw [settleE, if_neg (by simp [hm]), if_neg h3']
  rw [hkk] at hat
  rw [hE, hkk]
  ((repeat refine S.seq ?_); refine S.region (L.go (T := tt) tt_ok rfl rfl ?sd142 ?_); (try (case sd142 => (repeat' (first | exact trivial | with_reducible refine zI ?_ ?_ | rfl | exact zN rfl)))); try (refine L.nil ?_))
  refine L.call (G := []) (H := [(4, _), (3, _), (1, _)]) rfl rfl rfl rfl rfl rfl rfl ⟨trivial, by (repeat' (first | exact trivial | with_reducible refine zI ?_ ?_))⟩ rfl (by exact Imps.refl [s.av]) (List.Perm.refl _) (own_p s h1 h2 (by have := may_marks hm; omega)) ?_
  rintro r F' ⟨x, y, z, rfl, rfl⟩
  (refine L.store (T := tt) tt_ok rfl rfl rfl rfl rfl rfl ?sd156 ?_; (try (case sd156 => (repeat' (first | exact trivial | with_reducible refine zI ?_ ?_ | rfl | exact zN rfl)))))
  refine L.nil ?_
  ((repeat refine S.seq ?_); refine S.region (L.go (T := tt) tt_ok rfl rfl ?sd143 ?_); (try (case sd143 => (repeat' (first | exact trivial | with_reducible refine zI ?_ ?_ | rfl | omega)))); try (refine L.nil ?_))
  refine L.alloc (T := tt) 5 tt_ok rfl rfl rfl rfl rfl fun b5 => ?_
  (refine L.store (T := tt) tt_ok rfl rfl rfl rfl rfl rfl ?sd157 ?_; (try (case sd157 => (repeat' (first | exact trivial | with_reducible refine zI ?_ ?_ | rfl | exact zN rfl)))))
  refine L.nil ?_
  ((repeat refine S.seq ?_); refine S.region (L.go (T := tt) tt_ok rfl rfl ?sd144 ?_); (try (case sd144 => (repeat' (first | exact trivial | with_reducible refine zI ?_ ?_ | rfl | (unfold fits; omega))))); try (refine L.nil ?_))
  refine L.call (G := [(92, _)]) (H := [(5, _), (93, _), (91, _), (4, _), (3, _), (1, _)]) rfl rfl rfl rfl rfl rfl rfl ⟨trivial, by (repeat' (first | exact trivial | with_reducible refine zI ?_ ?_))⟩ rfl (by exact Imps.refl [.ref 92 y, .v (.int .i64 k), .v (.int .i64 (k + 1))]) (by exact List.perm_middle (l₁ := [_, _]) (l₂ := [_, _, _, _])) (DlHeld (n := s.held.length) (g := gOf Held.cells s.held) (x := y) 92 (by omega)) ?_
  rintro r F' ⟨y', rfl, rfl⟩
  (refine L.go (T := tt) tt_ok rfl rfl ?sd151 ?_; (try (case sd151 => (repeat' (first | exact trivial | with_reducible refine zI ?_ ?_)))); try (refine L.nil ?_))
  (refine L.store (T := tt) tt_ok rfl rfl rfl rfl rfl rfl ?sd158 ?_; (try (case sd158 => (repeat' (first | exact trivial | with_reducible refine zI ?_ ?_ | rfl | exact zN rfl)))))
  refine L.nil ?_
  repeat refine S.seq ?_
  refine S.draw [(0, [1]), (1, [5])] mixed ?_
  (refine H.ts (T := tt) [0, 1] tt_ok (by kernel_rfl) (by kernel_rfl) (by kernel_rfl) (by intro ch a a' w h; obtain ⟨_, _, _, _, _, h, _⟩ := h; cases h) rfl ?sd159 ?_; (try (case sd159 => (repeat' (first | exact trivial | with_reducible refine zI ?_ ?_ | rfl | exact zN rfl)))))
  (refine H.store (T := tt) 2 rfl (by kernel_rfl) (by kernel_rfl) tt_ok rfl rfl rfl rfl rfl rfl ?sd161 rfl (by kernel_rfl) ?_; (try (case sd161 => (repeat' (first | exact trivial | with_reducible refine zI ?_ ?_ | rfl | exact zN rfl)))))
  (refine H.store (T := tt) 3 rfl (by kernel_rfl) (by kernel_rfl) tt_ok rfl rfl rfl rfl rfl rfl ?sd162 rfl (by kernel_rfl) ?_; (try (case sd162 => (repeat' (first | exact trivial | with_reducible refine zI ?_ ?_ | rfl | exact zN rfl)))))
  (refine H.ts (T := tt) [4] tt_ok (by kernel_rfl) (by kernel_rfl) (by kernel_rfl) (by intro ch a a' w h; obtain ⟨_, _, _, _, _, h, _⟩ := h; cases h) rfl ?sd160 ?_; (try (case sd160 => (repeat' (first | exact trivial | with_reducible refine zI ?_ ?_)))))
  refine H.done (by kernel_rfl) ?_
  ((repeat refine S.seq ?_); refine S.ret ?_)
  refine E.ret (T := tt) tt_ok rfl rfl (by (repeat' (first | exact trivial | with_reducible refine zI ?_ ?_ | rfl | exact zN rfl))) (Imp.refl _) ?_ (.inr ⟨rfl, x, y', z, rfl, rfl⟩)
  exact List.Sublist.cons_cons _ (List.Sublist.cons _ (List.Sublist.cons_cons _ (List.Sublist.cons_cons _ (List.nil_sublist _))))

end Go.Proofs.Ytlbbcjlhnjnkeaa

/- Acks. -/
namespace Go.Proofs.Ytlbbcjlhnjnkeaa
set_option linter.unusedVariables false
set_option linter.unusedSimpArgs false
set_option maxHeartbeats 8000000
open Go.RowKit
set_option maxRecDepth 4000

def ackS (s : Shard) (tag : Int) : Shard × Int := if settleE s tag = 0 then ({ s with held := s.held.eraseIdx (heldAt s.held tag).toNat }, 0) else (s, settleE s tag)

theorem settle_lt {s : Shard} {tag : Int} (h : settleE s tag = 0) : mayShard s = true ∧ 0 ≤ heldAt s.held tag ∧ (heldAt s.held tag).toNat < s.held.length := by
  unfold settleE at h
  split at h
  · cases h
  · split at h
    · cases h
    · rename_i h1 h2
      have := heldAt_lt s.held tag
      exact ⟨by simpa using h1, by omega, by omega⟩

theorem dropG_eq {α : Type} [Inhabited α] (f : α → List AV) (l : List α) (k i : Nat) : dropG f l k i = gOf f (l.eraseIdx k) i := by
  unfold dropG gOf
  rw [List.getD_eq_getElem?_getD, List.getD_eq_getElem?_getD, List.getD_eq_getElem?_getD, List.getElem?_eraseIdx]
  split <;> rfl

theorem imp_drop {α : Type} [Inhabited α] (f : α → List AV) (l : List α) {k : Nat} (sz : Nat) (hk : k < l.length) : Imp (.lst sz (l.length - 1) (dropG f l k)) (.lst sz (l.eraseIdx k).length (gOf f (l.eraseIdx k))) :=
  Imp.lst (by rw [List.length_eraseIdx, if_pos hk]) fun i _ => dropG_eq f l k i

theorem ack_p (s : Shard) (tag : Int) (hs : s.small) : PFn Try.prog 46 [s.av, .v (.int .i64 tag)] (.tup [(ackS s tag).1.av, .v (.int .i64 (ackS s tag).2)]) := by
  refine FnC.intro Try.func46 rfl Try.ntmps46 rfl ?_; intro off w0
  repeat refine S.seq ?_
  refine S.region ?_
  refine L.box 1 rfl rfl rfl rfl rfl trivial rfl fun b => ?_
  refine L.alloc (T := tt) 2 tt_ok rfl rfl rfl rfl rfl fun b2 => ?_
  (refine L.go (T := tt) tt_ok rfl rfl ?sd166 ?_; (try (case sd166 => (repeat' (first | exact trivial | with_reducible refine zI ?_ ?_)))); try (refine L.nil ?_))
  ((repeat refine S.seq ?_); refine S.region (L.go (T := tt) tt_ok rfl rfl ?sd163 ?_); (try (case sd163 => (repeat' (first | exact trivial | with_reducible refine zI ?_ ?_ | rfl | exact zN rfl)))); try (refine L.nil ?_))
  refine L.call (G := []) (H := [(2, _), (1, _)]) rfl rfl rfl rfl rfl rfl rfl ⟨trivial, by (repeat' (first | exact trivial | with_reducible refine zI ?_ ?_))⟩ rfl (by exact Imps.refl [s.av, .v (.int .i64 tag)]) (List.Perm.refl _) (settled_p s tag hs) ?_
  rintro r F' (⟨he, rfl, rfl⟩ | ⟨he, x, y, z, rfl, rfl⟩)
  · (refine L.go (T := tt) tt_ok rfl rfl ?sd167 ?_; (try (case sd167 => (repeat' (first | exact trivial | with_reducible refine zI ?_ ?_)))); try (refine L.nil ?_))
    refine L.alloc (T := tt) 3 tt_ok rfl rfl rfl rfl rfl fun b3 => ?_
    (refine L.store (T := tt) tt_ok rfl rfl rfl rfl rfl rfl ?sd173 ?_; (try (case sd173 => (repeat' (first | exact trivial | with_reducible refine zI ?_ ?_ | rfl | exact zN rfl)))))
    (refine L.store (T := tt) tt_ok rfl rfl rfl rfl rfl rfl ?sd174 ?_; (try (case sd174 => (repeat' (first | exact trivial | with_reducible refine zI ?_ ?_ | rfl | exact zN rfl)))))
    (refine L.go (T := tt) tt_ok rfl rfl ?sd168 ?_; (try (case sd168 => (repeat' (first | exact trivial | with_reducible refine zI ?_ ?_)))); try (refine L.nil ?_))
    ((repeat refine S.seq ?_); refine S.region (L.go (T := tt) tt_ok rfl rfl ?sd164 ?_); (try (case sd164 => (repeat' (first | exact trivial | with_reducible refine zI ?_ ?_ | rfl | exact zN rfl)))); try (refine L.nil ?_))
    (refine L.store (T := tt) tt_ok rfl rfl rfl rfl rfl rfl ?sd175 ?_; (try (case sd175 => (repeat' (first | exact trivial | with_reducible refine zI ?_ ?_ | rfl | exact zN rfl)))))
    (refine L.go (T := tt) tt_ok rfl rfl ?sd169 ?_; (try (case sd169 => (repeat' (first | exact trivial | with_reducible refine zI ?_ ?_)))); try (refine L.nil ?_))
    ((repeat refine S.seq ?_); refine S.ret ?_)
    refine E.retP (T := tt) tt_ok rfl rfl (by (repeat' (first | exact trivial | with_reducible refine zI ?_ ?_ | rfl | exact zN rfl))) (Imp.of_eq ?_)
    rw [ackS, if_neg he]
    rfl
  · have hlt := settle_lt he
    (refine L.go (T := tt) tt_ok rfl rfl ?sd170 ?_; (try (case sd170 => (repeat' (first | exact trivial | with_reducible refine zI ?_ ?_)))); try (refine L.nil ?_))
    refine L.alloc (T := tt) 3 tt_ok rfl rfl rfl rfl rfl fun b3 => ?_
    (refine L.store (T := tt) tt_ok rfl rfl rfl rfl rfl rfl ?sd176 ?_; (try (case sd176 => (repeat' (first | exact trivial | with_reducible refine zI ?_ ?_ | rfl | exact zN rfl)))))
    (refine L.store (T := tt) tt_ok rfl rfl rfl rfl rfl rfl ?sd177 ?_; (try (case sd177 => (repeat' (first | exact trivial | with_reducible refine zI ?_ ?_ | rfl | exact zN rfl)))))
    (refine L.go (T := tt) tt_ok rfl rfl ?sd171 ?_; (try (case sd171 => (repeat' (first | exact trivial | with_reducible refine zI ?_ ?_)))); try (refine L.nil ?_))
    ((repeat refine S.seq ?_); refine S.region (L.go (T := tt) tt_ok rfl rfl ?sd165 ?_); (try (case sd165 => (repeat' (first | exact trivial | with_reducible refine zI ?_ ?_ | rfl | exact zN rfl)))); try (refine L.nil ?_))
    (refine L.store (T := tt) tt_ok rfl rfl rfl rfl rfl rfl ?sd178 ?_; (try (case sd178 => (repeat' (first | exact trivial | with_reducible refine zI ?_ ?_ | rfl | exact zN rfl)))))
    (refine L.go (T := tt) tt_ok rfl rfl ?sd172 ?_; (try (case sd172 => (repeat' (first | exact trivial | with_reducible refine zI ?_ ?_)))); try (refine L.nil ?_))
    ((repeat refine S.seq ?_); refine S.ret ?_)
    refine freezeCell 2 2 91 rfl rfl rfl rfl (freezeCell 2 3 92 rfl rfl rfl rfl (freezeCell 2 4 93 rfl rfl rfl rfl ?_))
    refine E.retP (T := tt) tt_ok rfl rfl (by (repeat' (first | exact trivial | with_reducible refine zI ?_ ?_ | rfl | exact zN rfl))) ?_
    rw [ackS, if_pos he]
    exact Imp.tup ⟨Imp.agg ⟨Imp.refl _, Imp.refl _, Imp.refl _, imp_drop _ _ _ hlt.2.2, Imp.refl _, trivial⟩, Imp.refl _, trivial⟩

end Go.Proofs.Ytlbbcjlhnjnkeaa

/- Equality of messages, held ones, marks, as the code tells it. -/
namespace Go.Proofs.Ytlbbcjlhnjnkeaa
set_option linter.unusedVariables false
set_option linter.unusedSimpArgs false
set_option maxHeartbeats 8000000
open Go.RowKit

theorem eqMsg (a b : Msg) : (a.pub == b.pub && (a.seq == b.seq && (a.key == b.key && (a.body == b.body && (a.again == b.again && true))))) = decide (a = b) := by
  rw [Bool.eq_iff_iff]
  cases a; cases b
  simp
theorem eqMark (a b : Mark) : (a.pub == b.pub && (a.key == b.key && (a.seq == b.seq && true))) = decide (a = b) := by
  rw [Bool.eq_iff_iff]
  cases a; cases b
  simp
theorem eqHeld (a b : Held) : (a.tag == b.tag && ((a.m.pub == b.m.pub && (a.m.seq == b.m.seq && (a.m.key == b.m.key && (a.m.body == b.m.body && (a.m.again == b.m.again && true))))) && true)) = decide (a = b) := by
  rw [eqMsg, Bool.eq_iff_iff]
  cases a; cases b
  simp

/-- Two lists agree so far. -/
def eqTo {α : Type} [DecidableEq α] [Inhabited α] (l m : List α) (k : Nat) : Bool := (List.range k).all fun i => decide (l.getD i default = m.getD i default)
theorem eqTo_succ {α : Type} [DecidableEq α] [Inhabited α] (l m : List α) (k : Nat) : eqTo l m (k + 1) = (eqTo l m k && decide (l.getD k default = m.getD k default)) := by simp [eqTo, List.range_succ]
theorem eqTo_eq {α : Type} [DecidableEq α] [Inhabited α] {l m : List α} (hl : l.length = m.length) (h : eqTo l m l.length = true) : l = m := by
  apply List.ext_getElem hl
  intro i h1 h2
  have := List.all_eq_true.1 h i (by simpa using h1)
  simp only [decide_eq_true_eq, List.getD_eq_getElem?_getD, List.getElem?_eq_getElem h1, List.getElem?_eq_getElem h2, Option.getD_some] at this
  exact this

end Go.Proofs.Ytlbbcjlhnjnkeaa

/- slices.Equal, as a contract. -/
namespace Go.Proofs.Ytlbbcjlhnjnkeaa
set_option linter.unusedVariables false
set_option linter.unusedSimpArgs false
set_option maxHeartbeats 8000000
open Go.RowKit
set_option maxRecDepth 4000

theorem EqMsgs (l m : List Msg) : PFn Try.prog 20 [.lst 5 l.length (gOf Msg.cells l), .lst 5 m.length (gOf Msg.cells m)] (.v (.bool (decide (l = m)))) := by
  refine FnC.intro Try.func20 rfl Try.ntmps20 rfl ?_; intro off w0
  refine lenAt (sz := 5) (n := l.length) (g := gOf Msg.cells l) 0 rfl fun hn => ?_
  ((repeat refine S.seq ?_); refine S.region (L.go (T := tt) tt_ok rfl rfl ?sd179 ?_); (try (case sd179 => (repeat' (first | exact trivial | with_reducible refine zI ?_ ?_)))); try (refine L.nil ?_))
  ((repeat refine S.seq ?_); refine S.region (L.go (T := tt) tt_ok rfl rfl ?sd180 ?_); (try (case sd180 => (repeat' (first | exact trivial | with_reducible refine zI ?_ ?_)))); try (refine L.nil ?_))
  ((repeat refine S.seq ?_); refine S.cond rfl (fun h0 => ?_) (fun h0 => ?_) <;> (try first | refine S.skip ?_ | refine S.exit ?_))
  · ((repeat refine S.seq ?_); refine S.region (L.go (T := tt) tt_ok rfl rfl ?sd181 ?_); (try (case sd181 => (repeat' (first | exact trivial | with_reducible refine zI ?_ ?_)))); try (refine L.nil ?_))
    ((repeat refine S.seq ?_); refine S.ret ?_)
    refine E.retP (T := tt) tt_ok rfl rfl (by (repeat' (first | exact trivial | with_reducible refine zI ?_ ?_))) (Imp.of_eq ?_)
    have : l ≠ m := fun e => by subst e; simp at h0
    simp [oneOf, this]
  have hl : l.length = m.length := by simp at h0; omega
  ((repeat refine S.seq ?_); refine S.region (L.go (T := tt) tt_ok rfl rfl ?sd182 ?_); (try (case sd182 => (repeat' (first | exact trivial | with_reducible refine zI ?_ ?_)))); try (refine L.nil ?_))
  refine S.block (S.loop (ι := { k : Nat // k ≤ l.length ∧ eqTo l m k = true })
    (fun k => [(13, .v (.int .i64 k.1)), (12, .v (.int .i64 l.length)), (1, .lst 5 m.length (gOf Msg.cells m)), (0, .lst 5 l.length (gOf Msg.cells l))]) (fun _ => []) (fun k => l.length - k.1) ?_ ?_)
  · exact fun a w h => ⟨⟨0, Nat.zero_le _, rfl⟩, h.weak (by (repeat' (first | exact True.intro | exact Imp.refl _ | refine ⟨?_, ?_⟩))) (List.Sublist.refl _)⟩
  rintro ⟨k, hk, hno⟩
  dsimp only
  ((repeat refine S.seq ?_); refine S.region (L.go (T := tt) tt_ok rfl rfl ?sd183 ?_); (try (case sd183 => (repeat' (first | exact trivial | with_reducible refine zI ?_ ?_)))); try (refine L.nil ?_))
  ((repeat refine S.seq ?_); refine S.cond rfl (fun h => ?_) (fun h => ?_) <;> (try first | refine S.skip ?_ | refine S.exit ?_))
  · have h := of_dec h
    repeat refine S.seq ?_
    refine S.block ?_
    ((repeat refine S.seq ?_); refine S.region (L.go (T := tt) tt_ok rfl rfl ?sd184 ?_); (try (case sd184 => (repeat' (first | exact trivial | with_reducible refine zI ?_ ?_)))); try (refine L.nil ?_))
    repeat refine S.seq ?_
    refine S.draw [] mixed ?_
    (refine H.ts (T := tt) [0, 1, 2, 3, 4, 5, 6, 7, 8] tt_ok (by kernel_rfl) (by kernel_rfl) (by kernel_rfl) (by intro ch a a' w h; obtain ⟨_, _, _, _, _, h, _⟩ := h; cases h) rfl ?sd188 ?_; (try (case sd188 => (repeat' (first | exact trivial | with_reducible refine zI ?_ ?_ | rfl | omega)))))
    refine H.done (by kernel_rfl) ?_
    ((repeat refine S.seq ?_); refine S.cond rfl (fun hb => ?_) (fun hb => ?_) <;> (try first | refine S.skip ?_ | refine S.exit ?_))
    · have he : (!decide (l.getD k default = m.getD k default)) = true := (congrArg _ (eqMsg _ _).symm).trans hb
      ((repeat refine S.seq ?_); refine S.region (L.go (T := tt) tt_ok rfl rfl ?sd185 ?_); (try (case sd185 => (repeat' (first | exact trivial | with_reducible refine zI ?_ ?_)))); try (refine L.nil ?_))
      ((repeat refine S.seq ?_); refine S.ret ?_)
      refine E.retP (T := tt) tt_ok rfl rfl (by (repeat' (first | exact trivial | with_reducible refine zI ?_ ?_))) (Imp.of_eq ?_)
      have : l ≠ m := fun e => by subst e; simp at he
      simp [oneOf, this]
    · have he : (!decide (l.getD k default = m.getD k default)) = false := (congrArg _ (eqMsg _ _).symm).trans hb
      ((repeat refine S.seq ?_); refine S.region (L.go (T := tt) tt_ok rfl rfl ?sd186 ?_); (try (case sd186 => (repeat' (first | exact trivial | with_reducible refine zI ?_ ?_ | (unfold fits; omega))))); try (refine L.nil ?_))
      exact fun a w hR => ⟨⟨k + 1, by omega, by rw [eqTo_succ, hno]; simpa using he⟩, by simp only; omega, hR.weak (by (repeat' (first | exact True.intro | exact Imp.refl _ | refine ⟨?_, ?_⟩))) (List.Sublist.refl _)⟩
  · have h := of_dec' h
    have hkn : k = l.length := by omega
    subst hkn
    ((repeat refine S.seq ?_); refine S.region (L.go (T := tt) tt_ok rfl rfl ?sd187 ?_); (try (case sd187 => (repeat' (first | exact trivial | with_reducible refine zI ?_ ?_)))); try (refine L.nil ?_))
    ((repeat refine S.seq ?_); refine S.ret ?_)
    refine E.retP (T := tt) tt_ok rfl rfl (by (repeat' (first | exact trivial | with_reducible refine zI ?_ ?_))) (Imp.of_eq ?_)
    simp [oneOf, eqTo_eq hl hno]

end Go.Proofs.Ytlbbcjlhnjnkeaa

/- slices.Equal, as a contract. -/
namespace Go.Proofs.Ytlbbcjlhnjnkeaa
set_option linter.unusedVariables false
set_option linter.unusedSimpArgs false
set_option maxHeartbeats 8000000
open Go.RowKit
set_option maxRecDepth 4000

theorem EqHelds (l m : List Held) : PFn Try.prog 21 [.lst 6 l.length (gOf Held.cells l), .lst 6 m.length (gOf Held.cells m)] (.v (.bool (decide (l = m)))) := by
  refine FnC.intro Try.func21 rfl Try.ntmps21 rfl ?_; intro off w0
  refine lenAt (sz := 6) (n := l.length) (g := gOf Held.cells l) 0 rfl fun hn => ?_
  ((repeat refine S.seq ?_); refine S.region (L.go (T := tt) tt_ok rfl rfl ?sd189 ?_); (try (case sd189 => (repeat' (first | exact trivial | with_reducible refine zI ?_ ?_)))); try (refine L.nil ?_))
  ((repeat refine S.seq ?_); refine S.region (L.go (T := tt) tt_ok rfl rfl ?sd190 ?_); (try (case sd190 => (repeat' (first | exact trivial | with_reducible refine zI ?_ ?_)))); try (refine L.nil ?_))
  ((repeat refine S.seq ?_); refine S.cond rfl (fun h0 => ?_) (fun h0 => ?_) <;> (try first | refine S.skip ?_ | refine S.exit ?_))
  · ((repeat refine S.seq ?_); refine S.region (L.go (T := tt) tt_ok rfl rfl ?sd191 ?_); (try (case sd191 => (repeat' (first | exact trivial | with_reducible refine zI ?_ ?_)))); try (refine L.nil ?_))
    ((repeat refine S.seq ?_); refine S.ret ?_)
    refine E.retP (T := tt) tt_ok rfl rfl (by (repeat' (first | exact trivial | with_reducible refine zI ?_ ?_))) (Imp.of_eq ?_)
    have : l ≠ m := fun e => by subst e; simp at h0
    simp [oneOf, this]
  have hl : l.length = m.length := by simp at h0; omega
  ((repeat refine S.seq ?_); refine S.region (L.go (T := tt) tt_ok rfl rfl ?sd192 ?_); (try (case sd192 => (repeat' (first | exact trivial | with_reducible refine zI ?_ ?_)))); try (refine L.nil ?_))
  refine S.block (S.loop (ι := { k : Nat // k ≤ l.length ∧ eqTo l m k = true })
    (fun k => [(13, .v (.int .i64 k.1)), (12, .v (.int .i64 l.length)), (1, .lst 6 m.length (gOf Held.cells m)), (0, .lst 6 l.length (gOf Held.cells l))]) (fun _ => []) (fun k => l.length - k.1) ?_ ?_)
  · exact fun a w h => ⟨⟨0, Nat.zero_le _, rfl⟩, h.weak (by (repeat' (first | exact True.intro | exact Imp.refl _ | refine ⟨?_, ?_⟩))) (List.Sublist.refl _)⟩
  rintro ⟨k, hk, hno⟩
  dsimp only
  ((repeat refine S.seq ?_); refine S.region (L.go (T := tt) tt_ok rfl rfl ?sd193 ?_); (try (case sd193 => (repeat' (first | exact trivial | with_reducible refine zI ?_ ?_)))); try (refine L.nil ?_))
  ((repeat refine S.seq ?_); refine S.cond rfl (fun h => ?_) (fun h => ?_) <;> (try first | refine S.skip ?_ | refine S.exit ?_))
  · have h := of_dec h
    repeat refine S.seq ?_
    refine S.block ?_
    ((repeat refine S.seq ?_); refine S.region (L.go (T := tt) tt_ok rfl rfl ?sd194 ?_); (try (case sd194 => (repeat' (first | exact trivial | with_reducible refine zI ?_ ?_)))); try (refine L.nil ?_))
    repeat refine S.seq ?_
    refine S.draw [] mixed ?_
    (refine H.ts (T := tt) [0, 1, 2, 3, 4, 5, 6, 7, 8] tt_ok (by kernel_rfl) (by kernel_rfl) (by kernel_rfl) (by intro ch a a' w h; obtain ⟨_, _, _, _, _, h, _⟩ := h; cases h) rfl ?sd198 ?_; (try (case sd198 => (repeat' (first | exact trivial | with_reducible refine zI ?_ ?_ | rfl | omega)))))
    refine H.done (by kernel_rfl) ?_
    ((repeat refine S.seq ?_); refine S.cond rfl (fun hb => ?_) (fun hb => ?_) <;> (try first | refine S.skip ?_ | refine S.exit ?_))
    · have he : (!decide (l.getD k default = m.getD k default)) = true := (congrArg _ (eqHeld _ _).symm).trans hb
      ((repeat refine S.seq ?_); refine S.region (L.go (T := tt) tt_ok rfl rfl ?sd195 ?_); (try (case sd195 => (repeat' (first | exact trivial | with_reducible refine zI ?_ ?_)))); try (refine L.nil ?_))
      ((repeat refine S.seq ?_); refine S.ret ?_)
      refine E.retP (T := tt) tt_ok rfl rfl (by (repeat' (first | exact trivial | with_reducible refine zI ?_ ?_))) (Imp.of_eq ?_)
      have : l ≠ m := fun e => by subst e; simp at he
      simp [oneOf, this]
    · have he : (!decide (l.getD k default = m.getD k default)) = false := (congrArg _ (eqHeld _ _).symm).trans hb
      ((repeat refine S.seq ?_); refine S.region (L.go (T := tt) tt_ok rfl rfl ?sd196 ?_); (try (case sd196 => (repeat' (first | exact trivial | with_reducible refine zI ?_ ?_ | (unfold fits; omega))))); try (refine L.nil ?_))
      exact fun a w hR => ⟨⟨k + 1, by omega, by rw [eqTo_succ, hno]; simpa using he⟩, by simp only; omega, hR.weak (by (repeat' (first | exact True.intro | exact Imp.refl _ | refine ⟨?_, ?_⟩))) (List.Sublist.refl _)⟩
  · have h := of_dec' h
    have hkn : k = l.length := by omega
    subst hkn
    ((repeat refine S.seq ?_); refine S.region (L.go (T := tt) tt_ok rfl rfl ?sd197 ?_); (try (case sd197 => (repeat' (first | exact trivial | with_reducible refine zI ?_ ?_)))); try (refine L.nil ?_))
    ((repeat refine S.seq ?_); refine S.ret ?_)
    refine E.retP (T := tt) tt_ok rfl rfl (by (repeat' (first | exact trivial | with_reducible refine zI ?_ ?_))) (Imp.of_eq ?_)
    simp [oneOf, eqTo_eq hl hno]

end Go.Proofs.Ytlbbcjlhnjnkeaa

/- slices.Equal, as a contract. -/
namespace Go.Proofs.Ytlbbcjlhnjnkeaa
set_option linter.unusedVariables false
set_option linter.unusedSimpArgs false
set_option maxHeartbeats 8000000
open Go.RowKit
set_option maxRecDepth 4000

theorem EqMarks (l m : List Mark) : PFn Try.prog 22 [.lst 3 l.length (gOf Mark.cells l), .lst 3 m.length (gOf Mark.cells m)] (.v (.bool (decide (l = m)))) := by
  refine FnC.intro Try.func22 rfl Try.ntmps22 rfl ?_; intro off w0
  refine lenAt (sz := 3) (n := l.length) (g := gOf Mark.cells l) 0 rfl fun hn => ?_
  ((repeat refine S.seq ?_); refine S.region (L.go (T := tt) tt_ok rfl rfl ?sd199 ?_); (try (case sd199 => (repeat' (first | exact trivial | with_reducible refine zI ?_ ?_)))); try (refine L.nil ?_))
  ((repeat refine S.seq ?_); refine S.region (L.go (T := tt) tt_ok rfl rfl ?sd200 ?_); (try (case sd200 => (repeat' (first | exact trivial | with_reducible refine zI ?_ ?_)))); try (refine L.nil ?_))
  ((repeat refine S.seq ?_); refine S.cond rfl (fun h0 => ?_) (fun h0 => ?_) <;> (try first | refine S.skip ?_ | refine S.exit ?_))
  · ((repeat refine S.seq ?_); refine S.region (L.go (T := tt) tt_ok rfl rfl ?sd201 ?_); (try (case sd201 => (repeat' (first | exact trivial | with_reducible refine zI ?_ ?_)))); try (refine L.nil ?_))
    ((repeat refine S.seq ?_); refine S.ret ?_)
    refine E.retP (T := tt) tt_ok rfl rfl (by (repeat' (first | exact trivial | with_reducible refine zI ?_ ?_))) (Imp.of_eq ?_)
    have : l ≠ m := fun e => by subst e; simp at h0
    simp [oneOf, this]
  have hl : l.length = m.length := by simp at h0; omega
  ((repeat refine S.seq ?_); refine S.region (L.go (T := tt) tt_ok rfl rfl ?sd202 ?_); (try (case sd202 => (repeat' (first | exact trivial | with_reducible refine zI ?_ ?_)))); try (refine L.nil ?_))
  refine S.block (S.loop (ι := { k : Nat // k ≤ l.length ∧ eqTo l m k = true })
    (fun k => [(13, .v (.int .i64 k.1)), (12, .v (.int .i64 l.length)), (1, .lst 3 m.length (gOf Mark.cells m)), (0, .lst 3 l.length (gOf Mark.cells l))]) (fun _ => []) (fun k => l.length - k.1) ?_ ?_)
  · exact fun a w h => ⟨⟨0, Nat.zero_le _, rfl⟩, h.weak (by (repeat' (first | exact True.intro | exact Imp.refl _ | refine ⟨?_, ?_⟩))) (List.Sublist.refl _)⟩
  rintro ⟨k, hk, hno⟩
  dsimp only
  ((repeat refine S.seq ?_); refine S.region (L.go (T := tt) tt_ok rfl rfl ?sd203 ?_); (try (case sd203 => (repeat' (first | exact trivial | with_reducible refine zI ?_ ?_)))); try (refine L.nil ?_))
  ((repeat refine S.seq ?_); refine S.cond rfl (fun h => ?_) (fun h => ?_) <;> (try first | refine S.skip ?_ | refine S.exit ?_))
  · have h := of_dec h
    repeat refine S.seq ?_
    refine S.block ?_
    ((repeat refine S.seq ?_); refine S.region (L.go (T := tt) tt_ok rfl rfl ?sd204 ?_); (try (case sd204 => (repeat' (first | exact trivial | with_reducible refine zI ?_ ?_)))); try (refine L.nil ?_))
    repeat refine S.seq ?_
    refine S.draw [] mixed ?_
    (refine H.ts (T := tt) [0, 1, 2, 3, 4, 5, 6, 7, 8] tt_ok (by kernel_rfl) (by kernel_rfl) (by kernel_rfl) (by intro ch a a' w h; obtain ⟨_, _, _, _, _, h, _⟩ := h; cases h) rfl ?sd208 ?_; (try (case sd208 => (repeat' (first | exact trivial | with_reducible refine zI ?_ ?_ | rfl | omega)))))
    refine H.done (by kernel_rfl) ?_
    ((repeat refine S.seq ?_); refine S.cond rfl (fun hb => ?_) (fun hb => ?_) <;> (try first | refine S.skip ?_ | refine S.exit ?_))
    · have he : (!decide (l.getD k default = m.getD k default)) = true := (congrArg _ (eqMark _ _).symm).trans hb
      ((repeat refine S.seq ?_); refine S.region (L.go (T := tt) tt_ok rfl rfl ?sd205 ?_); (try (case sd205 => (repeat' (first | exact trivial | with_reducible refine zI ?_ ?_)))); try (refine L.nil ?_))
      ((repeat refine S.seq ?_); refine S.ret ?_)
      refine E.retP (T := tt) tt_ok rfl rfl (by (repeat' (first | exact trivial | with_reducible refine zI ?_ ?_))) (Imp.of_eq ?_)
      have : l ≠ m := fun e => by subst e; simp at he
      simp [oneOf, this]
    · have he : (!decide (l.getD k default = m.getD k default)) = false := (congrArg _ (eqMark _ _).symm).trans hb
      ((repeat refine S.seq ?_); refine S.region (L.go (T := tt) tt_ok rfl rfl ?sd206 ?_); (try (case sd206 => (repeat' (first | exact trivial | with_reducible refine zI ?_ ?_ | (unfold fits; omega))))); try (refine L.nil ?_))
      exact fun a w hR => ⟨⟨k + 1, by omega, by rw [eqTo_succ, hno]; simpa using he⟩, by simp only; omega, hR.weak (by (repeat' (first | exact True.intro | exact Imp.refl _ | refine ⟨?_, ?_⟩))) (List.Sublist.refl _)⟩
  · have h := of_dec' h
    have hkn : k = l.length := by omega
    subst hkn
    ((repeat refine S.seq ?_); refine S.region (L.go (T := tt) tt_ok rfl rfl ?sd207 ?_); (try (case sd207 => (repeat' (first | exact trivial | with_reducible refine zI ?_ ?_)))); try (refine L.nil ?_))
    ((repeat refine S.seq ?_); refine S.ret ?_)
    refine E.retP (T := tt) tt_ok rfl rfl (by (repeat' (first | exact trivial | with_reducible refine zI ?_ ?_))) (Imp.of_eq ?_)
    simp [oneOf, eqTo_eq hl hno]

end Go.Proofs.Ytlbbcjlhnjnkeaa

/- Same, and Put. -/
namespace Go.Proofs.Ytlbbcjlhnjnkeaa
set_option linter.unusedVariables false
set_option linter.unusedSimpArgs false
set_option maxHeartbeats 8000000
open Go.RowKit
set_option maxRecDepth 4000

def same (a b : Shard) : Bool := a.frozen == b.frozen && a.next == b.next && decide (a.ready = b.ready) && decide (a.held = b.held) && decide (a.marks = b.marks)
theorem same_eq (a b : Shard) : same a b = decide (a = b) := by
  rw [Bool.eq_iff_iff]
  cases a; cases b
  simp [same, and_assoc]

theorem same_p (a b : Shard) : PFn Try.prog 9 [a.av, b.av] (.v (.bool (same a b))) := by
  refine FnC.intro Try.func9 rfl Try.ntmps9 rfl ?_; intro off w0
  repeat refine S.seq ?_
  refine S.region ?_
  refine L.box 1 rfl rfl rfl rfl rfl trivial rfl fun b1 => ?_
  refine L.box 2 rfl rfl rfl rfl rfl trivial rfl fun b2 => ?_
  (refine L.go (T := tt) tt_ok rfl rfl ?sd229 ?_; (try (case sd229 => (repeat' (first | exact trivial | with_reducible refine zI ?_ ?_)))); try (refine L.nil ?_))
  ((repeat refine S.seq ?_); refine S.region (L.go (T := tt) tt_ok rfl rfl ?sd209 ?_); (try (case sd209 => (repeat' (first | exact trivial | exact zA | with_reducible refine zI ?_ ?_ | exact zB | exact zD | rfl | (simp; done))))); try (refine L.nil ?_))
  refine L.callG rfl rfl rfl rfl rfl rfl rfl (fun hb => ⟨trivial, hb, hb, trivial⟩) rfl (by exact Imps.refl [msgs a.ready, msgs b.ready]) (fun _ => EqMsgs a.ready b.ready) ?_
  (refine L.go (T := tt) tt_ok rfl rfl ?sd230 ?_; (try (case sd230 => (repeat' (first | exact trivial | exact zA | with_reducible refine zI ?_ ?_ | exact zB | (simp; done))))); try (refine L.nil ?_))
  refine L.callG rfl rfl rfl rfl rfl rfl rfl (fun hb => ⟨trivial, hb, hb, trivial⟩) rfl (by exact Imps.refl [helds a.held, helds b.held]) (fun _ => EqHelds a.held b.held) ?_
  (refine L.go (T := tt) tt_ok rfl rfl ?sd231 ?_; (try (case sd231 => (repeat' (first | exact trivial | exact zA | with_reducible refine zI ?_ ?_ | exact zB | (simp; done))))); try (refine L.nil ?_))
  refine L.callG rfl rfl rfl rfl rfl rfl rfl (fun hb => ⟨trivial, hb, hb, trivial⟩) rfl (by exact Imps.refl [marksA a.marks, marksA b.marks]) (fun _ => EqMarks a.marks b.marks) ?_
  (refine L.go (T := tt) tt_ok rfl rfl ?sd232 ?_; (try (case sd232 => (repeat' (first | exact trivial | with_reducible refine zI ?_ ?_ | exact zB)))); try (refine L.nil ?_))
  ((repeat refine S.seq ?_); refine S.ret ?_)
  exact E.retP (T := tt) tt_ok rfl rfl (by (repeat' (first | exact trivial | with_reducible refine zI ?_ ?_))) (Imp.refl _)

/-- 12.2: what Put answers. -/
def putE (s : Shard) (l : List Msg) : Int :=
  let first := l.getD 0 default
  let last := l.getD ((l.length : Int) - 1).toNat default
  let n := lastOf s.marks first.pub first.key
  if !mayShard s || !mayRow l then 1 else if decide (n ≥ last.seq) then 8 else if decide (n ≥ first.seq) then 1 else if s.frozen then 6
  else if decide ((s.ready.length : Int) + s.held.length + l.length > 48) || (decide (markAt s.marks first.pub first.key < 0) && (s.marks.length : Int) == 64) then 4 else 0
def putS (s : Shard) (l : List Msg) : Shard :=
  let first := l.getD 0 default
  let last := l.getD ((l.length : Int) - 1).toNat default
  { s with ready := s.ready ++ l, marks := if markAt s.marks first.pub first.key ≥ 0 then s.marks.modify (markAt s.marks first.pub first.key).toNat (fun m => { m with seq := last.seq }) else s.marks ++ [⟨last.pub, last.key, last.seq⟩] }

theorem imp_app {α : Type} [Inhabited α] (f : α → List AV) (l m : List α) (sz : Nat) : Imp (.lst sz (l.length + m.length) (joinG l.length (gOf f l) (gOf f m))) (.lst sz (l ++ m).length (gOf f (l ++ m))) :=
  Imp.lst (by simp) fun i _ => by
    unfold joinG gOf
    rw [List.getD_eq_getElem?_getD, List.getD_eq_getElem?_getD, List.getD_eq_getElem?_getD, List.getElem?_append]
    split <;> rfl
theorem imp_app1 {α : Type} [Inhabited α] (f : α → List AV) (l : List α) (m : α) (sz : Nat) {g : Nat → List AV} (hg : g 0 = f m) : Imp (.lst sz (l.length + 1) (joinG l.length (gOf f l) g)) (.lst sz (l ++ [m]).length (gOf f (l ++ [m]))) :=
  Imp.lst (by simp) fun i hi => by
    unfold joinG gOf
    rw [List.getD_eq_getElem?_getD, List.getD_eq_getElem?_getD, List.getElem?_append]
    split
    · rfl
    · have : i - l.length = 0 := by omega
      rw [this, hg]; rfl
theorem imp_mod (l : List Mark) (k : Nat) (q : Int) (hk : k < l.length) : Imp (.lst 3 l.length (fun i => if i = k then splice (gOf Mark.cells l k) 2 [.v (.int .i64 q)] else gOf Mark.cells l i)) (.lst 3 (l.modify k (fun m => { m with seq := q })).length (gOf Mark.cells (l.modify k (fun m => { m with seq := q })))) :=
  Imp.lst (by simp) fun i hi => by
    unfold gOf
    simp only [List.getD_eq_getElem?_getD, List.getElem?_modify]
    by_cases h : i = k
    · subst h
      rw [if_pos rfl, List.getElem?_eq_getElem hk]
      simp
      rfl
    · rw [if_neg h]
      have h' : ¬ k = i := fun e => h e.symm
      cases l[i]? <;> simp [h']

theorem put_p (s : Shard) (l : List Msg) (hs : s.small) : PFn Try.prog 44 [s.av, msgs l] (.tup [(if putE s l = 0 then putS s l else s).av, .v (.int .i64 (putE s l))]) := by
  have ⟨h1, h2, hk⟩ := hs
  refine FnC.intro Try.func44 rfl Try.ntmps44 rfl ?_; intro off w0
  repeat refine S.seq ?_
  refine S.region ?_
  refine L.box 1 rfl rfl rfl rfl rfl trivial rfl fun b => ?_
  refine L.alloc (T := tt) 2 tt_ok rfl rfl rfl rfl rfl fun b2 => ?_
  (refine L.go (T := tt) tt_ok rfl rfl ?sd233 ?_; (try (case sd233 => (repeat' (first | exact trivial | with_reducible refine zI ?_ ?_)))); try (refine L.nil ?_))
  ((repeat refine S.seq ?_); refine S.region (L.go (T := tt) tt_ok rfl rfl ?sd210 ?_); (try (case sd210 => (repeat' (first | exact trivial | with_reducible refine zI ?_ ?_ | rfl | exact zN rfl)))); try (refine L.nil ?_))
  refine L.callP rfl rfl rfl rfl rfl rfl rfl ⟨trivial, by (repeat' (first | exact trivial | with_reducible refine zI ?_ ?_))⟩ rfl (by exact Imps.refl [s.av]) (may_p s h1 h2 hk) ?_
  (refine L.go (T := tt) tt_ok rfl rfl ?sd234 ?_; (try (case sd234 => (repeat' (first | exact trivial | exact zA | with_reducible refine zI ?_ ?_)))); try (refine L.nil ?_))
  refine L.callG rfl rfl rfl rfl rfl rfl rfl (fun hb => ⟨trivial, hb, trivial⟩) rfl (by exact Imps.refl [msgs l]) (fun _ => row_p l) ?_
  (refine L.go (T := tt) tt_ok rfl rfl ?sd235 ?_; (try (case sd235 => (repeat' (first | exact trivial | with_reducible refine zI ?_ ?_ | exact zB | exact zC)))); try (refine L.nil ?_))
  ((repeat refine S.seq ?_); refine S.cond rfl (fun h0 => ?_) (fun h0 => ?_) <;> (try first | refine S.skip ?_ | refine S.exit ?_))
  · ((repeat refine S.seq ?_); refine S.region (L.go (T := tt) tt_ok rfl rfl ?sd211 ?_); (try (case sd211 => (repeat' (first | exact trivial | with_reducible refine zI ?_ ?_ | rfl | exact zN rfl)))); try (refine L.nil ?_))
    (refine L.store (T := tt) tt_ok rfl rfl rfl rfl rfl rfl ?sd247 ?_; (try (case sd247 => (repeat' (first | exact trivial | with_reducible refine zI ?_ ?_ | rfl | exact zN rfl)))))
    (refine L.go (T := tt) tt_ok rfl rfl ?sd236 ?_; (try (case sd236 => (repeat' (first | exact trivial | with_reducible refine zI ?_ ?_)))); try (refine L.nil ?_))
    ((repeat refine S.seq ?_); refine S.ret ?_)
    have : putE s l = 1 := by rw [putE]; exact if_pos h0
    refine E.retP (T := tt) tt_ok rfl rfl (by (repeat' (first | exact trivial | with_reducible refine zI ?_ ?_ | rfl | exact zN rfl))) (Imp.of_eq ?_)
    rw [this]
    rfl
  have hm : mayShard s = true := by simp only [Bool.or_eq_false_iff, Bool.not_eq_false'] at h0; exact h0.1
  have hr : mayRow l = true := by simp only [Bool.or_eq_false_iff, Bool.not_eq_false'] at h0; exact h0.2
  have hlen : 1 ≤ l.length ∧ l.length ≤ 8 := by
    simp only [mayRow, Bool.and_eq_true, Bool.not_eq_true', Bool.or_eq_false_iff, decide_eq_false_iff_not] at hr
    omega
  repeat refine S.seq ?_
  refine S.cut (ι := Nat × Nat) (fun i => [(7, .ptr 4 i.2 0), (6, .ptr 3 i.1 0), (4, .ptr 2 b2 0), (2, .ptr 1 b 0), (1, msgs l)])
    (fun i => [(4, .blk i.2 41 (l.getD ((l.length : Int) - 1).toNat default).cells), (3, .blk i.1 41 (l.getD 0 default).cells), (2, .blk b2 29 [.v (.bool false), .v (.int .i64 0), .v (.slice none 0 0), .v (.slice none 0 0), .v (.slice none 0 0)]), (1, .blk b 29 s.cells)]) ?_ ?_
  · refine S.draw [] mixed ?_
    (refine H.ts (T := tt) [0, 1, 2, 3, 4, 5, 6, 7, 8] tt_ok (by kernel_rfl) (by kernel_rfl) (by kernel_rfl) (by intro ch a a' w h; obtain ⟨_, _, _, _, _, h, _⟩ := h; cases h) rfl ?sd258 ?_; (try (case sd258 => (repeat' (first | exact trivial | with_reducible refine zI ?_ ?_ | rfl | omega | (unfold fits; omega))))))
    refine H.o2 9 10 rfl rfl (by kernel_rfl) (by kernel_rfl) (O.alloc (T := tt) 3 tt_ok rfl rfl rfl rfl rfl) (O.alloc (T := tt) 4 tt_ok rfl rfl rfl rfl rfl) (.inr rfl) (.inr rfl) rfl rfl (fun b3 => ?_) (fun b4 => ?_)
    · refine H.o1 10 rfl (by kernel_rfl) (by kernel_rfl) (O.alloc (T := tt) 4 tt_ok rfl rfl rfl rfl rfl) (.inr rfl) rfl fun b4 => ?_
      (refine H.store (T := tt) 11 rfl (by kernel_rfl) (by kernel_rfl) tt_ok rfl rfl rfl rfl rfl rfl ?sd259 rfl (by kernel_rfl) ?_; (try (case sd259 => (repeat' (first | exact trivial | with_reducible refine zI ?_ ?_ | rfl | exact zN rfl)))))
      (refine H.store (T := tt) 12 rfl (by kernel_rfl) (by kernel_rfl) tt_ok rfl rfl rfl rfl rfl rfl ?sd260 rfl (by kernel_rfl) ?_; (try (case sd260 => (repeat' (first | exact trivial | with_reducible refine zI ?_ ?_ | rfl | exact zN rfl)))))
      refine H.done (by kernel_rfl) ?_
      exact fun a w hR => ⟨(b3, b4), hR.weak (by (repeat' (first | exact True.intro | exact Imp.refl _ | refine ⟨?_, ?_⟩))) (by (repeat (first | exact List.nil_sublist _ | refine List.Sublist.cons_cons _ ?_ | refine List.Sublist.cons _ ?_)))⟩
    · refine H.o1 9 rfl (by kernel_rfl) (by kernel_rfl) (O.alloc (T := tt) 3 tt_ok rfl rfl rfl rfl rfl) (.inr rfl) rfl fun b3 => ?_
      (refine H.store (T := tt) 11 rfl (by kernel_rfl) (by kernel_rfl) tt_ok rfl rfl rfl rfl rfl rfl ?sd261 rfl (by kernel_rfl) ?_; (try (case sd261 => (repeat' (first | exact trivial | with_reducible refine zI ?_ ?_ | rfl | exact zN rfl)))))
      (refine H.store (T := tt) 12 rfl (by kernel_rfl) (by kernel_rfl) tt_ok rfl rfl rfl rfl rfl rfl ?sd262 rfl (by kernel_rfl) ?_; (try (case sd262 => (repeat' (first | exact trivial | with_reducible refine zI ?_ ?_ | rfl | exact zN rfl)))))
      refine H.done (by kernel_rfl) ?_
      exact fun a w hR => ⟨(b3, b4), (hR.perm (List.Perm.swap _ _ _)).weak (by (repeat' (first | exact True.intro | exact Imp.refl _ | refine ⟨?_, ?_⟩))) (by (repeat (first | exact List.nil_sublist _ | refine List.Sublist.cons_cons _ ?_ | refine List.Sublist.cons _ ?_)))⟩
  rintro ⟨b3, b4⟩
  dsimp only
  ((repeat refine S.seq ?_); refine S.region (L.go (T := tt) tt_ok rfl rfl ?sd212 ?_); (try (case sd212 => (repeat' (first | exact trivial | with_reducible refine zI ?_ ?_ | rfl | exact zN rfl)))); try (refine L.nil ?_))
  refine L.callP rfl rfl rfl rfl rfl rfl rfl ⟨trivial, by (repeat' (first | exact trivial | with_reducible refine zI ?_ ?_))⟩ rfl (by exact Imps.refl _) (mark_p s (l.getD 0 default).pub (l.getD 0 default).key) ?_
  (refine L.go (T := tt) tt_ok rfl rfl ?sd237 ?_; (try (case sd237 => (repeat' (first | exact trivial | with_reducible refine zI ?_ ?_)))); try (refine L.nil ?_))
  ((repeat refine S.seq ?_); refine S.region (L.go (T := tt) tt_ok rfl rfl ?sd213 ?_); (try (case sd213 => (repeat' (first | exact trivial | with_reducible refine zI ?_ ?_ | rfl | exact zN rfl)))); try (refine L.nil ?_))
  refine L.callP rfl rfl rfl rfl rfl rfl rfl ⟨trivial, by (repeat' (first | exact trivial | with_reducible refine zI ?_ ?_))⟩ rfl (by exact Imps.refl _) (last_p s (l.getD 0 default).pub (l.getD 0 default).key) ?_
  (refine L.go (T := tt) tt_ok rfl rfl ?sd238 ?_; (try (case sd238 => (repeat' (first | exact trivial | with_reducible refine zI ?_ ?_)))); try (refine L.nil ?_))
  repeat refine S.seq ?_
  refine S.block ?_
  ((repeat refine S.seq ?_); refine S.region (L.go (T := tt) tt_ok rfl rfl ?sd214 ?_); (try (case sd214 => (repeat' (first | exact trivial | with_reducible refine zI ?_ ?_ | rfl)))); try (refine L.nil ?_))
  ((repeat refine S.seq ?_); refine S.cond rfl (fun h3 => ?_) (fun h3 => ?_) <;> (try first | refine S.skip ?_ | refine S.exit ?_))
  · ((repeat refine S.seq ?_); refine S.region (L.go (T := tt) tt_ok rfl rfl ?sd215 ?_); (try (case sd215 => (repeat' (first | exact trivial | with_reducible refine zI ?_ ?_ | rfl | exact zN rfl)))); try (refine L.nil ?_))
    (refine L.store (T := tt) tt_ok rfl rfl rfl rfl rfl rfl ?sd248 ?_; (try (case sd248 => (repeat' (first | exact trivial | with_reducible refine zI ?_ ?_ | rfl | exact zN rfl)))))
    (refine L.go (T := tt) tt_ok rfl rfl ?sd239 ?_; (try (case sd239 => (repeat' (first | exact trivial | with_reducible refine zI ?_ ?_)))); try (refine L.nil ?_))
    ((repeat refine S.seq ?_); refine S.ret ?_)
    have : putE s l = 8 := by
      rw [putE]
      exact (if_neg (by simp [hm, hr])).trans (if_pos h3)
    refine E.retP (T := tt) tt_ok rfl rfl (by (repeat' (first | exact trivial | with_reducible refine zI ?_ ?_ | rfl | exact zN rfl))) (Imp.of_eq ?_)
    rw [this]
    rfl
  ((repeat refine S.seq ?_); refine S.region (L.go (T := tt) tt_ok rfl rfl ?sd216 ?_); (try (case sd216 => (repeat' (first | exact trivial | with_reducible refine zI ?_ ?_ | rfl)))); try (refine L.nil ?_))
  ((repeat refine S.seq ?_); refine S.cond rfl (fun h4 => ?_) (fun h4 => ?_) <;> (try first | refine S.skip ?_ | refine S.exit ?_))
  · ((repeat refine S.seq ?_); refine S.region (L.go (T := tt) tt_ok rfl rfl ?sd217 ?_); (try (case sd217 => (repeat' (first | exact trivial | with_reducible refine zI ?_ ?_ | rfl | exact zN rfl)))); try (refine L.nil ?_))
    (refine L.store (T := tt) tt_ok rfl rfl rfl rfl rfl rfl ?sd249 ?_; (try (case sd249 => (repeat' (first | exact trivial | with_reducible refine zI ?_ ?_ | rfl | exact zN rfl)))))
    (refine L.go (T := tt) tt_ok rfl rfl ?sd240 ?_; (try (case sd240 => (repeat' (first | exact trivial | with_reducible refine zI ?_ ?_)))); try (refine L.nil ?_))
    ((repeat refine S.seq ?_); refine S.ret ?_)
    have : putE s l = 1 := by
      rw [putE]
      exact (if_neg (by simp [hm, hr])).trans ((if_neg (by rw [h3]; simp)).trans (if_pos h4))
    refine E.retP (T := tt) tt_ok rfl rfl (by (repeat' (first | exact trivial | with_reducible refine zI ?_ ?_ | rfl | exact zN rfl))) (Imp.of_eq ?_)
    rw [this]
    rfl
  ((repeat refine S.seq ?_); refine S.region (L.go (T := tt) tt_ok rfl rfl ?sd218 ?_); (try (case sd218 => (repeat' (first | exact trivial | with_reducible refine zI ?_ ?_ | rfl)))); try (refine L.nil ?_))
  ((repeat refine S.seq ?_); refine S.cond rfl (fun h5 => ?_) (fun h5 => ?_) <;> (try first | refine S.skip ?_ | refine S.exit ?_))
  · ((repeat refine S.seq ?_); refine S.region (L.go (T := tt) tt_ok rfl rfl ?sd219 ?_); (try (case sd219 => (repeat' (first | exact trivial | with_reducible refine zI ?_ ?_ | rfl | exact zN rfl)))); try (refine L.nil ?_))
    (refine L.store (T := tt) tt_ok rfl rfl rfl rfl rfl rfl ?sd250 ?_; (try (case sd250 => (repeat' (first | exact trivial | with_reducible refine zI ?_ ?_ | rfl | exact zN rfl)))))
    (refine L.go (T := tt) tt_ok rfl rfl ?sd241 ?_; (try (case sd241 => (repeat' (first | exact trivial | with_reducible refine zI ?_ ?_)))); try (refine L.nil ?_))
    ((repeat refine S.seq ?_); refine S.ret ?_)
    have : putE s l = 6 := by
      rw [putE]
      exact (if_neg (by simp [hm, hr])).trans ((if_neg (by rw [h3]; simp)).trans ((if_neg (by rw [h4]; simp)).trans (if_pos h5)))
    refine E.retP (T := tt) tt_ok rfl rfl (by (repeat' (first | exact trivial | with_reducible refine zI ?_ ?_ | rfl | exact zN rfl))) (Imp.of_eq ?_)
    rw [this]
    rfl
  ((repeat refine S.seq ?_); refine S.region (L.go (T := tt) tt_ok rfl rfl ?sd220 ?_); (try (case sd220 => (repeat' (first | exact trivial | exact zA | with_reducible refine zI ?_ ?_ | exact zB | exact zC | exact zE | rfl | (simp; done) | (simp; omega) | (unfold fits; omega))))); try (refine L.nil ?_))
  ((repeat refine S.seq ?_); refine S.cond rfl (fun h6 => ?_) (fun h6 => ?_) <;> (try first | refine S.skip ?_ | refine S.exit ?_))
  · ((repeat refine S.seq ?_); refine S.region (L.go (T := tt) tt_ok rfl rfl ?sd221 ?_); (try (case sd221 => (repeat' (first | exact trivial | with_reducible refine zI ?_ ?_ | rfl | exact zN rfl)))); try (refine L.nil ?_))
    (refine L.store (T := tt) tt_ok rfl rfl rfl rfl rfl rfl ?sd251 ?_; (try (case sd251 => (repeat' (first | exact trivial | with_reducible refine zI ?_ ?_ | rfl | exact zN rfl)))))
    (refine L.go (T := tt) tt_ok rfl rfl ?sd242 ?_; (try (case sd242 => (repeat' (first | exact trivial | with_reducible refine zI ?_ ?_)))); try (refine L.nil ?_))
    ((repeat refine S.seq ?_); refine S.ret ?_)
    have : putE s l = 4 := by
      rw [putE]
      exact (if_neg (by simp [hm, hr])).trans ((if_neg (by rw [h3]; simp)).trans ((if_neg (by rw [h4]; simp)).trans ((if_neg (by rw [h5]; simp)).trans (if_pos h6))))
    refine E.retP (T := tt) tt_ok rfl rfl (by (repeat' (first | exact trivial | with_reducible refine zI ?_ ?_ | rfl | exact zN rfl))) (Imp.of_eq ?_)
    rw [this]
    rfl
  have hE : putE s l = 0 := by
    rw [putE]
    exact (if_neg (by simp [hm, hr])).trans ((if_neg (by rw [h3]; simp)).trans ((if_neg (by rw [h4]; simp)).trans ((if_neg (by rw [h5]; simp)).trans (if_neg (by rw [h6]; simp)))))
  have hml := may_marks hm
  have hat := markAt_lt s.marks (l.getD 0 default).pub (l.getD 0 default).key
  ((repeat refine S.seq ?_); refine S.region (L.go (T := tt) tt_ok rfl rfl ?sd222 ?_); (try (case sd222 => (repeat' (first | exact trivial | with_reducible refine zI ?_ ?_ | rfl | exact zN rfl)))); try (refine L.nil ?_))
  refine L.call (G := []) (H := [(4, _), (3, _), (2, _), (1, _)]) rfl rfl rfl rfl rfl rfl rfl ⟨trivial, by (repeat' (first | exact trivial | with_reducible refine zI ?_ ?_))⟩ rfl (by exact Imps.refl [s.av]) (List.Perm.refl _) (own_p s h1 h2 (by omega)) ?_
  rintro r F' ⟨x, y, z, rfl, rfl⟩
  (refine L.store (T := tt) tt_ok rfl rfl rfl rfl rfl rfl ?sd252 ?_; (try (case sd252 => (repeat' (first | exact trivial | with_reducible refine zI ?_ ?_ | rfl | exact zN rfl)))))
  refine L.nil ?_
  ((repeat refine S.seq ?_); refine S.region (L.go (T := tt) tt_ok rfl rfl ?sd223 ?_); (try (case sd223 => (repeat' (first | exact trivial | with_reducible refine zI ?_ ?_ | rfl)))); try (refine L.nil ?_))
  refine L.append (T := tt) tt_ok rfl rfl rfl rfl rfl rfl rfl rfl rfl rfl (by (repeat' (first | exact trivial | with_reducible refine zI ?_ ?_ | rfl))) ⟨rfl, by decide, by decide⟩ (by simp; omega) fun x1 => ?_
  (refine L.go (T := tt) tt_ok rfl rfl ?sd243 ?_; (try (case sd243 => (repeat' (first | exact trivial | with_reducible refine zI ?_ ?_)))); try (refine L.nil ?_))
  (refine L.store (T := tt) tt_ok rfl rfl rfl rfl rfl rfl ?sd253 ?_; (try (case sd253 => (repeat' (first | exact trivial | with_reducible refine zI ?_ ?_ | rfl | exact zN rfl)))))
  refine L.nil ?_
  ((repeat refine S.seq ?_); refine S.region (L.go (T := tt) tt_ok rfl rfl ?sd224 ?_); (try (case sd224 => (repeat' (first | exact trivial | with_reducible refine zI ?_ ?_)))); try (refine L.nil ?_))
  ((repeat refine S.seq ?_); refine S.cond rfl (fun h7 => ?_) (fun h7 => ?_) <;> (try first | refine S.skip ?_ | refine S.exit ?_))
  · have h7' := of_dec h7
    ((repeat refine S.seq ?_); refine S.region (L.go (T := tt) tt_ok rfl rfl ?sd225 ?_); (try (case sd225 => (repeat' (first | exact trivial | with_reducible refine zI ?_ ?_ | rfl | omega)))); try (refine L.nil ?_))
    (refine L.store (T := tt) tt_ok rfl rfl rfl rfl rfl rfl ?sd254 ?_; (try (case sd254 => (repeat' (first | exact trivial | with_reducible refine zI ?_ ?_ | rfl | exact zN rfl | omega)))))
    refine L.nil ?_
    ((repeat refine S.seq ?_); refine S.region (L.go (T := tt) tt_ok rfl rfl ?sd226 ?_); (try (case sd226 => (repeat' (first | exact trivial | with_reducible refine zI ?_ ?_ | rfl | exact zN rfl)))); try (refine L.nil ?_))
    (refine L.store (T := tt) tt_ok rfl rfl rfl rfl rfl rfl ?sd255 ?_; (try (case sd255 => (repeat' (first | exact trivial | with_reducible refine zI ?_ ?_ | rfl | exact zN rfl)))))
    (refine L.go (T := tt) tt_ok rfl rfl ?sd244 ?_; (try (case sd244 => (repeat' (first | exact trivial | with_reducible refine zI ?_ ?_)))); try (refine L.nil ?_))
    ((repeat refine S.seq ?_); refine S.ret ?_)
    refine freezeCell 2 2 91 rfl rfl rfl rfl (freezeCell 2 3 92 rfl rfl rfl rfl (freezeCell 2 4 93 rfl rfl rfl rfl ?_))
    refine E.retP (T := tt) tt_ok rfl rfl (by (repeat' (first | exact trivial | with_reducible refine zI ?_ ?_ | rfl | exact zN rfl))) ?_
    rw [hE, if_pos rfl, putS, if_pos h7']
    exact Imp.tup ⟨Imp.agg ⟨Imp.refl _, Imp.refl _, imp_app _ _ _ _, Imp.refl _, imp_mod _ _ _ (by omega), trivial⟩, Imp.refl _, trivial⟩
  · have h7' := of_dec' h7
    ((repeat refine S.seq ?_); refine S.region (L.go (T := tt) tt_ok rfl rfl ?sd227 ?_); (try (case sd227 => (repeat' (first | exact trivial | with_reducible refine zI ?_ ?_ | rfl | exact zN rfl)))); try (refine L.nil ?_))
    refine L.buildSlice (T := tt) 5 tt_ok rfl rfl rfl rfl rfl rfl (by decide) (by decide) rfl rfl (by (repeat' (first | exact trivial | with_reducible refine zI ?_ ?_ | rfl | exact zN rfl))) fun x5 => ?_
    refine L.append (T := tt) tt_ok rfl rfl rfl rfl rfl rfl rfl rfl rfl rfl (by (repeat' (first | exact trivial | with_reducible refine zI ?_ ?_ | rfl))) ⟨rfl, by decide, by decide⟩ (by simp; omega) fun x2 => ?_
    (refine L.go (T := tt) tt_ok rfl rfl ?sd245 ?_; (try (case sd245 => (repeat' (first | exact trivial | with_reducible refine zI ?_ ?_)))); try (refine L.nil ?_))
    (refine L.store (T := tt) tt_ok rfl rfl rfl rfl rfl rfl ?sd256 ?_; (try (case sd256 => (repeat' (first | exact trivial | with_reducible refine zI ?_ ?_ | rfl | exact zN rfl)))))
    refine L.nil ?_
    ((repeat refine S.seq ?_); refine S.region (L.go (T := tt) tt_ok rfl rfl ?sd228 ?_); (try (case sd228 => (repeat' (first | exact trivial | with_reducible refine zI ?_ ?_ | rfl | exact zN rfl)))); try (refine L.nil ?_))
    (refine L.store (T := tt) tt_ok rfl rfl rfl rfl rfl rfl ?sd257 ?_; (try (case sd257 => (repeat' (first | exact trivial | with_reducible refine zI ?_ ?_ | rfl | exact zN rfl)))))
    (refine L.go (T := tt) tt_ok rfl rfl ?sd246 ?_; (try (case sd246 => (repeat' (first | exact trivial | with_reducible refine zI ?_ ?_)))); try (refine L.nil ?_))
    ((repeat refine S.seq ?_); refine S.ret ?_)
    refine freezeCell 2 2 91 rfl rfl rfl rfl (freezeCell 2 3 92 rfl rfl rfl rfl (freezeCell 2 4 93 rfl rfl rfl rfl ?_))
    refine E.retP (T := tt) tt_ok rfl rfl (by (repeat' (first | exact trivial | with_reducible refine zI ?_ ?_ | rfl | exact zN rfl))) ?_
    rw [hE, if_pos rfl, putS, if_neg h7']
    exact Imp.tup ⟨Imp.agg ⟨Imp.refl _, Imp.refl _, imp_app _ _ _ _, Imp.refl _, imp_app1 _ _ _ _ rfl, trivial⟩, Imp.refl _, trivial⟩

end Go.Proofs.Ytlbbcjlhnjnkeaa

/- Putting back. -/
namespace Go.Proofs.Ytlbbcjlhnjnkeaa
set_option linter.unusedVariables false
set_option linter.unusedSimpArgs false
set_option maxHeartbeats 8000000
open Go.RowKit
set_option maxRecDepth 4000

def Msg.back (m : Msg) : Msg := { m with again := true }
def nackS (s : Shard) (tag : Int) : Shard × Int :=
  if settleE s tag = 0 then ({ s with held := s.held.eraseIdx (heldAt s.held tag).toNat, ready := (s.held.getD (heldAt s.held tag).toNat default).m.back :: s.ready }, 0) else (s, settleE s tag)

theorem nack_p (s : Shard) (tag : Int) (hs : s.small) : PFn Try.prog 47 [s.av, .v (.int .i64 tag)] (.tup [(nackS s tag).1.av, .v (.int .i64 (nackS s tag).2)]) := by
  refine FnC.intro Try.func47 rfl Try.ntmps47 rfl ?_; intro off w0
  repeat refine S.seq ?_
  refine S.region ?_
  refine L.box 1 rfl rfl rfl rfl rfl trivial rfl fun b => ?_
  refine L.alloc (T := tt) 2 tt_ok rfl rfl rfl rfl rfl fun b2 => ?_
  (refine L.go (T := tt) tt_ok rfl rfl ?sd363 ?_; (try (case sd363 => (repeat' (first | exact trivial | with_reducible refine zI ?_ ?_)))); try (refine L.nil ?_))
  ((repeat refine S.seq ?_); refine S.region (L.go (T := tt) tt_ok rfl rfl ?sd356 ?_); (try (case sd356 => (repeat' (first | exact trivial | with_reducible refine zI ?_ ?_ | rfl | exact zN rfl)))); try (refine L.nil ?_))
  refine L.call (G := []) (H := [(2, _), (1, _)]) rfl rfl rfl rfl rfl rfl rfl ⟨trivial, by (repeat' (first | exact trivial | with_reducible refine zI ?_ ?_))⟩ rfl (by exact Imps.refl [s.av, .v (.int .i64 tag)]) (List.Perm.refl _) (settled_p s tag hs) ?_
  rintro r F' (⟨he, rfl, rfl⟩ | ⟨he, x, y, z, rfl, rfl⟩)
  · (refine L.go (T := tt) tt_ok rfl rfl ?sd364 ?_; (try (case sd364 => (repeat' (first | exact trivial | with_reducible refine zI ?_ ?_)))); try (refine L.nil ?_))
    refine L.alloc (T := tt) 3 tt_ok rfl rfl rfl rfl rfl fun b3 => ?_
    (refine L.store (T := tt) tt_ok rfl rfl rfl rfl rfl rfl ?sd371 ?_; (try (case sd371 => (repeat' (first | exact trivial | with_reducible refine zI ?_ ?_ | rfl | exact zN rfl)))))
    (refine L.store (T := tt) tt_ok rfl rfl rfl rfl rfl rfl ?sd372 ?_; (try (case sd372 => (repeat' (first | exact trivial | with_reducible refine zI ?_ ?_ | rfl | exact zN rfl)))))
    (refine L.go (T := tt) tt_ok rfl rfl ?sd365 ?_; (try (case sd365 => (repeat' (first | exact trivial | with_reducible refine zI ?_ ?_)))); try (refine L.nil ?_))
    ((repeat refine S.seq ?_); refine S.region (L.go (T := tt) tt_ok rfl rfl ?sd357 ?_); (try (case sd357 => (repeat' (first | exact trivial | with_reducible refine zI ?_ ?_)))); try (refine L.nil ?_))
    ((repeat refine S.seq ?_); refine S.cond rfl (fun h => ?_) (fun h => ?_) <;> (try first | refine S.skip ?_ | refine S.exit ?_))
    · have h := of_dec h
      exact absurd (by simpa using h) he
    ((repeat refine S.seq ?_); refine S.region (L.go (T := tt) tt_ok rfl rfl ?sd358 ?_); (try (case sd358 => (repeat' (first | exact trivial | with_reducible refine zI ?_ ?_ | rfl | exact zN rfl)))); try (refine L.nil ?_))
    (refine L.store (T := tt) tt_ok rfl rfl rfl rfl rfl rfl ?sd373 ?_; (try (case sd373 => (repeat' (first | exact trivial | with_reducible refine zI ?_ ?_ | rfl | exact zN rfl)))))
    (refine L.go (T := tt) tt_ok rfl rfl ?sd366 ?_; (try (case sd366 => (repeat' (first | exact trivial | with_reducible refine zI ?_ ?_)))); try (refine L.nil ?_))
    ((repeat refine S.seq ?_); refine S.ret ?_)
    refine E.retP (T := tt) tt_ok rfl rfl (by (repeat' (first | exact trivial | with_reducible refine zI ?_ ?_ | rfl | exact zN rfl))) (Imp.of_eq ?_)
    rw [nackS, if_neg he]
    rfl
  · have hlt := settle_lt he
    (refine L.go (T := tt) tt_ok rfl rfl ?sd367 ?_; (try (case sd367 => (repeat' (first | exact trivial | with_reducible refine zI ?_ ?_)))); try (refine L.nil ?_))
    refine L.alloc (T := tt) 3 tt_ok rfl rfl rfl rfl rfl fun b3 => ?_
    (refine L.store (T := tt) tt_ok rfl rfl rfl rfl rfl rfl ?sd374 ?_; (try (case sd374 => (repeat' (first | exact trivial | with_reducible refine zI ?_ ?_ | rfl | exact zN rfl)))))
    (refine L.store (T := tt) tt_ok rfl rfl rfl rfl rfl rfl ?sd375 ?_; (try (case sd375 => (repeat' (first | exact trivial | with_reducible refine zI ?_ ?_ | rfl | exact zN rfl)))))
    (refine L.go (T := tt) tt_ok rfl rfl ?sd368 ?_; (try (case sd368 => (repeat' (first | exact trivial | with_reducible refine zI ?_ ?_)))); try (refine L.nil ?_))
    ((repeat refine S.seq ?_); refine S.region (L.go (T := tt) tt_ok rfl rfl ?sd359 ?_); (try (case sd359 => (repeat' (first | exact trivial | with_reducible refine zI ?_ ?_)))); try (refine L.nil ?_))
    ((repeat refine S.seq ?_); refine S.cond rfl (fun h => ?_) (fun h => ?_) <;> (try first | refine S.skip ?_ | refine S.exit ?_))
    · ((repeat refine S.seq ?_); refine S.region (L.go (T := tt) tt_ok rfl rfl ?sd360 ?_); (try (case sd360 => (repeat' (first | exact trivial | with_reducible refine zI ?_ ?_)))); try (refine L.nil ?_))
      (refine L.store (T := tt) tt_ok rfl rfl rfl rfl rfl rfl ?sd376 ?_; (try (case sd376 => (repeat' (first | exact trivial | with_reducible refine zI ?_ ?_ | rfl | exact zN rfl)))))
      refine L.nil ?_
      ((repeat refine S.seq ?_); refine S.region (L.go (T := tt) tt_ok rfl rfl ?sd361 ?_); (try (case sd361 => (repeat' (first | exact trivial | with_reducible refine zI ?_ ?_ | rfl | exact zN rfl)))); try (refine L.nil ?_))
      refine L.buildSliceB (T := tt) 4 tt_ok rfl rfl rfl rfl rfl rfl (by decide) (by decide) rfl rfl (by (repeat' (first | exact trivial | with_reducible refine zI ?_ ?_ | rfl | exact zN rfl))) fun b4 => ?_
      refine L.call (G := [_, _]) (H := [_, _, _, _, _]) rfl rfl rfl rfl rfl rfl rfl ⟨trivial, by (repeat' (first | exact trivial | with_reducible refine zI ?_ ?_))⟩ rfl (by exact Imps.refl [.ref 91 x, .v (.int .i64 0), .v (.slice (some ⟨b4, 0, none⟩) 1 1)]) (by exact List.Perm.cons _ (List.perm_middle (l₁ := [_, _, _]) (l₂ := [_, _]))) (InMsg (k := 0) (n := s.ready.length) (g := gOf Msg.cells s.ready) (x := x) (b := b4) (y := (s.held.getD (heldAt s.held tag).toNat default).m.back.cells) 91 4 (Nat.zero_le _) rfl (by have := hs.1; omega)) ?_
      rintro r F' ⟨x', rfl, rfl⟩
      (refine L.go (T := tt) tt_ok rfl rfl ?sd369 ?_; (try (case sd369 => (repeat' (first | exact trivial | with_reducible refine zI ?_ ?_)))); try (refine L.nil ?_))
      (refine L.store (T := tt) tt_ok rfl rfl rfl rfl rfl rfl ?sd377 ?_; (try (case sd377 => (repeat' (first | exact trivial | with_reducible refine zI ?_ ?_ | rfl | exact zN rfl)))))
      refine L.nil ?_
      ((repeat refine S.seq ?_); refine S.region (L.go (T := tt) tt_ok rfl rfl ?sd362 ?_); (try (case sd362 => (repeat' (first | exact trivial | with_reducible refine zI ?_ ?_ | rfl | exact zN rfl)))); try (refine L.nil ?_))
      (refine L.store (T := tt) tt_ok rfl rfl rfl rfl rfl rfl ?sd378 ?_; (try (case sd378 => (repeat' (first | exact trivial | with_reducible refine zI ?_ ?_ | rfl | exact zN rfl)))))
      (refine L.go (T := tt) tt_ok rfl rfl ?sd370 ?_; (try (case sd370 => (repeat' (first | exact trivial | with_reducible refine zI ?_ ?_)))); try (refine L.nil ?_))
      ((repeat refine S.seq ?_); refine S.ret ?_)
      refine freezeCell 2 2 91 rfl rfl rfl rfl (freezeCell 2 3 92 rfl rfl rfl rfl (freezeCell 2 4 93 rfl rfl rfl rfl ?_))
      refine E.retP (T := tt) tt_ok rfl rfl (by (repeat' (first | exact trivial | with_reducible refine zI ?_ ?_ | rfl | exact zN rfl))) ?_
      rw [nackS, if_pos he]
      refine Imp.tup ⟨Imp.agg ⟨Imp.refl _, Imp.refl _, Imp.lst (by simp) fun i hi => ?_, imp_drop _ _ _ hlt.2.2, Imp.refl _, trivial⟩, Imp.refl _, trivial⟩
      unfold InMsg_g gOf
      cases i with
      | zero => rfl
      | succ i => rfl
    · cases h

end Go.Proofs.Ytlbbcjlhnjnkeaa
