/- Texts of this proof, laid together: ShardA, ShardB, ShardC, ShardD, ApiRd. -/
import Derived.Test.YtlbbcjlhnjnkeaaMgC
/- The shard's small functions. -/
namespace Go.Proofs.Ytlbbcjlhnjnkeaa
set_option linter.unusedVariables false
set_option linter.unusedSimpArgs false
set_option maxHeartbeats 8000000
open Go.RowKit
set_option maxRecDepth 4000

theorem mayMsg_p (m : Msg) : PFn Try.prog 33 [m.av] (.v (.bool (mayMsg m))) := by
  refine FnC.intro Try.func33 rfl Try.ntmps33 rfl ?_; intro off w0
  repeat refine S.seq ?_
  refine S.region (L.box 0 rfl rfl rfl rfl rfl trivial rfl fun b => ?_)
  (refine L.go (T := tt) tt_ok rfl rfl ?sd44 ?_; (try (case sd44 => (repeat' (first | exact trivial | with_reducible refine zI ?_ ?_)))); try (refine L.nil ?_))
  ((repeat refine S.seq ?_); refine S.region (L.go (T := tt) tt_ok rfl rfl ?sd26 ?_); (try (case sd26 => (repeat' (first | exact trivial | exact zA | with_reducible refine zI ?_ ?_ | exact zB | exact zC | exact zE | rfl | (simp; done))))); try (refine L.nil ?_))
  ((repeat refine S.seq ?_); refine S.ret ?_)
  exact E.retP (T := tt) tt_ok rfl rfl (by (repeat' (first | exact trivial | with_reducible refine zI ?_ ?_))) (Imp.refl _)

theorem of_p (m : Msg) : PFn Try.prog 58 [m.av] (.agg [.v (.int .i64 m.pub), .v (.string m.key)]) := by
  refine FnC.intro Try.func58 rfl Try.ntmps58 rfl ?_; intro off w0
  repeat refine S.seq ?_
  refine S.region (L.box 0 rfl rfl rfl rfl rfl trivial rfl fun b => ?_)
  refine L.alloc (T := tt) 1 tt_ok rfl rfl rfl rfl rfl fun b2 => ?_
  refine L.nil ?_
  ((repeat refine S.seq ?_); refine S.region (L.go (T := tt) tt_ok rfl rfl ?sd27 ?_); (try (case sd27 => (repeat' (first | exact trivial | with_reducible refine zI ?_ ?_ | rfl | exact zN rfl)))); try (refine L.nil ?_))
  (refine L.store (T := tt) tt_ok rfl rfl rfl rfl rfl rfl ?sd51 ?_; (try (case sd51 => (repeat' (first | exact trivial | with_reducible refine zI ?_ ?_ | rfl | exact zN rfl)))))
  refine L.nil ?_
  ((repeat refine S.seq ?_); refine S.ret ?_)
  exact E.retP (T := tt) tt_ok rfl rfl (by simp [splice]) (Imp.refl _)

theorem new_p : PFn Try.prog 18 [] (Shard.av ⟨false, 1, [], [], []⟩) := by
  refine FnC.intro Try.func18 rfl Try.ntmps18 rfl ?_; intro off w0
  repeat refine S.seq ?_
  refine S.region ?_
  refine L.alloc (T := tt) 1 tt_ok rfl rfl rfl rfl rfl fun b => ?_
  refine L.nil ?_
  ((repeat refine S.seq ?_); refine S.region (L.go (T := tt) tt_ok rfl rfl ?sd28 ?_); (try (case sd28 => (repeat' (first | exact trivial | with_reducible refine zI ?_ ?_ | rfl | exact zN rfl)))); try (refine L.nil ?_))
  (refine L.store (T := tt) tt_ok rfl rfl rfl rfl rfl rfl ?sd52 ?_; (try (case sd52 => (repeat' (first | exact trivial | with_reducible refine zI ?_ ?_ | rfl | exact zN rfl)))))
  refine L.nil ?_
  ((repeat refine S.seq ?_); refine S.ret ?_)
  refine E.retP (T := tt) tt_ok rfl rfl (by (repeat' (first | exact trivial | with_reducible refine zI ?_ ?_ | rfl | exact zN rfl))) (Imp.agg ⟨Imp.refl _, Imp.refl _, Imp.nil _ _, Imp.nil _ _, Imp.nil _ _, trivial⟩)

/-- The place of a mark. -/
def markAt (l : List Mark) (pub : Int) (key : ByteArray) : Int := pidx (fun i => let m := l.getD i default; m.pub == pub && m.key == key) l.length

/-- The last number that was taken. -/
def lastOf (l : List Mark) (pub : Int) (key : ByteArray) : Int := if markAt l pub key < 0 then 0 else (l.getD (markAt l pub key).toNat default).seq

theorem mark1_p (m : Mark) (pub : Int) (key : ByteArray) : PFn Try.prog 74 [m.av, .pel 1 [.v (.int .i64 pub)], .pel 1 [.v (.string key)]] (.v (.bool (m.pub == pub && m.key == key))) := by
  refine FnC.intro Try.func74 rfl Try.ntmps74 rfl ?_; intro off w0
  repeat refine S.seq ?_
  refine S.region (L.box 0 rfl rfl rfl rfl rfl trivial rfl fun b => ?_)
  (refine L.go (T := tt) tt_ok rfl rfl ?sd45 ?_; (try (case sd45 => (repeat' (first | exact trivial | with_reducible refine zI ?_ ?_)))); try (refine L.nil ?_))
  ((repeat refine S.seq ?_); refine S.region (L.go (T := tt) tt_ok rfl rfl ?sd29 ?_); (try (case sd29 => (repeat' (first | exact trivial | exact zA | with_reducible refine zI ?_ ?_ | exact zB | exact zD | rfl | (simp; done))))); try (refine L.nil ?_))
  ((repeat refine S.seq ?_); refine S.ret ?_)
  exact E.retP (T := tt) tt_ok rfl rfl (by (repeat' (first | exact trivial | with_reducible refine zI ?_ ?_))) (Imp.refl _)

theorem mark_p (s : Shard) (pub : Int) (key : ByteArray) : PFn Try.prog 66 [s.av, .v (.int .i64 pub), .v (.string key)] (.v (.int .i64 (markAt s.marks pub key))) := by
  refine FnC.intro Try.func66 rfl Try.ntmps66 rfl ?_; intro off w0
  repeat refine S.seq ?_
  refine S.region (L.box 0 rfl rfl rfl rfl rfl trivial rfl fun b => ?_)
  refine L.box 1 rfl rfl rfl rfl rfl trivial rfl fun b1 => ?_
  refine L.box 2 rfl rfl rfl rfl rfl trivial rfl fun b2 => ?_
  (refine L.go (T := tt) tt_ok rfl rfl ?sd46 ?_; (try (case sd46 => (repeat' (first | exact trivial | with_reducible refine zI ?_ ?_)))); try (refine L.nil ?_))
  repeat refine S.seq ?_
  refine freezeBlk 4 1 rfl rfl rfl (freezeBlk 5 2 rfl rfl rfl ?_)
  ((repeat refine S.seq ?_); refine S.region (L.go (T := tt) tt_ok rfl rfl ?sd30 ?_); (try (case sd30 => (repeat' (first | exact trivial | with_reducible refine zI ?_ ?_ | rfl)))); try (refine L.nil ?_))
  refine L.callP rfl rfl rfl rfl rfl rfl rfl ⟨trivial, by (repeat' (first | exact trivial | with_reducible refine zI ?_ ?_))⟩ rfl (Imps.refl [marksA s.marks, .fn (.func 74) [.pel 1 [.v (.int .i64 pub)], .pel 1 [.v (.string key)]]])
    (IdxMark (fun i => let m := s.marks.getD i default; m.pub == pub && m.key == key) rfl (fun i hi => rfl) (fun i hi => mark1_p _ pub key)) ?_
  (refine L.go (T := tt) tt_ok rfl rfl ?sd47 ?_; (try (case sd47 => (repeat' (first | exact trivial | with_reducible refine zI ?_ ?_)))); try (refine L.nil ?_))
  ((repeat refine S.seq ?_); refine S.ret ?_)
  exact E.retP (T := tt) tt_ok rfl rfl (by (repeat' (first | exact trivial | with_reducible refine zI ?_ ?_))) (Imp.refl _)

theorem markAt_lt (l : List Mark) (pub : Int) (key : ByteArray) : -1 ≤ markAt l pub key ∧ markAt l pub key < l.length := by
  unfold markAt
  rcases pidx_cases (fun i => let m := l.getD i default; m.pub == pub && m.key == key) l.length with ⟨h, -⟩ | ⟨k, hk, -, -, h⟩ <;> rw [h] <;> omega

theorem last_p (s : Shard) (pub : Int) (key : ByteArray) : PFn Try.prog 67 [s.av, .v (.int .i64 pub), .v (.string key)] (.v (.int .i64 (lastOf s.marks pub key))) := by
  have hm := markAt_lt s.marks pub key
  refine FnC.intro Try.func67 rfl Try.ntmps67 rfl ?_; intro off w0
  repeat refine S.seq ?_
  refine S.region ?_
  refine L.box 1 rfl rfl rfl rfl rfl trivial rfl fun b => ?_
  (refine L.go (T := tt) tt_ok rfl rfl ?sd48 ?_; (try (case sd48 => (repeat' (first | exact trivial | with_reducible refine zI ?_ ?_)))); try (refine L.nil ?_))
  ((repeat refine S.seq ?_); refine S.region (L.go (T := tt) tt_ok rfl rfl ?sd31 ?_); (try (case sd31 => (repeat' (first | exact trivial | with_reducible refine zI ?_ ?_ | rfl | exact zN rfl)))); try (refine L.nil ?_))
  refine L.callP rfl rfl rfl rfl rfl rfl rfl ⟨trivial, by (repeat' (first | exact trivial | with_reducible refine zI ?_ ?_))⟩ rfl (by exact Imps.refl _) (mark_p s pub key) ?_
  (refine L.go (T := tt) tt_ok rfl rfl ?sd49 ?_; (try (case sd49 => (repeat' (first | exact trivial | with_reducible refine zI ?_ ?_)))); try (refine L.nil ?_))
  ((repeat refine S.seq ?_); refine S.region (L.go (T := tt) tt_ok rfl rfl ?sd32 ?_); (try (case sd32 => (repeat' (first | exact trivial | with_reducible refine zI ?_ ?_)))); try (refine L.nil ?_))
  ((repeat refine S.seq ?_); refine S.cond rfl (fun h => ?_) (fun h => ?_) <;> (try first | refine S.skip ?_ | refine S.exit ?_))
  · have h := of_dec h
    ((repeat refine S.seq ?_); refine S.region (L.go (T := tt) tt_ok rfl rfl ?sd33 ?_); (try (case sd33 => (repeat' (first | exact trivial | with_reducible refine zI ?_ ?_)))); try (refine L.nil ?_))
    ((repeat refine S.seq ?_); refine S.ret ?_)
    refine E.retP (T := tt) tt_ok rfl rfl (by (repeat' (first | exact trivial | with_reducible refine zI ?_ ?_))) (Imp.of_eq ?_)
    unfold lastOf
    rw [if_pos h]
    rfl
  · have h := of_dec' h
    ((repeat refine S.seq ?_); refine S.region (L.go (T := tt) tt_ok rfl rfl ?sd34 ?_); (try (case sd34 => (repeat' (first | exact trivial | with_reducible refine zI ?_ ?_ | rfl | omega)))); try (refine L.nil ?_))
    ((repeat refine S.seq ?_); refine S.ret ?_)
    refine E.retP (T := tt) tt_ok rfl rfl (by (repeat' (first | exact trivial | with_reducible refine zI ?_ ?_))) (Imp.of_eq ?_)
    unfold lastOf
    rw [if_neg h]
    rfl

/-- A shard that is its own: three rows. -/
theorem own_p (s : Shard) (h1 : s.ready.length ≤ 1000) (h2 : s.held.length ≤ 1000) (h3 : s.marks.length ≤ 1000) : FnC Try.prog 68 [s.av] [] (fun r F' => ∃ x y z, r = .agg [.v (.bool s.frozen), .v (.int .i64 s.next), .ref 91 x, .ref 92 y, .ref 93 z] ∧
    F' = [(93, .own z 60 3 s.marks.length (gOf Mark.cells s.marks)), (92, .own y 53 6 s.held.length (gOf Held.cells s.held)), (91, .own x 41 5 s.ready.length (gOf Msg.cells s.ready))]) := by
  refine FnC.intro Try.func68 rfl Try.ntmps68 rfl ?_; intro off w0
  repeat refine S.seq ?_
  refine S.region ?_
  refine L.box 1 rfl rfl rfl rfl rfl trivial rfl fun b => ?_
  refine L.alloc (T := tt) 2 tt_ok rfl rfl rfl rfl rfl fun b2 => ?_
  refine L.nil ?_
  repeat refine S.seq ?_
  refine S.draw [(1, [1]), (4, [1]), (7, [1])] mixed ?_
  (refine H.ts (T := tt) [0, 1, 3, 4, 6, 7] tt_ok (by kernel_rfl) (by kernel_rfl) (by kernel_rfl) (by intro ch a a' w h; obtain ⟨_, _, _, _, _, h, _⟩ := h; cases h) rfl ?sd55 ?_; (try (case sd55 => (repeat' (first | exact trivial | with_reducible refine zI ?_ ?_ | rfl)))))
  refine H.call 2 [] _ rfl (by kernel_rfl) (by kernel_rfl) rfl rfl rfl rfl rfl rfl rfl ⟨trivial, by (repeat' (first | exact trivial | with_reducible refine zI ?_ ?_))⟩ rfl (by exact Imps.refl [msgs s.ready]) (List.Perm.refl _) (ClnMsg (by omega) 91) rfl rfl ?_
  rintro r F' ⟨x, rfl, rfl⟩
  (refine H.ts (T := tt) [9] tt_ok (by kernel_rfl) (by kernel_rfl) (by kernel_rfl) (by intro ch a a' w h; obtain ⟨_, _, _, _, _, h, _⟩ := h; cases h) rfl ?sd56 ?_; (try (case sd56 => (repeat' (first | exact trivial | with_reducible refine zI ?_ ?_)))))
  refine H.call 5 [] _ rfl (by kernel_rfl) (by kernel_rfl) rfl rfl rfl rfl rfl rfl rfl ⟨trivial, by (repeat' (first | exact trivial | with_reducible refine zI ?_ ?_))⟩ rfl (by exact Imps.refl [helds s.held]) (List.Perm.refl _) (ClnHeld (by omega) 92) rfl rfl ?_
  rintro r F' ⟨y, rfl, rfl⟩
  refine H.call 8 [] _ rfl (by kernel_rfl) (by kernel_rfl) rfl rfl rfl rfl rfl rfl rfl ⟨trivial, by (repeat' (first | exact trivial | with_reducible refine zI ?_ ?_))⟩ rfl (by exact Imps.refl [marksA s.marks]) (List.Perm.refl _) (ClnMark (by omega) 93) rfl rfl ?_
  rintro r F' ⟨z, rfl, rfl⟩
  (refine H.store (T := tt) 10 rfl (by kernel_rfl) (by kernel_rfl) tt_ok rfl rfl rfl rfl rfl rfl ?sd62 rfl (by kernel_rfl) ?_; (try (case sd62 => (repeat' (first | exact trivial | with_reducible refine zI ?_ ?_ | rfl | exact zN rfl)))))
  (refine H.ts (T := tt) [11] tt_ok (by kernel_rfl) (by kernel_rfl) (by kernel_rfl) (by intro ch a a' w h; obtain ⟨_, _, _, _, _, h, _⟩ := h; cases h) rfl ?sd57 ?_; (try (case sd57 => (repeat' (first | exact trivial | with_reducible refine zI ?_ ?_)))))
  (refine H.store (T := tt) 12 rfl (by kernel_rfl) (by kernel_rfl) tt_ok rfl rfl rfl rfl rfl rfl ?sd63 rfl (by kernel_rfl) ?_; (try (case sd63 => (repeat' (first | exact trivial | with_reducible refine zI ?_ ?_ | rfl | exact zN rfl)))))
  (refine H.ts (T := tt) [13] tt_ok (by kernel_rfl) (by kernel_rfl) (by kernel_rfl) (by intro ch a a' w h; obtain ⟨_, _, _, _, _, h, _⟩ := h; cases h) rfl ?sd58 ?_; (try (case sd58 => (repeat' (first | exact trivial | with_reducible refine zI ?_ ?_)))))
  (refine H.store (T := tt) 14 rfl (by kernel_rfl) (by kernel_rfl) tt_ok rfl rfl rfl rfl rfl rfl ?sd64 rfl (by kernel_rfl) ?_; (try (case sd64 => (repeat' (first | exact trivial | with_reducible refine zI ?_ ?_ | rfl | exact zN rfl)))))
  refine H.done (by kernel_rfl) ?_
  ((repeat refine S.seq ?_); refine S.region (L.go (T := tt) tt_ok rfl rfl ?sd35 ?_); (try (case sd35 => (repeat' (first | exact trivial | with_reducible refine zI ?_ ?_ | rfl | exact zN rfl)))); try (refine L.nil ?_))
  (refine L.store (T := tt) tt_ok rfl rfl rfl rfl rfl rfl ?sd53 ?_; (try (case sd53 => (repeat' (first | exact trivial | with_reducible refine zI ?_ ?_ | rfl | exact zN rfl)))))
  refine L.nil ?_
  ((repeat refine S.seq ?_); refine S.ret ?_)
  exact E.ret (T := tt) tt_ok rfl rfl (by (repeat' (first | exact trivial | with_reducible refine zI ?_ ?_ | rfl | exact zN rfl))) (Imp.refl _) (by (repeat (first | exact List.nil_sublist _ | refine List.Sublist.cons_cons _ ?_ | refine List.Sublist.cons _ ?_))) ⟨x, y, z, rfl, rfl⟩

/-- 12.2: messages that may be put at once, as far as the first k. -/
def rowE (l : List Msg) (i : Nat) : Bool :=
  mayMsg (l.getD i default) && !(l.getD i default).again && ((l.getD i default).pub == (l.getD 0 default).pub && (l.getD i default).key == (l.getD 0 default).key) && (i == 0 || (l.getD i default).seq == (l.getD (i - 1) default).seq + 1)
def rowTo (l : List Msg) (k : Nat) : Bool := (List.range k).all (rowE l)
theorem rowTo_succ (l : List Msg) (k : Nat) : rowTo l (k + 1) = (rowTo l k && rowE l k) := by simp [rowTo, List.range_succ]
theorem rowE_not (l : List Msg) (k : Nat) : (!mayMsg (l.getD k default) || (l.getD k default).again || !((l.getD k default).pub == (l.getD 0 default).pub && ((l.getD k default).key == (l.getD 0 default).key && true)) ||
    decide ((k : Int) > 0) && (l.getD k default).seq != (l.getD ((k : Int) - 1).toNat default).seq + 1) = !rowE l k := by
  have e1 : decide ((k : Int) > 0) = !(k == 0) := by cases k <;> simp
  rw [e1, show ((k : Int) - 1).toNat = k - 1 by omega]
  unfold rowE bne
  generalize mayMsg (l.getD k default) = a
  generalize (l.getD k default).again = b
  generalize ((l.getD k default).pub == (l.getD 0 default).pub) = c
  generalize ((l.getD k default).key == (l.getD 0 default).key) = d
  generalize ((l.getD k default).seq == (l.getD (k - 1) default).seq + 1) = f
  generalize (k == 0) = e
  revert a b c d e f
  decide
theorem rowTo_all {l : List Msg} {n k : Nat} (h : rowTo l n = true) (hk : k < n) : rowE l k = true := List.all_eq_true.1 h k (by simpa using hk)
def mayRow (l : List Msg) : Bool := !(decide ((l.length : Int) < 1) || decide ((l.length : Int) > 8)) && rowTo l l.length

theorem mayMsg_le {m : Msg} (h : mayMsg m = true) : 1 ≤ m.seq ∧ m.seq ≤ 1073741824 := by
  simp only [mayMsg, Bool.and_eq_true, decide_eq_true_eq] at h
  omega
theorem rowTo_at {l : List Msg} {k : Nat} (h : rowTo l k = true) {i : Nat} (hi : i < k) : mayMsg (l.getD i default) = true ∧ (l.getD i default).again = false ∧ ((l.getD i default).pub == (l.getD 0 default).pub && (l.getD i default).key == (l.getD 0 default).key) = true ∧ (i == 0 || (l.getD i default).seq == (l.getD (i - 1) default).seq + 1) = true := by
  have h1 := rowTo_all h hi
  unfold rowE at h1
  simp only [Bool.and_eq_true, Bool.not_eq_true'] at h1
  exact ⟨h1.1.1.1, h1.1.1.2, by simpa using h1.1.2, h1.2⟩

theorem row_p (l : List Msg) : PFn Try.prog 65 [msgs l] (.v (.bool (mayRow l))) := by
  refine FnC.intro Try.func65 rfl Try.ntmps65 rfl ?_; intro off w0
  refine lenAt (sz := 5) (n := l.length) (g := gOf Msg.cells l) 0 rfl fun hn => ?_
  ((repeat refine S.seq ?_); refine S.region (L.go (T := tt) tt_ok rfl rfl ?sd36 ?_); (try (case sd36 => (repeat' (first | exact trivial | with_reducible refine zI ?_ ?_)))); try (refine L.nil ?_))
  ((repeat refine S.seq ?_); refine S.region (L.go (T := tt) tt_ok rfl rfl ?sd37 ?_); (try (case sd37 => (repeat' (first | exact trivial | exact zA | with_reducible refine zI ?_ ?_ | exact zB | exact zC | exact zE)))); try (refine L.nil ?_))
  ((repeat refine S.seq ?_); refine S.cond rfl (fun h0 => ?_) (fun h0 => ?_) <;> (try first | refine S.skip ?_ | refine S.exit ?_))
  · ((repeat refine S.seq ?_); refine S.region (L.go (T := tt) tt_ok rfl rfl ?sd38 ?_); (try (case sd38 => (repeat' (first | exact trivial | with_reducible refine zI ?_ ?_)))); try (refine L.nil ?_))
    ((repeat refine S.seq ?_); refine S.ret ?_)
    refine E.retP (T := tt) tt_ok rfl rfl (by (repeat' (first | exact trivial | with_reducible refine zI ?_ ?_))) (Imp.of_eq ?_)
    unfold mayRow
    rw [h0]
    rfl
  ((repeat refine S.seq ?_); refine S.region (L.go (T := tt) tt_ok rfl rfl ?sd39 ?_); (try (case sd39 => (repeat' (first | exact trivial | with_reducible refine zI ?_ ?_)))); try (refine L.nil ?_))
  refine S.block (S.loop (ι := { k : Nat // k ≤ l.length ∧ rowTo l k = true }) (fun k => [(15, .v (.int .i64 k.1)), (14, .v (.int .i64 l.length)), (13, msgs l), (0, msgs l)]) (fun _ => []) (fun k => l.length - k.1) ?_ ?_)
  · exact fun a w h => ⟨⟨0, Nat.zero_le _, rfl⟩, h.weak (by (repeat' (first | exact True.intro | exact Imp.refl _ | refine ⟨?_, ?_⟩))) (List.Sublist.refl _)⟩
  rintro ⟨k, hk, hno⟩
  dsimp only
  ((repeat refine S.seq ?_); refine S.region (L.go (T := tt) tt_ok rfl rfl ?sd40 ?_); (try (case sd40 => (repeat' (first | exact trivial | with_reducible refine zI ?_ ?_)))); try (refine L.nil ?_))
  ((repeat refine S.seq ?_); refine S.cond rfl (fun h => ?_) (fun h => ?_) <;> (try first | refine S.skip ?_ | refine S.exit ?_))
  · have h := of_dec h
    have hprev : (k : Int) > 0 → (l.getD ((k : Int) - 1).toNat default).seq ≤ 1073741824 ∧ 1 ≤ (l.getD ((k : Int) - 1).toNat default).seq := fun h0 => by
      have := rowTo_at hno (i := k - 1) (by omega)
      rw [show ((k : Int) - 1).toNat = k - 1 by omega]
      exact ⟨(mayMsg_le this.1).2, (mayMsg_le this.1).1⟩
    repeat refine S.seq ?_
    refine S.block ?_
    repeat refine S.seq ?_
    refine S.region (L.run (T := tt) 3 tt_ok rfl rfl ?side ?_)
    · (repeat' (first | exact trivial | with_reducible refine zI ?_ ?_ | rfl | omega))
    refine L.alloc (T := tt) 1 tt_ok rfl rfl rfl rfl rfl fun b => ?_
    (refine L.go (T := tt) tt_ok rfl rfl ?sd50 ?_; (try (case sd50 => (repeat' (first | exact trivial | with_reducible refine zI ?_ ?_)))); try (refine L.nil ?_))
    (refine L.store (T := tt) tt_ok rfl rfl rfl rfl rfl rfl ?sd54 ?_; (try (case sd54 => (repeat' (first | exact trivial | with_reducible refine zI ?_ ?_ | rfl | exact zN rfl)))))
    refine L.nil ?_
    repeat refine S.seq ?_
    refine S.draw [(0, [1]), (5, [1]), (8, [1]), (21, [1])] mixed ?_
    (refine H.ts (T := tt) [0] tt_ok (by kernel_rfl) (by kernel_rfl) (by kernel_rfl) (by intro ch a a' w h; obtain ⟨_, _, _, _, _, h, _⟩ := h; cases h) rfl ?sd59 ?_; (try (case sd59 => (repeat' (first | exact trivial | with_reducible refine zI ?_ ?_ | rfl | exact zN rfl)))))
    refine H.callP 1 rfl (by kernel_rfl) (by kernel_rfl) rfl rfl rfl rfl rfl rfl rfl ⟨trivial, by (repeat' (first | exact trivial | with_reducible refine zI ?_ ?_))⟩ rfl (by exact Imps.refl _) (mayMsg_p (l.getD k default)) ?_
    (refine H.ts (T := tt) [2, 3, 4, 5, 6, 7, 8, 10, 11, 12] tt_ok (by kernel_rfl) (by kernel_rfl) (by kernel_rfl) (by intro ch a a' w h; obtain ⟨_, _, _, _, _, h, _⟩ := h; cases h) rfl ?sd60 ?_; (try (case sd60 => (repeat' (first | exact trivial | exact zA | with_reducible refine zI ?_ ?_ | exact zB | rfl | exact zN rfl | omega | (simp; done) | (simp_all; omega) | intro _)))))
    refine H.callG 9 rfl (by kernel_rfl) (by kernel_rfl) rfl rfl rfl rfl rfl rfl rfl (fun _ => ⟨trivial, by (repeat' (first | exact trivial | with_reducible refine zI ?_ ?_ | omega))⟩) rfl (by exact Imps.refl _) (fun _ => of_p (l.getD k default)) ?_
    refine H.callG 13 rfl (by kernel_rfl) (by kernel_rfl) rfl rfl rfl rfl rfl rfl rfl (fun _ => ⟨trivial, by (repeat' (first | exact trivial | with_reducible refine zI ?_ ?_ | omega))⟩) rfl (by exact Imps.refl _) (fun _ => of_p (l.getD 0 default)) ?_
    (refine H.ts (T := tt) [14, 15, 16, 17, 18, 19, 20, 21, 22, 23, 24, 25, 26, 27, 28, 29, 30, 31] tt_ok (by kernel_rfl) (by kernel_rfl) (by kernel_rfl) (by intro ch a a' w h; obtain ⟨_, _, _, _, _, h, _⟩ := h; cases h) rfl ?sd61 ?_; (try (case sd61 => (repeat' (first | exact trivial | exact zA | with_reducible refine zI ?_ ?_ | exact zB | exact zC | exact zD | exact zE | (simp; done) | (unfold fits; simp_all; omega) | (simp_all; omega) | (simp_all; done))))))
    refine H.done (by kernel_rfl) ?_
    ((repeat refine S.seq ?_); refine S.cond rfl (fun hb => ?_) (fun hb => ?_) <;> (try first | refine S.skip ?_ | refine S.exit ?_))
    · clear hprev
      ((repeat refine S.seq ?_); refine S.region (L.go (T := tt) tt_ok rfl rfl ?sd41 ?_); (try (case sd41 => (repeat' (first | exact trivial | with_reducible refine zI ?_ ?_)))); try (refine L.nil ?_))
      ((repeat refine S.seq ?_); refine S.ret ?_)
      refine E.retP (T := tt) tt_ok rfl rfl (by (repeat' (first | exact trivial | with_reducible refine zI ?_ ?_))) (Imp.of_eq ?_)
      have hb : (!rowE l k) = true := (rowE_not l k).symm.trans hb
      have : rowTo l l.length = false := by
        cases hq : rowTo l l.length with
        | false => rfl
        | true => rw [rowTo_all hq (by omega)] at hb; cases hb
      simp [oneOf, mayRow, this]
    · clear hprev
      ((repeat refine S.seq ?_); refine S.region (L.go (T := tt) tt_ok rfl rfl ?sd42 ?_); (try (case sd42 => (repeat' (first | exact trivial | with_reducible refine zI ?_ ?_ | (unfold fits; omega))))); try (refine L.nil ?_))
      have hb : (!rowE l k) = false := (rowE_not l k).symm.trans hb
      exact fun a w hR => ⟨⟨k + 1, by omega, by rw [rowTo_succ, hno]; simpa using hb⟩, by simp only; omega, hR.weak (by (repeat' (first | exact True.intro | exact Imp.refl _ | refine ⟨?_, ?_⟩))) (by (repeat (first | exact List.nil_sublist _ | refine List.Sublist.cons_cons _ ?_ | refine List.Sublist.cons _ ?_)))⟩
  · have h := of_dec' h
    ((repeat refine S.seq ?_); refine S.region (L.go (T := tt) tt_ok rfl rfl ?sd43 ?_); (try (case sd43 => (repeat' (first | exact trivial | with_reducible refine zI ?_ ?_)))); try (refine L.nil ?_))
    ((repeat refine S.seq ?_); refine S.ret ?_)
    refine E.retP (T := tt) tt_ok rfl rfl (by (repeat' (first | exact trivial | with_reducible refine zI ?_ ?_))) (Imp.of_eq ?_)
    have : k = l.length := by omega
    subst this
    simp [oneOf, mayRow, hno, h0]

end Go.Proofs.Ytlbbcjlhnjnkeaa

/- The shard's marks by their names. -/
namespace Go.Proofs.Ytlbbcjlhnjnkeaa
set_option linter.unusedVariables false
set_option linter.unusedSimpArgs false
set_option maxHeartbeats 8000000
open Go.RowKit
open Go.Maps (Keyed)
set_option maxRecDepth 4000

instance bytesLawful : LawfulBEq ByteArray where
  eq_of_beq {a b} h := by
    obtain ⟨a⟩ := a; obtain ⟨b⟩ := b
    have h' : (a == b) = true := h
    rw [eq_of_beq h']
  rfl {a} := by
    obtain ⟨a⟩ := a
    show (a == a) = true
    exact beq_self_eq_true a

def markM (m : Mark) : Value × AV := (nameV m.pub m.key, .v (.int .i64 m.seq))
def marksM (l : List Mark) : List (Value × AV) := (l.map markM).reverse
def lastSeq (l : List Mark) (p : Int) (key : ByteArray) : Int := match l.reverse.find? (fun m => m.pub == p && m.key == key) with | some m => m.seq | none => 0
theorem mget_marks (p : Int) (key : ByteArray) : ∀ (r : List Mark), mget (r.map markM) (nameV p key) = (r.find? (fun m => m.pub == p && m.key == key)).map fun m => .v (.int .i64 m.seq)
  | [] => rfl
  | m :: r => by
    rw [List.map_cons, List.find?_cons]
    by_cases h : m.pub = p ∧ m.key = key
    · rw [show markM m = (nameV p key, .v (.int .i64 m.seq)) by rw [markM, h.1, h.2], mget_cons_same]
      simp [h.1, h.2]
    · have hne : nameV m.pub m.key ≠ nameV p key := fun e => h (nameV_inj.1 e)
      have hb : (m.pub == p && m.key == key) = false := by
        rw [Bool.and_eq_false_iff]
        by_cases h1 : m.pub = p
        · exact .inr (by simpa using fun h2 => h ⟨h1, h2⟩)
        · exact .inl (by simpa using h1)
      rw [markM, mget_cons_other _ _ hne, hb]
      exact mget_marks p key r
theorem look_marks (l : List Mark) (p : Int) (key : ByteArray) : mlook (marksM l) (nameV p key) (.int .i64 0) = .v (.int .i64 (lastSeq l p key)) := by
  unfold mlook marksM lastSeq
  rw [← List.map_reverse, mget_marks]
  cases l.reverse.find? (fun m => m.pub == p && m.key == key) <;> rfl
theorem marksM_succ {l : List Mark} {k : Nat} (h : k < l.length) : marksM (l.take (k + 1)) = markM (l.getD k default) :: marksM (l.take k) := by
  have : l[k]? = some l[k] := List.getElem?_eq_getElem h
  rw [marksM, List.take_add_one, this, List.getD_eq_getElem?_getD, this]
  simp only [Option.toList_some, Option.getD_some, List.map_append, List.map_cons, List.map_nil, List.reverse_append]
  rfl

def markMsg (m : Mark) : Msg := ⟨m.pub, m.seq, m.key, ByteArray.empty, false⟩
def marksE (l : List Mark) (k : Nat) : Bool := mayMsg (markMsg (l.getD k default)) && !decide (lastSeq (l.take k) (l.getD k default).pub (l.getD k default).key > 0)
def marksTo (l : List Mark) (k : Nat) : Bool := (List.range k).all (marksE l)
theorem marksTo_succ (l : List Mark) (k : Nat) : marksTo l (k + 1) = (marksTo l k && marksE l k) := by simp [marksTo, List.range_succ]
theorem marksTo_all {l : List Mark} {n k : Nat} (h : marksTo l n = true) (hk : k < n) : marksE l k = true := List.all_eq_true.1 h k (by simpa using hk)

theorem may_fit {m : Msg} (h : mayMsg m = true) : fitI m.pub ∧ fitS m.key ∧ fitS m.body := by
  simp only [mayMsg, Bool.and_eq_true, decide_eq_true_eq] at h
  unfold fitI fitS
  omega

theorem marks_p (l : List Mark) : FnC Try.prog 57 [marksA l] [] (fun r F' => (marksTo l l.length = true ∧ ∃ b, r = .tup [.ref 81 (.map (some b)), .v (.bool (decide ((l.length : Int) ≤ 64)))] ∧ F' = [(81, .map b (kOf Try.prog 95) (marksM l))]) ∨
    (marksTo l l.length = false ∧ r = .tup [.v (.map none), .v (.bool false)] ∧ F' = [])) := by
  refine FnC.intro Try.func57 rfl Try.ntmps57 rfl ?_; intro off w0
  refine lenAt (sz := 3) (n := l.length) (g := gOf Mark.cells l) 0 rfl fun hn => ?_
  ((repeat refine S.seq ?_); refine S.region (L.go (T := tt) tt_ok rfl rfl ?sd65 ?_); (try (case sd65 => (repeat' (first | exact trivial | with_reducible refine zI ?_ ?_)))); try (refine L.nil ?_))
  repeat refine S.seq ?_
  refine S.region (L.makeMap 81 95 rfl rfl rfl rfl fun b => ?_)
  (refine L.go (T := tt) tt_ok rfl rfl ?sd73 ?_; (try (case sd73 => (repeat' (first | exact trivial | with_reducible refine zI ?_ ?_)))); try (refine L.nil ?_))
  ((repeat refine S.seq ?_); refine S.region (L.go (T := tt) tt_ok rfl rfl ?sd66 ?_); (try (case sd66 => (repeat' (first | exact trivial | with_reducible refine zI ?_ ?_)))); try (refine L.nil ?_))
  refine S.block (S.loop (ι := { k : Nat // k ≤ l.length ∧ marksTo l k = true }) (fun k => [(10, .v (.int .i64 k.1)), (9, .v (.int .i64 l.length)), (8, marksA l), (4, .ref 81 (.map (some b))), (0, marksA l)])
    (fun k => [(81, .map b (kOf Try.prog 95) (marksM (l.take k.1)))]) (fun k => l.length - k.1) ?_ ?_)
  · exact fun a w h => ⟨⟨0, Nat.zero_le _, rfl⟩, h.weak (by (repeat' (first | exact True.intro | exact Imp.refl _ | refine ⟨?_, ?_⟩))) (List.Sublist.refl _)⟩
  rintro ⟨k, hk, hno⟩
  dsimp only
  ((repeat refine S.seq ?_); refine S.region (L.go (T := tt) tt_ok rfl rfl ?sd67 ?_); (try (case sd67 => (repeat' (first | exact trivial | with_reducible refine zI ?_ ?_)))); try (refine L.nil ?_))
  ((repeat refine S.seq ?_); refine S.cond rfl (fun h => ?_) (fun h => ?_) <;> (try first | refine S.skip ?_ | refine S.exit ?_))
  · have h := of_dec h
    repeat refine S.seq ?_
    refine S.block ?_
    repeat refine S.seq ?_
    refine S.region (L.run (T := tt) 2 tt_ok rfl rfl ?side ?_)
    · (repeat' (first | exact trivial | with_reducible refine zI ?_ ?_ | rfl | omega))
    refine L.alloc (T := tt) 1 tt_ok rfl rfl rfl rfl rfl fun b2 => ?_
    (refine L.store (T := tt) tt_ok rfl rfl rfl rfl rfl rfl ?sd76 ?_; (try (case sd76 => (repeat' (first | exact trivial | with_reducible refine zI ?_ ?_ | rfl | exact zN rfl)))))
    refine L.nil ?_
    ((repeat refine S.seq ?_); refine S.region (L.go (T := tt) tt_ok rfl rfl ?sd68 ?_); (try (case sd68 => (repeat' (first | exact trivial | with_reducible refine zI ?_ ?_ | rfl | exact zN rfl)))); try (refine L.nil ?_))
    refine L.callP rfl rfl rfl rfl rfl rfl rfl ⟨trivial, by (repeat' (first | exact trivial | with_reducible refine zI ?_ ?_))⟩ rfl (by exact Imps.refl _) (mayMsg_p (markMsg (l.getD k default))) ?_
    (refine L.go (T := tt) tt_ok rfl rfl ?sd74 ?_; (try (case sd74 => (repeat' (first | exact trivial | exact zA | with_reducible refine zI ?_ ?_ | (simp; done) | (simp [splice]; done))))); try (refine L.nil ?_))
    refine L.sureG (rd := [81]) (A := .v (.int .i64 (lastSeq (l.take k) (l.getD k default).pub (l.getD k default).key))) (fun hb => look_sure (T := tt) tt_ok kName rfl rfl (by kernel_rfl) rfl rfl rfl ?sd rfl (fun _ _ => rfl) rfl ?key (look_marks _ _ _)) rfl rfl rfl ?_
    · exact ⟨hb, hb⟩
    · have := may_fit (show mayMsg (markMsg (l.getD k default)) = true by simpa using hb)
      exact kName_ok this.1 this.2.1
    (refine L.go (T := tt) tt_ok rfl rfl ?sd75 ?_; (try (case sd75 => (repeat' (first | exact trivial | with_reducible refine zI ?_ ?_ | exact zB | exact zE)))); try (refine L.nil ?_))
    ((repeat refine S.seq ?_); refine S.cond rfl (fun hb => ?_) (fun hb => ?_) <;> (try first | refine S.skip ?_ | refine S.exit ?_))
    · ((repeat refine S.seq ?_); refine S.region (L.go (T := tt) tt_ok rfl rfl ?sd69 ?_); (try (case sd69 => (repeat' (first | exact trivial | with_reducible refine zI ?_ ?_)))); try (refine L.nil ?_))
      ((repeat refine S.seq ?_); refine S.ret ?_)
      refine E.ret (T := tt) tt_ok rfl rfl (by (repeat' (first | exact trivial | with_reducible refine zI ?_ ?_))) (Imp.refl _) (by (repeat (first | exact List.nil_sublist _ | refine List.Sublist.cons_cons _ ?_ | refine List.Sublist.cons _ ?_))) (.inr ⟨?_, rfl, rfl⟩)
      have he : marksE l k = false := by unfold marksE; rw [← Bool.not_eq_true'] at *; simpa using hb
      cases hq : marksTo l l.length with
      | false => rfl
      | true => rw [marksTo_all hq (by omega)] at he; cases he
    · have he : marksE l k = true := by
        simp only [Bool.or_eq_false_iff, Bool.not_eq_false'] at hb
        unfold marksE
        rw [hb.1, hb.2]; rfl
      have hf := may_fit (show mayMsg (markMsg (l.getD k default)) = true by simp only [Bool.or_eq_false_iff, Bool.not_eq_false'] at hb; exact hb.1)
      ((repeat refine S.seq ?_); refine S.region (L.go (T := tt) tt_ok rfl rfl ?sd70 ?_); (try (case sd70 => (repeat' (first | exact trivial | with_reducible refine zI ?_ ?_ | rfl | exact zN rfl)))); try (refine L.nil ?_))
      refine L.mapSet (T := tt) tt_ok kName rfl rfl rfl rfl rfl rfl rfl rfl (by (repeat' (first | exact trivial | with_reducible refine zI ?_ ?_))) rfl rfl (kName_ok hf.1 hf.2.1) (L.nil ?_)
      ((repeat refine S.seq ?_); refine S.region (L.go (T := tt) tt_ok rfl rfl ?sd71 ?_); (try (case sd71 => (repeat' (first | exact trivial | with_reducible refine zI ?_ ?_ | (unfold fits; omega))))); try (refine L.nil ?_))
      intro a w hR
      refine ⟨⟨k + 1, by omega, by rw [marksTo_succ, hno, he]; rfl⟩, by simp only; omega, ?_⟩
      dsimp only
      rw [marksM_succ (by omega)]
      exact hR.weak (by (repeat' (first | exact True.intro | exact Imp.refl _ | refine ⟨?_, ?_⟩))) (by (repeat (first | exact List.nil_sublist _ | refine List.Sublist.cons_cons _ ?_ | refine List.Sublist.cons _ ?_)))
  · have h := of_dec' h
    have : k = l.length := by omega
    subst this
    ((repeat refine S.seq ?_); refine S.region (L.go (T := tt) tt_ok rfl rfl ?sd72 ?_); (try (case sd72 => (repeat' (first | exact trivial | with_reducible refine zI ?_ ?_)))); try (refine L.nil ?_))
    ((repeat refine S.seq ?_); refine S.ret ?_)
    refine E.ret (T := tt) tt_ok rfl rfl (by (repeat' (first | exact trivial | with_reducible refine zI ?_ ?_))) (Imp.refl _) (List.Sublist.refl _) (.inl ⟨hno, b, rfl, ?_⟩)
    rw [List.take_length]

end Go.Proofs.Ytlbbcjlhnjnkeaa

/- Which shards may be. -/
namespace Go.Proofs.Ytlbbcjlhnjnkeaa
set_option linter.unusedVariables false
set_option linter.unusedSimpArgs false
set_option maxHeartbeats 8000000
open Go.RowKit
open Go.Maps (Keyed)
set_option maxRecDepth 4000

def Msg.mark (m : Msg) : Mark := ⟨m.pub, m.key, m.seq⟩
def keysM (l : List Held) : List (Value × AV) := (l.map fun h => (Value.string h.m.key, AV.v (.bool true))).reverse
def hasKey (l : List Held) (key : ByteArray) : Bool := l.any fun h => h.m.key == key
theorem mget_keys (key : ByteArray) : ∀ (r : List Held), mget (r.map fun h => (Value.string h.m.key, AV.v (.bool true))) (.string key) = if hasKey r key then some (.v (.bool true)) else none
  | [] => rfl
  | h :: r => by
    rw [List.map_cons, hasKey, List.any_cons]
    by_cases e : h.m.key = key
    · rw [e, mget_cons_same]; simp
    · rw [mget_cons_other _ _ (by simpa using e), mget_keys key r, hasKey]
      simp [e]
theorem look_keys (l : List Held) (key : ByteArray) : mlook (keysM l) (.string key) (.bool false) = .v (.bool (hasKey l key)) := by
  unfold mlook keysM
  rw [← List.map_reverse, mget_keys]
  have : hasKey l.reverse key = hasKey l key := by simp [hasKey]
  rw [this]
  cases hasKey l key <;> rfl
theorem keysM_succ {l : List Held} {k : Nat} (h : k < l.length) : keysM (l.take (k + 1)) = (Value.string (l.getD k default).m.key, AV.v (.bool true)) :: keysM (l.take k) := by
  have : l[k]? = some l[k] := List.getElem?_eq_getElem h
  rw [keysM, List.take_add_one, this, List.getD_eq_getElem?_getD, this]
  simp only [Option.toList_some, Option.getD_some, List.map_append, List.map_cons, List.map_nil, List.reverse_append]
  rfl

def tagTo (l : List Held) (k : Nat) : Int := if k = 0 then 0 else (l.getD (k - 1) default).tag
def heldMarks (l : List Held) : List Mark := l.map fun h => h.m.mark
theorem heldMarks_succ {l : List Held} {k : Nat} (h : k < l.length) : marksM (heldMarks (l.take (k + 1))) = markM (l.getD k default).m.mark :: marksM (heldMarks (l.take k)) := by
  have : l[k]? = some l[k] := List.getElem?_eq_getElem h
  rw [heldMarks, heldMarks, List.take_add_one, this, List.getD_eq_getElem?_getD, this]
  simp only [marksM, Option.toList_some, Option.getD_some, List.map_append, List.map_cons, List.map_nil, List.reverse_append]
  rfl

/-- A held one that may be, behind the others. -/
def heldE (s : Shard) (k : Nat) : Bool :=
  let h := s.held.getD k default
  !(decide (h.tag ≤ tagTo s.held k) || decide (h.tag ≥ s.next) || hasKey (s.held.take k) h.m.key || !mayMsg h.m || decide (lastSeq s.marks h.m.pub h.m.key < h.m.seq))
def heldTo (s : Shard) (k : Nat) : Bool := (List.range k).all (heldE s)
theorem heldTo_succ (s : Shard) (k : Nat) : heldTo s (k + 1) = (heldTo s k && heldE s k) := by simp [heldTo, List.range_succ]
theorem heldTo_all {s : Shard} {n k : Nat} (h : heldTo s n = true) (hk : k < n) : heldE s k = true := List.all_eq_true.1 h k (by simpa using hk)
theorem heldE_may {s : Shard} {k : Nat} (h : heldE s k = true) : mayMsg (s.held.getD k default).m = true := by
  unfold heldE at h
  simp only [Bool.not_eq_true', Bool.or_eq_false_iff, Bool.not_eq_false'] at h
  exact h.1.2
def readyE (s : Shard) (k : Nat) : Bool :=
  let m := s.ready.getD k default
  !(!mayMsg m || decide (lastSeq s.marks m.pub m.key < m.seq) || decide (lastSeq (heldMarks s.held ++ (s.ready.take k).map Msg.mark) m.pub m.key ≥ m.seq))
def readyTo (s : Shard) (k : Nat) : Bool := (List.range k).all (readyE s)
theorem readyTo_succ (s : Shard) (k : Nat) : readyTo s (k + 1) = (readyTo s k && readyE s k) := by simp [readyTo, List.range_succ]
theorem readyTo_all {s : Shard} {n k : Nat} (h : readyTo s n = true) (hk : k < n) : readyE s k = true := List.all_eq_true.1 h k (by simpa using hk)
theorem readyE_may {s : Shard} {k : Nat} (h : readyE s k = true) : mayMsg (s.ready.getD k default) = true := by
  unfold readyE at h
  simp only [Bool.not_eq_true', Bool.or_eq_false_iff, Bool.not_eq_false'] at h
  exact h.1.1
theorem readyMarks_succ {l : List Msg} {h : List Mark} {k : Nat} (hk : k < l.length) : marksM (h ++ (l.take (k + 1)).map Msg.mark) = markM (l.getD k default).mark :: marksM (h ++ (l.take k).map Msg.mark) := by
  have : l[k]? = some l[k] := List.getElem?_eq_getElem hk
  rw [List.take_add_one, this, List.getD_eq_getElem?_getD, this]
  simp only [marksM, Option.toList_some, Option.getD_some, List.map_append, List.map_cons, List.map_nil, List.reverse_append]
  rfl
def mayShard (s : Shard) : Bool := marksTo s.marks s.marks.length && decide ((s.marks.length : Int) ≤ 64) &&
  !(decide (s.next < 1) || decide (s.next > 1073741824) || decide ((s.ready.length : Int) + s.held.length > 48)) && heldTo s s.held.length && readyTo s s.ready.length

theorem may_p (s : Shard) (h1 : s.ready.length ≤ 1000) (h2 : s.held.length ≤ 1000) (hk : ∀ h ∈ s.held, fitS h.m.key) : PFn Try.prog 34 [s.av] (.v (.bool (mayShard s))) := by
  refine FnC.intro Try.func34 rfl Try.ntmps34 rfl ?_; intro off w0
  repeat refine S.seq ?_
  refine S.region ?_
  refine L.box 1 rfl rfl rfl rfl rfl trivial rfl fun b => ?_
  (refine L.go (T := tt) tt_ok rfl rfl ?sd91 ?_; (try (case sd91 => (repeat' (first | exact trivial | with_reducible refine zI ?_ ?_)))); try (refine L.nil ?_))
  ((repeat refine S.seq ?_); refine S.region (L.go (T := tt) tt_ok rfl rfl ?sd77 ?_); (try (case sd77 => (repeat' (first | exact trivial | with_reducible refine zI ?_ ?_ | rfl)))); try (refine L.nil ?_))
  refine L.call (G := []) (H := [(1, _)]) rfl rfl rfl rfl rfl rfl rfl ⟨trivial, by (repeat' (first | exact trivial | with_reducible refine zI ?_ ?_))⟩ rfl (by exact Imps.refl [marksA s.marks]) (List.Perm.refl _) (marks_p s.marks) ?_
  rintro r F' (⟨hm, b1, rfl, rfl⟩ | ⟨hm, rfl, rfl⟩)
  · (refine L.go (T := tt) tt_ok rfl rfl ?sd92 ?_; (try (case sd92 => (repeat' (first | exact trivial | with_reducible refine zI ?_ ?_)))); try (refine L.nil ?_))
    ((repeat refine S.seq ?_); refine S.region (L.go (T := tt) tt_ok rfl rfl ?sd78 ?_); (try (case sd78 => (repeat' (first | exact trivial | exact zA | with_reducible refine zI ?_ ?_ | exact zB | exact zC | exact zE | (simp; done) | (unfold fits; simp_all; omega))))); try (refine L.nil ?_))
    ((repeat refine S.seq ?_); refine S.cond rfl (fun h0 => ?_) (fun h0 => ?_) <;> (try first | refine S.skip ?_ | refine S.exit ?_))
    · ((repeat refine S.seq ?_); refine S.region (L.go (T := tt) tt_ok rfl rfl ?sd79 ?_); (try (case sd79 => (repeat' (first | exact trivial | with_reducible refine zI ?_ ?_)))); try (refine L.nil ?_))
      ((repeat refine S.seq ?_); refine S.ret ?_)
      refine E.retP (T := tt) tt_ok rfl rfl (by (repeat' (first | exact trivial | with_reducible refine zI ?_ ?_))) (Imp.of_eq ?_)
      have : (decide ((s.marks.length : Int) ≤ 64) && !(decide (s.next < 1) || decide (s.next > 1073741824) || decide ((s.ready.length : Int) + s.held.length > 48))) = false := by
        cases hq : decide ((s.marks.length : Int) ≤ 64) <;> rw [hq] at h0 <;> simp at h0 ⊢ <;> omega
      simp only [oneOf, mayShard]
      rw [Bool.and_assoc (marksTo _ _), this]
      simp
    repeat refine S.seq ?_
    refine S.region (L.makeMap 82 95 rfl rfl rfl rfl fun b2 => ?_)
    (refine L.go (T := tt) tt_ok rfl rfl ?sd93 ?_; (try (case sd93 => (repeat' (first | exact trivial | with_reducible refine zI ?_ ?_)))); try (refine L.nil ?_))
    repeat refine S.seq ?_
    refine S.region (L.makeMap 83 9 rfl rfl rfl rfl fun b3 => ?_)
    (refine L.go (T := tt) tt_ok rfl rfl ?sd94 ?_; (try (case sd94 => (repeat' (first | exact trivial | with_reducible refine zI ?_ ?_)))); try (refine L.nil ?_))
    ((repeat refine S.seq ?_); refine S.region (L.go (T := tt) tt_ok rfl rfl ?sd80 ?_); (try (case sd80 => (repeat' (first | exact trivial | with_reducible refine zI ?_ ?_ | rfl)))); try (refine L.nil ?_))
    repeat refine S.seq ?_
    refine S.block (S.loop (ι := { k : Nat // k ≤ s.held.length ∧ heldTo s k = true })
      (fun k => [(45, .v (.int .i64 k.1)), (44, .v (.int .i64 s.held.length)), (43, helds s.held), (7, .ref 83 (.map (some b3))), (6, .v (.int .i64 (tagTo s.held k.1))), (5, .ref 82 (.map (some b2))), (3, .ref 81 (.map (some b1))), (1, .ptr 1 b 0)])
      (fun k => [(83, .map b3 (kOf Try.prog 9) (keysM (s.held.take k.1))), (82, .map b2 (kOf Try.prog 95) (marksM (heldMarks (s.held.take k.1)))), (81, .map b1 (kOf Try.prog 95) (marksM s.marks)), (1, .blk b 29 s.cells)])
      (fun k => s.held.length - k.1) ?_ ?_)
    · exact fun a w h => ⟨⟨0, Nat.zero_le _, rfl⟩, h.weak (by (repeat' (first | exact True.intro | exact Imp.refl _ | refine ⟨?_, ?_⟩))) (List.Sublist.refl _)⟩
    rintro ⟨k, hk1, hno⟩
    dsimp only
    ((repeat refine S.seq ?_); refine S.region (L.go (T := tt) tt_ok rfl rfl ?sd81 ?_); (try (case sd81 => (repeat' (first | exact trivial | with_reducible refine zI ?_ ?_)))); try (refine L.nil ?_))
    ((repeat refine S.seq ?_); refine S.cond rfl (fun h => ?_) (fun h => ?_) <;> (try first | refine S.skip ?_ | refine S.exit ?_))
    · have h := of_dec h
      have hkey : fitS (s.held.getD k default).m.key := hk _ (by
        have : s.held[k]? = some s.held[k] := List.getElem?_eq_getElem (by omega)
        rw [List.getD_eq_getElem?_getD, this]; exact List.getElem_mem _)
      repeat refine S.seq ?_
      refine S.block ?_
      repeat refine S.seq ?_
      refine S.region (L.run (T := tt) 2 tt_ok rfl rfl (by (repeat' (first | exact trivial | with_reducible refine zI ?_ ?_ | rfl | omega))) ?_)
      refine L.alloc (T := tt) 2 tt_ok rfl rfl rfl rfl rfl fun b4 => ?_
      (refine L.store (T := tt) tt_ok rfl rfl rfl rfl rfl rfl ?sd96 ?_; (try (case sd96 => (repeat' (first | exact trivial | with_reducible refine zI ?_ ?_ | rfl | exact zN rfl)))))
      refine L.nil ?_
      repeat refine S.seq ?_
      refine S.draw [(1, [2]), (6, [2]), (8, [1]), (15, [2]), (16, [83]), (20, [2]), (27, [2]), (29, [81]), (32, [2])] mixed ?_
      (refine H.ts (T := tt) [0, 1, 2, 3, 4, 5, 6, 7, 8, 9, 10, 11, 12, 13, 14, 15] tt_ok (by kernel_rfl) (by kernel_rfl) (by kernel_rfl) (by intro ch a a' w h; obtain ⟨_, _, _, _, _, h, _⟩ := h; cases h) rfl ?sd98 ?_; (try (case sd98 => (repeat' (first | exact trivial | exact zA | with_reducible refine zI ?_ ?_ | exact zB | exact zD | rfl | (simp; done))))))
      refine H.sG (A := .v (.bool (hasKey (s.held.take k) (s.held.getD k default).m.key))) 16 rfl (by kernel_rfl) (by kernel_rfl) (by kernel_rfl) (by kernel_rfl) (by kernel_rfl) (by intro ch a a' w h; obtain ⟨_, _, _, _, _, h, _⟩ := h; cases h) rfl rfl rfl (fun hb => look_sure (T := tt) tt_ok kStr rfl rfl (by kernel_rfl) rfl rfl rfl ?kk1 rfl (fun _ _ => rfl) rfl ?kk2 (look_keys _ _)) ?_
      · exact ⟨hb, hb⟩
      · exact kStr_ok hkey
      (refine H.ts (T := tt) [17, 18, 19, 20] tt_ok (by kernel_rfl) (by kernel_rfl) (by kernel_rfl) (by intro ch a a' w h; obtain ⟨_, _, _, _, _, h, _⟩ := h; cases h) rfl ?sd99 ?_; (try (case sd99 => (repeat' (first | exact trivial | exact zA | with_reducible refine zI ?_ ?_ | exact zB | rfl | exact zN rfl | omega | intro _)))))
      refine H.callG 21 rfl (by kernel_rfl) (by kernel_rfl) rfl rfl rfl rfl rfl rfl rfl (fun hb => ⟨trivial, hb, trivial⟩) rfl (by exact Imps.refl _) (fun _ => mayMsg_p (s.held.getD k default).m) ?_
      (refine H.ts (T := tt) [22, 23, 24, 25, 26, 27, 30, 31, 32] tt_ok (by kernel_rfl) (by kernel_rfl) (by kernel_rfl) (by intro ch a a' w h; obtain ⟨_, _, _, _, _, h, _⟩ := h; cases h) rfl ?sd100 ?_; (try (case sd100 => (repeat' (first | exact trivial | exact zA | with_reducible refine zI ?_ ?_ | exact zB | exact zC | rfl | exact zN rfl | omega | (simp; done) | intro _)))))
      refine H.callG 28 rfl (by kernel_rfl) (by kernel_rfl) rfl rfl rfl rfl rfl rfl rfl (fun hb => ⟨trivial, hb, trivial⟩) rfl (by exact Imps.refl _) (fun _ => of_p (s.held.getD k default).m) ?_
      refine H.sG (A := .v (.int .i64 (lastSeq s.marks (s.held.getD k default).m.pub (s.held.getD k default).m.key))) 29 rfl (by kernel_rfl) (by kernel_rfl) (by kernel_rfl) (by kernel_rfl) (by kernel_rfl) (by intro ch a a' w h; obtain ⟨_, _, _, _, _, h, _⟩ := h; cases h) rfl rfl rfl (fun hb => look_sure (T := tt) tt_ok kName rfl rfl (by kernel_rfl) rfl rfl rfl ⟨hb, hb⟩ rfl (fun _ _ => rfl) rfl ?kk3 (look_marks _ _ _)) ?_
      · have hm : mayMsg (s.held.getD k default).m = true := by
          simp only [Bool.or_eq_false_iff, Bool.not_eq_false'] at hb
          exact hb.2
        have hf := may_fit hm
        exact kName_ok hf.1 hf.2.1
      (refine H.ts (T := tt) [33, 34] tt_ok (by kernel_rfl) (by kernel_rfl) (by kernel_rfl) (by intro ch a a' w h; obtain ⟨_, _, _, _, _, h, _⟩ := h; cases h) rfl ?sd101 ?_; (try (case sd101 => (repeat' (first | exact trivial | with_reducible refine zI ?_ ?_ | exact zB | exact zD)))))
      refine H.done (by kernel_rfl) ?_
      ((repeat refine S.seq ?_); refine S.cond rfl (fun hb => ?_) (fun hb => ?_) <;> (try first | refine S.skip ?_ | refine S.exit ?_))
      · have he : (!heldE s k) = true := by unfold heldE; rw [Bool.not_not]; exact hb
        ((repeat refine S.seq ?_); refine S.region (L.go (T := tt) tt_ok rfl rfl ?sd82 ?_); (try (case sd82 => (repeat' (first | exact trivial | with_reducible refine zI ?_ ?_)))); try (refine L.nil ?_))
        ((repeat refine S.seq ?_); refine S.ret ?_)
        refine E.retP (T := tt) tt_ok rfl rfl (by (repeat' (first | exact trivial | with_reducible refine zI ?_ ?_))) (Imp.of_eq ?_)
        have : heldTo s s.held.length = false := by
          cases hq : heldTo s s.held.length with
          | false => rfl
          | true => rw [heldTo_all hq (by omega)] at he; cases he
        simp [oneOf, mayShard, this]
      · have he : (!heldE s k) = false := by unfold heldE; rw [Bool.not_not]; exact hb
        have hf := may_fit (heldE_may (by simpa using he))
        repeat refine S.seq ?_
        refine S.draw [(3, [2]), (6, [2]), (9, [2]), (12, [2])] mixed ?_
        (refine H.ts (T := tt) [0, 1, 2, 3, 4, 5, 6, 8, 9, 10, 11, 12] tt_ok (by kernel_rfl) (by kernel_rfl) (by kernel_rfl) (by intro ch a a' w h; obtain ⟨_, _, _, _, _, h, _⟩ := h; cases h) rfl ?sd102 ?_; (try (case sd102 => (repeat' (first | exact trivial | with_reducible refine zI ?_ ?_ | rfl | exact zN rfl)))))
        refine H.callP 7 rfl (by kernel_rfl) (by kernel_rfl) rfl rfl rfl rfl rfl rfl rfl ⟨trivial, by (repeat' (first | exact trivial | with_reducible refine zI ?_ ?_))⟩ rfl (by exact Imps.refl _) (of_p (s.held.getD k default).m) ?_
        (refine H.ts (T := tt) [13] tt_ok (by kernel_rfl) (by kernel_rfl) (by kernel_rfl) (by intro ch a a' w h; obtain ⟨_, _, _, _, _, h, _⟩ := h; cases h) rfl ?sd103 ?_; (try (case sd103 => (repeat' (first | exact trivial | with_reducible refine zI ?_ ?_)))))
        refine H.o1 14 rfl (by kernel_rfl) (by kernel_rfl) (O.mapSet (T := tt) tt_ok kStr rfl rfl rfl rfl rfl rfl rfl rfl (by (repeat' (first | exact trivial | with_reducible refine zI ?_ ?_))) rfl rfl (kStr_ok hkey)) (.inl (by kernel_rfl)) (by kernel_rfl) fun _ => ?_
        refine H.o1 15 rfl (by kernel_rfl) (by kernel_rfl) (O.mapSet (T := tt) tt_ok kName rfl rfl rfl rfl rfl rfl rfl rfl (by (repeat' (first | exact trivial | with_reducible refine zI ?_ ?_))) rfl rfl (kName_ok hf.1 hf.2.1)) (.inl (by kernel_rfl)) (by kernel_rfl) fun _ => ?_
        refine H.done (by kernel_rfl) ?_
        ((repeat refine S.seq ?_); refine S.region (L.go (T := tt) tt_ok rfl rfl ?sd83 ?_); (try (case sd83 => (repeat' (first | exact trivial | with_reducible refine zI ?_ ?_ | (unfold fits; omega))))); try (refine L.nil ?_))
        intro a w hR
        refine ⟨⟨k + 1, by omega, by rw [heldTo_succ, hno]; simpa using he⟩, by simp only; omega, ?_⟩
        dsimp only
        rw [keysM_succ (by omega), heldMarks_succ (by omega)]
        exact hR.weak (by (repeat' (first | exact True.intro | exact Imp.refl _ | refine ⟨?_, ?_⟩))) (by (repeat (first | exact List.nil_sublist _ | refine List.Sublist.cons_cons _ ?_ | refine List.Sublist.cons _ ?_)))
    · have h := of_dec' h
      have hkn : k = s.held.length := by omega
      subst hkn
      rw [List.take_length]
      ((repeat refine S.seq ?_); refine S.region (L.go (T := tt) tt_ok rfl rfl ?sd84 ?_); (try (case sd84 => (repeat' (first | exact trivial | with_reducible refine zI ?_ ?_ | rfl)))); try (refine L.nil ?_))
      repeat refine S.seq ?_
      refine S.block (S.loop (ι := { k : Nat // k ≤ s.ready.length ∧ readyTo s k = true })
        (fun k => [(101, .v (.int .i64 k.1)), (100, .v (.int .i64 s.ready.length)), (99, msgs s.ready), (5, .ref 82 (.map (some b2))), (3, .ref 81 (.map (some b1))), (1, .ptr 1 b 0)])
        (fun k => [(82, .map b2 (kOf Try.prog 95) (marksM (heldMarks s.held ++ (s.ready.take k.1).map Msg.mark))), (81, .map b1 (kOf Try.prog 95) (marksM s.marks)), (1, .blk b 29 s.cells)])
        (fun k => s.ready.length - k.1) ?_ ?_)
      · intro a w h
        refine ⟨⟨0, Nat.zero_le _, rfl⟩, ?_⟩
        dsimp only
        rw [show heldMarks s.held ++ (s.ready.take 0).map Msg.mark = heldMarks s.held by simp]
        exact h.weak (by (repeat' (first | exact True.intro | exact Imp.refl _ | refine ⟨?_, ?_⟩))) (by (repeat (first | exact List.nil_sublist _ | refine List.Sublist.cons_cons _ ?_ | refine List.Sublist.cons _ ?_)))
      rintro ⟨k, hk1, hnr⟩
      dsimp only
      ((repeat refine S.seq ?_); refine S.region (L.go (T := tt) tt_ok rfl rfl ?sd85 ?_); (try (case sd85 => (repeat' (first | exact trivial | with_reducible refine zI ?_ ?_)))); try (refine L.nil ?_))
      ((repeat refine S.seq ?_); refine S.cond rfl (fun h => ?_) (fun h => ?_) <;> (try first | refine S.skip ?_ | refine S.exit ?_))
      · have h := of_dec h
        repeat refine S.seq ?_
        refine S.block ?_
        repeat refine S.seq ?_
        refine S.region (L.run (T := tt) 2 tt_ok rfl rfl (by (repeat' (first | exact trivial | with_reducible refine zI ?_ ?_ | rfl | omega))) ?_)
        refine L.alloc (T := tt) 3 tt_ok rfl rfl rfl rfl rfl fun b4 => ?_
        (refine L.store (T := tt) tt_ok rfl rfl rfl rfl rfl rfl ?sd97 ?_; (try (case sd97 => (repeat' (first | exact trivial | with_reducible refine zI ?_ ?_ | rfl | exact zN rfl)))))
        refine L.nil ?_
        repeat refine S.seq ?_
        refine S.draw [(0, [3]), (5, [3]), (7, [81]), (9, [3]), (14, [3]), (16, [82]), (18, [3])] mixed ?_
        (refine H.ts (T := tt) [0] tt_ok (by kernel_rfl) (by kernel_rfl) (by kernel_rfl) (by intro ch a a' w h; obtain ⟨_, _, _, _, _, h, _⟩ := h; cases h) rfl ?sd104 ?_; (try (case sd104 => (repeat' (first | exact trivial | with_reducible refine zI ?_ ?_ | rfl | exact zN rfl)))))
        refine H.callP 1 rfl (by kernel_rfl) (by kernel_rfl) rfl rfl rfl rfl rfl rfl rfl ⟨trivial, by (repeat' (first | exact trivial | with_reducible refine zI ?_ ?_))⟩ rfl (by exact Imps.refl _) (mayMsg_p (s.ready.getD k default)) ?_
        (refine H.ts (T := tt) [2, 3, 4, 5, 8, 9] tt_ok (by kernel_rfl) (by kernel_rfl) (by kernel_rfl) (by intro ch a a' w h; obtain ⟨_, _, _, _, _, h, _⟩ := h; cases h) rfl ?sd105 ?_; (try (case sd105 => (repeat' (first | exact trivial | exact zA | with_reducible refine zI ?_ ?_ | rfl | exact zN rfl | (simp; done) | intro _)))))
        refine H.callG 6 rfl (by kernel_rfl) (by kernel_rfl) rfl rfl rfl rfl rfl rfl rfl (fun hb => ⟨trivial, hb, trivial⟩) rfl (by exact Imps.refl _) (fun _ => of_p (s.ready.getD k default)) ?_
        refine H.sG (A := .v (.int .i64 (lastSeq s.marks (s.ready.getD k default).pub (s.ready.getD k default).key))) 7 rfl (by kernel_rfl) (by kernel_rfl) (by kernel_rfl) (by kernel_rfl) (by kernel_rfl) (by intro ch a a' w h; obtain ⟨_, _, _, _, _, h, _⟩ := h; cases h) rfl rfl rfl (fun hb => look_sure (T := tt) tt_ok kName rfl rfl (by kernel_rfl) rfl rfl rfl ⟨hb, hb⟩ rfl (fun _ _ => rfl) rfl ?kk4 (look_marks _ _ _)) ?_
        · have hf := may_fit (show mayMsg (s.ready.getD k default) = true by simpa using hb)
          exact kName_ok hf.1 hf.2.1
        (refine H.ts (T := tt) [10, 11, 12, 13, 14, 17, 18] tt_ok (by kernel_rfl) (by kernel_rfl) (by kernel_rfl) (by intro ch a a' w h; obtain ⟨_, _, _, _, _, h, _⟩ := h; cases h) rfl ?sd106 ?_; (try (case sd106 => (repeat' (first | exact trivial | exact zA | with_reducible refine zI ?_ ?_ | exact zB | exact zD | rfl | exact zN rfl | (simp; done) | intro _)))))
        refine H.callG 15 rfl (by kernel_rfl) (by kernel_rfl) rfl rfl rfl rfl rfl rfl rfl (fun hb => ⟨trivial, hb, trivial⟩) rfl (by exact Imps.refl _) (fun _ => of_p (s.ready.getD k default)) ?_
        refine H.sG (A := .v (.int .i64 (lastSeq (heldMarks s.held ++ (s.ready.take k).map Msg.mark) (s.ready.getD k default).pub (s.ready.getD k default).key))) 16 rfl (by kernel_rfl) (by kernel_rfl) (by kernel_rfl) (by kernel_rfl) (by kernel_rfl) (by intro ch a a' w h; obtain ⟨_, _, _, _, _, h, _⟩ := h; cases h) rfl rfl rfl (fun hb => look_sure (T := tt) tt_ok kName rfl rfl (by kernel_rfl) rfl rfl rfl ⟨hb, hb⟩ rfl (fun _ _ => rfl) rfl ?kk5 (look_marks _ _ _)) ?_
        · have hm : mayMsg (s.ready.getD k default) = true := by
            simp only [Bool.or_eq_false_iff, Bool.not_eq_false'] at hb
            exact hb.1
          have hf := may_fit hm
          exact kName_ok hf.1 hf.2.1
        (refine H.ts (T := tt) [19, 20] tt_ok (by kernel_rfl) (by kernel_rfl) (by kernel_rfl) (by intro ch a a' w h; obtain ⟨_, _, _, _, _, h, _⟩ := h; cases h) rfl ?sd107 ?_; (try (case sd107 => (repeat' (first | exact trivial | with_reducible refine zI ?_ ?_ | exact zB | exact zD)))))
        refine H.done (by kernel_rfl) ?_
        ((repeat refine S.seq ?_); refine S.cond rfl (fun hb => ?_) (fun hb => ?_) <;> (try first | refine S.skip ?_ | refine S.exit ?_))
        · have he : (!readyE s k) = true := by unfold readyE; rw [Bool.not_not]; exact hb
          ((repeat refine S.seq ?_); refine S.region (L.go (T := tt) tt_ok rfl rfl ?sd86 ?_); (try (case sd86 => (repeat' (first | exact trivial | with_reducible refine zI ?_ ?_)))); try (refine L.nil ?_))
          ((repeat refine S.seq ?_); refine S.ret ?_)
          refine E.retP (T := tt) tt_ok rfl rfl (by (repeat' (first | exact trivial | with_reducible refine zI ?_ ?_))) (Imp.of_eq ?_)
          have : readyTo s s.ready.length = false := by
            cases hq : readyTo s s.ready.length with
            | false => rfl
            | true => rw [readyTo_all hq (by omega)] at he; cases he
          simp [oneOf, mayShard, this]
        · have he : (!readyE s k) = false := by unfold readyE; rw [Bool.not_not]; exact hb
          have hf := may_fit (readyE_may (by simpa using he))
          repeat refine S.seq ?_
          refine S.draw [(1, [3]), (4, [3])] mixed ?_
          (refine H.ts (T := tt) [0, 1, 3, 4] tt_ok (by kernel_rfl) (by kernel_rfl) (by kernel_rfl) (by intro ch a a' w h; obtain ⟨_, _, _, _, _, h, _⟩ := h; cases h) rfl ?sd108 ?_; (try (case sd108 => (repeat' (first | exact trivial | with_reducible refine zI ?_ ?_ | rfl | exact zN rfl)))))
          refine H.callP 2 rfl (by kernel_rfl) (by kernel_rfl) rfl rfl rfl rfl rfl rfl rfl ⟨trivial, by (repeat' (first | exact trivial | with_reducible refine zI ?_ ?_))⟩ rfl (by exact Imps.refl _) (of_p (s.ready.getD k default)) ?_
          refine H.o1 5 rfl (by kernel_rfl) (by kernel_rfl) (O.mapSet (T := tt) tt_ok kName rfl rfl rfl rfl rfl rfl rfl rfl (by (repeat' (first | exact trivial | with_reducible refine zI ?_ ?_))) rfl rfl (kName_ok hf.1 hf.2.1)) (.inl (by kernel_rfl)) (by kernel_rfl) fun _ => ?_
          refine H.done (by kernel_rfl) ?_
          ((repeat refine S.seq ?_); refine S.region (L.go (T := tt) tt_ok rfl rfl ?sd87 ?_); (try (case sd87 => (repeat' (first | exact trivial | with_reducible refine zI ?_ ?_ | (unfold fits; omega))))); try (refine L.nil ?_))
          intro a w hR
          refine ⟨⟨k + 1, by omega, by rw [readyTo_succ, hnr]; simpa using he⟩, by simp only; omega, ?_⟩
          dsimp only
          rw [readyMarks_succ (by omega)]
          exact hR.weak (by (repeat' (first | exact True.intro | exact Imp.refl _ | refine ⟨?_, ?_⟩))) (by (repeat (first | exact List.nil_sublist _ | refine List.Sublist.cons_cons _ ?_ | refine List.Sublist.cons _ ?_)))
      · have h := of_dec' h
        have hkn : k = s.ready.length := by omega
        subst hkn
        ((repeat refine S.seq ?_); refine S.region (L.go (T := tt) tt_ok rfl rfl ?sd88 ?_); (try (case sd88 => (repeat' (first | exact trivial | with_reducible refine zI ?_ ?_)))); try (refine L.nil ?_))
        ((repeat refine S.seq ?_); refine S.ret ?_)
        refine E.retP (T := tt) tt_ok rfl rfl (by (repeat' (first | exact trivial | with_reducible refine zI ?_ ?_))) (Imp.of_eq ?_)
        have h0' : decide ((s.marks.length : Int) ≤ 64) = true ∧ (decide (s.next < 1) || decide (s.next > 1073741824) || decide ((s.ready.length : Int) + s.held.length > 48)) = false := by
          cases hq : decide ((s.marks.length : Int) ≤ 64) <;> rw [hq] at h0 <;> simp at h0 ⊢ <;> omega
        simp only [oneOf, mayShard, hm, hno, hnr, h0'.1, h0'.2]
        rfl
  · (refine L.go (T := tt) tt_ok rfl rfl ?sd95 ?_; (try (case sd95 => (repeat' (first | exact trivial | with_reducible refine zI ?_ ?_)))); try (refine L.nil ?_))
    ((repeat refine S.seq ?_); refine S.region (L.go (T := tt) tt_ok rfl rfl ?sd89 ?_); (try (case sd89 => (repeat' (first | exact trivial | exact zA | with_reducible refine zI ?_ ?_ | exact zB | exact zC | exact zE | (simp; done))))); try (refine L.nil ?_))
    ((repeat refine S.seq ?_); refine S.cond rfl (fun h0 => ?_) (fun h0 => ?_) <;> (try first | refine S.skip ?_ | refine S.exit ?_))
    · ((repeat refine S.seq ?_); refine S.region (L.go (T := tt) tt_ok rfl rfl ?sd90 ?_); (try (case sd90 => (repeat' (first | exact trivial | with_reducible refine zI ?_ ?_)))); try (refine L.nil ?_))
      ((repeat refine S.seq ?_); refine S.ret ?_)
      refine E.retP (T := tt) tt_ok rfl rfl (by (repeat' (first | exact trivial | with_reducible refine zI ?_ ?_))) (Imp.of_eq ?_)
      simp [oneOf, mayShard, hm]
    · cases h0

end Go.Proofs.Ytlbbcjlhnjnkeaa

/- Shards frozen and thawed. -/
namespace Go.Proofs.Ytlbbcjlhnjnkeaa
set_option linter.unusedVariables false
set_option linter.unusedSimpArgs false
set_option maxHeartbeats 8000000
open Go.RowKit
set_option maxRecDepth 4000

/-- A shard whose lengths are small, and whose texts fit. -/
structure Shard.small (s : Shard) : Prop where
  ready : s.ready.length ≤ 1000
  held : s.held.length ≤ 1000
  keys : ∀ h ∈ s.held, fitS h.m.key

theorem may_marks {s : Shard} (h : mayShard s = true) : s.marks.length ≤ 64 := by
  simp only [mayShard, Bool.and_eq_true, decide_eq_true_eq] at h
  have := h.1.1.1.2
  omega

def setFrozen (s : Shard) (on : Bool) : Shard × Int := if !mayShard s then (s, 1) else if s.frozen == on then (s, 7) else ({ s with frozen := on }, 0)

theorem turn_p (s : Shard) (on : Bool) (hs : s.small) : PFn Try.prog 72 [s.av, .v (.bool on)] (.tup [(setFrozen s on).1.av, .v (.int .i64 (setFrozen s on).2)]) := by
  have ⟨h1, h2, hk⟩ := hs
  refine FnC.intro Try.func72 rfl Try.ntmps72 rfl ?_; intro off w0
  repeat refine S.seq ?_
  refine S.region ?_
  refine L.box 1 rfl rfl rfl rfl rfl trivial rfl fun b => ?_
  refine L.alloc (T := tt) 2 tt_ok rfl rfl rfl rfl rfl fun b2 => ?_
  (refine L.go (T := tt) tt_ok rfl rfl ?sd118 ?_; (try (case sd118 => (repeat' (first | exact trivial | with_reducible refine zI ?_ ?_)))); try (refine L.nil ?_))
  ((repeat refine S.seq ?_); refine S.region (L.go (T := tt) tt_ok rfl rfl ?sd109 ?_); (try (case sd109 => (repeat' (first | exact trivial | with_reducible refine zI ?_ ?_ | rfl | exact zN rfl)))); try (refine L.nil ?_))
  refine L.callP rfl rfl rfl rfl rfl rfl rfl ⟨trivial, by (repeat' (first | exact trivial | with_reducible refine zI ?_ ?_))⟩ rfl (by exact Imps.refl [s.av]) (may_p s h1 h2 hk) ?_
  (refine L.go (T := tt) tt_ok rfl rfl ?sd119 ?_; (try (case sd119 => (repeat' (first | exact trivial | with_reducible refine zI ?_ ?_)))); try (refine L.nil ?_))
  ((repeat refine S.seq ?_); refine S.cond rfl (fun h0 => ?_) (fun h0 => ?_) <;> (try first | refine S.skip ?_ | refine S.exit ?_))
  · ((repeat refine S.seq ?_); refine S.region (L.go (T := tt) tt_ok rfl rfl ?sd110 ?_); (try (case sd110 => (repeat' (first | exact trivial | with_reducible refine zI ?_ ?_ | rfl | exact zN rfl)))); try (refine L.nil ?_))
    (refine L.store (T := tt) tt_ok rfl rfl rfl rfl rfl rfl ?sd129 ?_; (try (case sd129 => (repeat' (first | exact trivial | with_reducible refine zI ?_ ?_ | rfl | exact zN rfl)))))
    (refine L.go (T := tt) tt_ok rfl rfl ?sd120 ?_; (try (case sd120 => (repeat' (first | exact trivial | with_reducible refine zI ?_ ?_)))); try (refine L.nil ?_))
    ((repeat refine S.seq ?_); refine S.ret ?_)
    refine E.retP (T := tt) tt_ok rfl rfl (by (repeat' (first | exact trivial | with_reducible refine zI ?_ ?_ | rfl | exact zN rfl))) (Imp.of_eq ?_)
    rw [setFrozen, if_pos h0]
    rfl
  have hm : mayShard s = true := by simpa using h0
  ((repeat refine S.seq ?_); refine S.region (L.go (T := tt) tt_ok rfl rfl ?sd111 ?_); (try (case sd111 => (repeat' (first | exact trivial | with_reducible refine zI ?_ ?_ | rfl)))); try (refine L.nil ?_))
  ((repeat refine S.seq ?_); refine S.cond rfl (fun h3 => ?_) (fun h3 => ?_) <;> (try first | refine S.skip ?_ | refine S.exit ?_))
  · ((repeat refine S.seq ?_); refine S.region (L.go (T := tt) tt_ok rfl rfl ?sd112 ?_); (try (case sd112 => (repeat' (first | exact trivial | with_reducible refine zI ?_ ?_ | rfl | exact zN rfl)))); try (refine L.nil ?_))
    (refine L.store (T := tt) tt_ok rfl rfl rfl rfl rfl rfl ?sd130 ?_; (try (case sd130 => (repeat' (first | exact trivial | with_reducible refine zI ?_ ?_ | rfl | exact zN rfl)))))
    (refine L.go (T := tt) tt_ok rfl rfl ?sd121 ?_; (try (case sd121 => (repeat' (first | exact trivial | with_reducible refine zI ?_ ?_)))); try (refine L.nil ?_))
    ((repeat refine S.seq ?_); refine S.ret ?_)
    refine E.retP (T := tt) tt_ok rfl rfl (by (repeat' (first | exact trivial | with_reducible refine zI ?_ ?_ | rfl | exact zN rfl))) (Imp.of_eq ?_)
    rw [setFrozen, if_neg (by simp [hm]), if_pos h3]
    rfl
  ((repeat refine S.seq ?_); refine S.region (L.go (T := tt) tt_ok rfl rfl ?sd113 ?_); (try (case sd113 => (repeat' (first | exact trivial | with_reducible refine zI ?_ ?_ | rfl | exact zN rfl)))); try (refine L.nil ?_))
  refine L.call (G := []) (H := [(2, _), (1, _)]) rfl rfl rfl rfl rfl rfl rfl ⟨trivial, by (repeat' (first | exact trivial | with_reducible refine zI ?_ ?_))⟩ rfl (by exact Imps.refl [s.av]) (List.Perm.refl _) (own_p s h1 h2 (by have := may_marks hm; omega)) ?_
  rintro r F' ⟨x, y, z, rfl, rfl⟩
  (refine L.store (T := tt) tt_ok rfl rfl rfl rfl rfl rfl ?sd131 ?_; (try (case sd131 => (repeat' (first | exact trivial | with_reducible refine zI ?_ ?_ | rfl | exact zN rfl)))))
  refine L.nil ?_
  ((repeat refine S.seq ?_); refine S.region (L.go (T := tt) tt_ok rfl rfl ?sd114 ?_); (try (case sd114 => (repeat' (first | exact trivial | with_reducible refine zI ?_ ?_)))); try (refine L.nil ?_))
  (refine L.store (T := tt) tt_ok rfl rfl rfl rfl rfl rfl ?sd132 ?_; (try (case sd132 => (repeat' (first | exact trivial | with_reducible refine zI ?_ ?_ | rfl | exact zN rfl)))))
  refine L.nil ?_
  ((repeat refine S.seq ?_); refine S.region (L.go (T := tt) tt_ok rfl rfl ?sd115 ?_); (try (case sd115 => (repeat' (first | exact trivial | with_reducible refine zI ?_ ?_ | rfl | exact zN rfl)))); try (refine L.nil ?_))
  (refine L.store (T := tt) tt_ok rfl rfl rfl rfl rfl rfl ?sd133 ?_; (try (case sd133 => (repeat' (first | exact trivial | with_reducible refine zI ?_ ?_ | rfl | exact zN rfl)))))
  (refine L.go (T := tt) tt_ok rfl rfl ?sd122 ?_; (try (case sd122 => (repeat' (first | exact trivial | with_reducible refine zI ?_ ?_)))); try (refine L.nil ?_))
  ((repeat refine S.seq ?_); refine S.ret ?_)
  refine freezeCell 2 2 91 rfl rfl rfl rfl (freezeCell 2 3 92 rfl rfl rfl rfl (freezeCell 2 4 93 rfl rfl rfl rfl ?_))
  refine E.retP (T := tt) tt_ok rfl rfl (by (repeat' (first | exact trivial | with_reducible refine zI ?_ ?_ | rfl | exact zN rfl))) (Imp.of_eq ?_)
  rw [setFrozen, if_neg (by simp [hm]), if_neg (by simp [h3])]
  rfl

theorem freeze_p (s : Shard) (hs : s.small) : PFn Try.prog 48 [s.av] (.tup [(setFrozen s true).1.av, .v (.int .i64 (setFrozen s true).2)]) := by
  refine FnC.intro Try.func48 rfl Try.ntmps48 rfl ?_; intro off w0
  repeat refine S.seq ?_
  refine S.region ?_
  refine L.box 1 rfl rfl rfl rfl rfl trivial rfl fun b => ?_
  refine L.alloc (T := tt) 2 tt_ok rfl rfl rfl rfl rfl fun b2 => ?_
  (refine L.go (T := tt) tt_ok rfl rfl ?sd123 ?_; (try (case sd123 => (repeat' (first | exact trivial | with_reducible refine zI ?_ ?_)))); try (refine L.nil ?_))
  ((repeat refine S.seq ?_); refine S.region (L.go (T := tt) tt_ok rfl rfl ?sd116 ?_); (try (case sd116 => (repeat' (first | exact trivial | with_reducible refine zI ?_ ?_ | rfl | exact zN rfl)))); try (refine L.nil ?_))
  refine L.callP rfl rfl rfl rfl rfl rfl rfl ⟨trivial, by (repeat' (first | exact trivial | with_reducible refine zI ?_ ?_))⟩ rfl (by exact Imps.refl [s.av, .v (.bool true)]) (turn_p s true hs) ?_
  (refine L.go (T := tt) tt_ok rfl rfl ?sd124 ?_; (try (case sd124 => (repeat' (first | exact trivial | with_reducible refine zI ?_ ?_)))); try (refine L.nil ?_))
  (refine L.store (T := tt) tt_ok rfl rfl rfl rfl rfl rfl ?sd134 ?_; (try (case sd134 => (repeat' (first | exact trivial | with_reducible refine zI ?_ ?_ | rfl | exact zN rfl)))))
  (refine L.go (T := tt) tt_ok rfl rfl ?sd125 ?_; (try (case sd125 => (repeat' (first | exact trivial | with_reducible refine zI ?_ ?_)))); try (refine L.nil ?_))
  ((repeat refine S.seq ?_); refine S.ret ?_)
  exact E.retP (T := tt) tt_ok rfl rfl (by (repeat' (first | exact trivial | with_reducible refine zI ?_ ?_ | rfl | exact zN rfl))) (Imp.refl _)

theorem thaw_p (s : Shard) (hs : s.small) : PFn Try.prog 49 [s.av] (.tup [(setFrozen s false).1.av, .v (.int .i64 (setFrozen s false).2)]) := by
  refine FnC.intro Try.func49 rfl Try.ntmps49 rfl ?_; intro off w0
  repeat refine S.seq ?_
  refine S.region ?_
  refine L.box 1 rfl rfl rfl rfl rfl trivial rfl fun b => ?_
  refine L.alloc (T := tt) 2 tt_ok rfl rfl rfl rfl rfl fun b2 => ?_
  (refine L.go (T := tt) tt_ok rfl rfl ?sd126 ?_; (try (case sd126 => (repeat' (first | exact trivial | with_reducible refine zI ?_ ?_)))); try (refine L.nil ?_))
  ((repeat refine S.seq ?_); refine S.region (L.go (T := tt) tt_ok rfl rfl ?sd117 ?_); (try (case sd117 => (repeat' (first | exact trivial | with_reducible refine zI ?_ ?_ | rfl | exact zN rfl)))); try (refine L.nil ?_))
  refine L.callP rfl rfl rfl rfl rfl rfl rfl ⟨trivial, by (repeat' (first | exact trivial | with_reducible refine zI ?_ ?_))⟩ rfl (by exact Imps.refl [s.av, .v (.bool false)]) (turn_p s false hs) ?_
  (refine L.go (T := tt) tt_ok rfl rfl ?sd127 ?_; (try (case sd127 => (repeat' (first | exact trivial | with_reducible refine zI ?_ ?_)))); try (refine L.nil ?_))
  (refine L.store (T := tt) tt_ok rfl rfl rfl rfl rfl rfl ?sd135 ?_; (try (case sd135 => (repeat' (first | exact trivial | with_reducible refine zI ?_ ?_ | rfl | exact zN rfl)))))
  (refine L.go (T := tt) tt_ok rfl rfl ?sd128 ?_; (try (case sd128 => (repeat' (first | exact trivial | with_reducible refine zI ?_ ?_)))); try (refine L.nil ?_))
  ((repeat refine S.seq ?_); refine S.ret ?_)
  exact E.retP (T := tt) tt_ok rfl rfl (by (repeat' (first | exact trivial | with_reducible refine zI ?_ ?_ | rfl | exact zN rfl))) (Imp.refl _)

end Go.Proofs.Ytlbbcjlhnjnkeaa

/- Messages, marks, shards that come in. -/
namespace Go.Proofs.Ytlbbcjlhnjnkeaa
set_option linter.unusedVariables false
set_option linter.unusedSimpArgs false
set_option maxHeartbeats 8000000
open Go.RowKit

theorem u_int : Try.prog.underlying 3 = some (.int .i64) := by kernel_rfl
theorem u_str : Try.prog.underlying 9 = some .string := by kernel_rfl
theorem u_bool : Try.prog.underlying 4 = some .bool := by kernel_rfl
theorem r_int : RdP Try.prog 3 (fun z : Int => [.v (.int .i64 z)]) fitI := (rd_int u_int).map id (fun _ => rfl) fun _ h => wf_fit h
theorem r_str : RdP Try.prog 9 (fun z : ByteArray => [.v (.string z)]) fitS := (rd_str u_str).map id (fun _ => rfl) fun d h => by have h : d.size ≤ 2 ^ 63 - 1 := h; unfold fitS; simp only [id]; omega
theorem r_bool : RdP Try.prog 4 (fun z : Bool => [.v (.bool z)]) (fun _ => True) := rd_bool u_bool

theorem rd_msg : RdP Try.prog 41 Msg.cells Msg.ok :=
  (rd_struct (T := tt) tt_ok rfl rfl rfl (rdf_cons r_int (rdf_cons r_int (rdf_cons r_str (rdf_cons r_str (rdf_cons r_bool rdf_nil)))))).map (fun d => ⟨d.1, d.2.1, d.2.2.1, d.2.2.2.1, d.2.2.2.2.1⟩) (fun _ => rfl) fun d h => ⟨h.1, h.2.1, h.2.2.1, h.2.2.2.1⟩
theorem rd_mark : RdP Try.prog 60 Mark.cells Mark.ok :=
  (rd_struct (T := tt) tt_ok rfl rfl rfl (rdf_cons r_int (rdf_cons r_str (rdf_cons r_int rdf_nil)))).map (fun d => ⟨d.1, d.2.1, d.2.2.1⟩) (fun _ => rfl) fun d h => ⟨h.1, h.2.1, h.2.2.1⟩
theorem rd_held : RdP Try.prog 53 Held.cells Held.ok :=
  (rd_struct (T := tt) tt_ok rfl rfl rfl (rdf_cons r_int (rdf_cons rd_msg rdf_nil))).map (fun d => ⟨d.1, d.2.1⟩) (fun _ => rfl) fun d h => ⟨h.1, h.2.1⟩
theorem rd_msgs : RdP Try.prog 25 (fun l : List Msg => [msgs l]) (fun l => l.length ≤ maxLen ∧ ∀ m ∈ l, m.ok) := rd_slice (sz := 5) (by kernel_rfl) (by kernel_rfl) (fun _ => rfl) rd_msg
theorem rd_shard : RdP Try.prog 29 Shard.cells Shard.ok :=
  (rd_struct (T := tt) tt_ok rfl rfl rfl (rdf_cons r_bool (rdf_cons r_int (rdf_cons rd_msgs (rdf_cons (rd_slice (sz := 6) (by kernel_rfl) (by kernel_rfl) (fun _ => rfl) rd_held) (rdf_cons (rd_slice (sz := 3) (by kernel_rfl) (by kernel_rfl) (fun _ => rfl) rd_mark) rdf_nil)))))).map
    (fun d => ⟨d.1, d.2.1, d.2.2.1, d.2.2.2.1, d.2.2.2.2.1⟩) (fun _ => rfl) fun d h => ⟨h.2.1, h.2.2.1.2, h.2.2.2.1.2, h.2.2.2.2.1.2⟩

end Go.Proofs.Ytlbbcjlhnjnkeaa
