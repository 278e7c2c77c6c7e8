/- Texts of this proof, laid together: IdxMark, ClnMsg, ClnHeld, ClnMark, ShardA, Keys, ShardB, ApiEq, KeyLine, KeyLock, KeyTag. -/
import Derived.Test.YtfdneepgpekmiaaDoorMjC
import Derived.DeepKeys4
/- slices.IndexFunc, on abstract values. -/
namespace Go.Proofs.YtfdneepgpekmiaaDoor
set_option linter.unusedVariables false
set_option linter.unusedSimpArgs false
set_option maxHeartbeats 8000000
open Go.RowKit
set_option maxRecDepth 4000

theorem IdxMark {n f : Nat} {g : Nat → List AV} {caps : List AV} (p : Nat → Bool) (hf : callable Tryd.prog f = true) (hl : ∀ i, i < n → (g i).length = 3) (hp : ∀ i, i < n → PFn Tryd.prog f (.agg (g i) :: caps) (.v (.bool (p i)))) :
    PFn Tryd.prog 69 [.lst 3 n g, .fn (.func f) caps] (.v (.int .i64 (pidx p n))) := by
  refine FnC.intro Tryd.func69 rfl Tryd.ntmps69 rfl ?_; intro off w0
  refine lenAt (sz := 3) (n := n) (g := g) 0 rfl fun hn => ?_
  ((repeat refine S.seq ?_); refine S.region (L.go (T := tt) tt_ok rfl rfl ?sd16 ?_); (try (case sd16 => (repeat' (first | exact trivial | with_reducible refine zI ?_ ?_)))); try (refine L.nil ?_))
  ((repeat refine S.seq ?_); refine S.region (L.go (T := tt) tt_ok rfl rfl ?sd17 ?_); (try (case sd17 => (repeat' (first | exact trivial | with_reducible refine zI ?_ ?_)))); try (refine L.nil ?_))
  refine S.block (S.loop (ι := { k : Nat // k ≤ n ∧ ∀ j, j < k → p j = false }) (fun k => [(8, .v (.int .i64 k.1)), (7, .v (.int .i64 n)), (1, .fn (.func f) caps), (0, .lst 3 n g)]) (fun _ => []) (fun k => n - k.1) ?_ ?_)
  · exact fun a w h => ⟨⟨0, Nat.zero_le _, fun j hj => absurd hj (by omega)⟩, h.weak (by (repeat' (first | exact True.intro | exact Imp.refl _ | refine ⟨?_, ?_⟩))) (List.Sublist.refl _)⟩
  rintro ⟨k, hk, hno⟩
  dsimp only
  ((repeat refine S.seq ?_); refine S.region (L.go (T := tt) tt_ok rfl rfl ?sd18 ?_); (try (case sd18 => (repeat' (first | exact trivial | with_reducible refine zI ?_ ?_)))); try (refine L.nil ?_))
  refine S.seq (S.cond rfl (fun h => S.skip ?_) (fun h => S.exit ?_))
  · have h := of_dec h
    have hlk := hl k (by omega)
    refine S.seq (S.block ?_)
    ((repeat refine S.seq ?_); refine S.region (L.go (T := tt) tt_ok rfl rfl ?sd19 ?_); (try (case sd19 => (repeat' (first | exact trivial | with_reducible refine zI ?_ ?_)))); try (refine L.nil ?_))
    ((repeat refine S.seq ?_); refine S.region (L.go (T := tt) tt_ok rfl rfl ?sd20 ?_); (try (case sd20 => (repeat' (first | exact trivial | with_reducible refine zI ?_ ?_ | omega | assumption)))); try (refine L.nil ?_))
    refine L.callP rfl rfl rfl rfl rfl rfl rfl ⟨trivial, by (repeat' (first | exact trivial | with_reducible refine zI ?_ ?_))⟩ hf (Imps.refl (.agg (g k) :: caps)) (hp k (by omega)) (L.nil ?_)
    refine S.cond rfl (fun hb => ?_) (fun hb => S.skip ?_)
    · ((repeat refine S.seq ?_); refine S.region (L.go (T := tt) tt_ok rfl rfl ?sd21 ?_); (try (case sd21 => (repeat' (first | exact trivial | with_reducible refine zI ?_ ?_)))); try (refine L.nil ?_))
      refine S.ret (E.retP (T := tt) tt_ok rfl rfl (by (repeat' (first | exact trivial | with_reducible refine zI ?_ ?_))) (Imp.of_eq ?_))
      rw [pidx_some (by omega) hb hno]
      rfl
    · ((repeat refine S.seq ?_); refine S.region (L.go (T := tt) tt_ok rfl rfl ?sd22 ?_); (try (case sd22 => (repeat' (first | exact trivial | with_reducible refine zI ?_ ?_ | (unfold fits; omega))))); try (refine L.nil ?_))
      exact fun a w hR => ⟨⟨k + 1, by omega, fun j hj => by rcases Nat.lt_or_ge j k with h | h; exact hno j h; (have : j = k := by omega); subst this; exact hb⟩, by simp only; omega, hR.weak (by (repeat' (first | exact True.intro | exact Imp.refl _ | refine ⟨?_, ?_⟩))) (List.Sublist.refl _)⟩
  · have h := of_dec' h
    ((repeat refine S.seq ?_); refine S.region (L.go (T := tt) tt_ok rfl rfl ?sd23 ?_); (try (case sd23 => (repeat' (first | exact trivial | with_reducible refine zI ?_ ?_)))); try (refine L.nil ?_))
    refine S.ret (E.retP (T := tt) tt_ok rfl rfl (by (repeat' (first | exact trivial | with_reducible refine zI ?_ ?_))) (Imp.of_eq ?_))
    rw [pidx_none (fun j hj => hno j (by omega))]
    rfl

end Go.Proofs.YtfdneepgpekmiaaDoor

/- slices.Clone, on abstract values. -/
namespace Go.Proofs.YtfdneepgpekmiaaDoor
set_option linter.unusedVariables false
set_option linter.unusedSimpArgs false
set_option maxHeartbeats 8000000
open Go.RowKit
set_option maxRecDepth 4000

theorem ClnMsg {n : Nat} {g : Nat → List AV} (hb : n * 56 ≤ 140737488355328) (id : Nat) :
    FnC Tryd.prog 48 [.lst 5 n g] [] (fun r F' => ∃ x, r = .ref id x ∧ F' = [(id, .own x 42 5 n g)]) := by
  refine FnC.intro Tryd.func48 rfl Tryd.ntmps48 rfl ?_; intro off w0
  ((repeat refine S.seq ?_); refine S.region (L.go (T := tt) tt_ok rfl rfl ?sd24 ?_); (try (case sd24 => (repeat' (first | exact trivial | with_reducible refine zI ?_ ?_)))); try (refine L.nil ?_))
  repeat refine S.seq ?_
  refine S.region (L.run (T := tt) 1 tt_ok rfl rfl (by (repeat' (first | exact trivial | with_reducible refine zI ?_ ?_))) ?_)
  refine L.isNil (T := tt) tt_ok rfl rfl rfl rfl rfl rfl trivial fun b h0 => L.nil ?_
  ((repeat refine S.seq ?_); refine S.cond rfl (fun h => ?_) (fun h => ?_) <;> (try first | refine S.skip ?_ | refine S.exit ?_))
  · ((repeat refine S.seq ?_); refine S.region (L.go (T := tt) tt_ok rfl rfl ?sd25 ?_); (try (case sd25 => (repeat' (first | exact trivial | with_reducible refine zI ?_ ?_)))); try (refine L.nil ?_))
    have hn := h0 h
    subst hn
    exact S.ret (nilRow id 42 5 g (E.ret (T := tt) tt_ok rfl rfl (by (repeat' (first | exact trivial | with_reducible refine zI ?_ ?_))) (Imp.vref rfl) (List.Sublist.refl _) ⟨_, rfl, rfl⟩))
  · repeat refine S.seq ?_
    refine S.region (L.buildSlice (T := tt) 0 tt_ok rfl rfl rfl rfl rfl rfl (by decide) (by decide) rfl rfl (by (repeat' (first | exact trivial | with_reducible refine zI ?_ ?_))) fun x => ?_)
    refine L.run (T := tt) 1 tt_ok rfl rfl (by (repeat' (first | exact trivial | with_reducible refine zI ?_ ?_))) ?_
    refine L.append (T := tt) tt_ok rfl rfl rfl rfl rfl rfl rfl rfl rfl rfl (by (repeat' (first | exact trivial | with_reducible refine zI ?_ ?_ | rfl))) ⟨rfl, by decide, by decide⟩ (by simpa using hb) fun x1 => ?_
    (refine L.go (T := tt) tt_ok rfl rfl ?sd26 ?_; (try (case sd26 => (repeat' (first | exact trivial | with_reducible refine zI ?_ ?_)))); try (refine L.nil ?_))
    refine S.ret (rowsEq [(0, .own x1 42 5 n g)] (by simp [setF, joinG_zero]) (renum [(id, .own x1 42 5 n g)] 2 (.ref id x1) rfl rfl Imp.ref ?_))
    exact E.ret (T := tt) tt_ok rfl rfl (by (repeat' (first | exact trivial | with_reducible refine zI ?_ ?_))) (Imp.refl _) (List.Sublist.refl _) ⟨_, rfl, rfl⟩

end Go.Proofs.YtfdneepgpekmiaaDoor

/- slices.Clone, on abstract values. -/
namespace Go.Proofs.YtfdneepgpekmiaaDoor
set_option linter.unusedVariables false
set_option linter.unusedSimpArgs false
set_option maxHeartbeats 8000000
open Go.RowKit
set_option maxRecDepth 4000

theorem ClnHeld {n : Nat} {g : Nat → List AV} (hb : n * 64 ≤ 140737488355328) (id : Nat) :
    FnC Tryd.prog 71 [.lst 6 n g] [] (fun r F' => ∃ x, r = .ref id x ∧ F' = [(id, .own x 130 6 n g)]) := by
  refine FnC.intro Tryd.func71 rfl Tryd.ntmps71 rfl ?_; intro off w0
  ((repeat refine S.seq ?_); refine S.region (L.go (T := tt) tt_ok rfl rfl ?sd30 ?_); (try (case sd30 => (repeat' (first | exact trivial | with_reducible refine zI ?_ ?_)))); try (refine L.nil ?_))
  repeat refine S.seq ?_
  refine S.region (L.run (T := tt) 1 tt_ok rfl rfl (by (repeat' (first | exact trivial | with_reducible refine zI ?_ ?_))) ?_)
  refine L.isNil (T := tt) tt_ok rfl rfl rfl rfl rfl rfl trivial fun b h0 => L.nil ?_
  ((repeat refine S.seq ?_); refine S.cond rfl (fun h => ?_) (fun h => ?_) <;> (try first | refine S.skip ?_ | refine S.exit ?_))
  · ((repeat refine S.seq ?_); refine S.region (L.go (T := tt) tt_ok rfl rfl ?sd31 ?_); (try (case sd31 => (repeat' (first | exact trivial | with_reducible refine zI ?_ ?_)))); try (refine L.nil ?_))
    have hn := h0 h
    subst hn
    exact S.ret (nilRow id 130 6 g (E.ret (T := tt) tt_ok rfl rfl (by (repeat' (first | exact trivial | with_reducible refine zI ?_ ?_))) (Imp.vref rfl) (List.Sublist.refl _) ⟨_, rfl, rfl⟩))
  · repeat refine S.seq ?_
    refine S.region (L.buildSlice (T := tt) 0 tt_ok rfl rfl rfl rfl rfl rfl (by decide) (by decide) rfl rfl (by (repeat' (first | exact trivial | with_reducible refine zI ?_ ?_))) fun x => ?_)
    refine L.run (T := tt) 1 tt_ok rfl rfl (by (repeat' (first | exact trivial | with_reducible refine zI ?_ ?_))) ?_
    refine L.append (T := tt) tt_ok rfl rfl rfl rfl rfl rfl rfl rfl rfl rfl (by (repeat' (first | exact trivial | with_reducible refine zI ?_ ?_ | rfl))) ⟨rfl, by decide, by decide⟩ (by simpa using hb) fun x1 => ?_
    (refine L.go (T := tt) tt_ok rfl rfl ?sd32 ?_; (try (case sd32 => (repeat' (first | exact trivial | with_reducible refine zI ?_ ?_)))); try (refine L.nil ?_))
    refine S.ret (rowsEq [(0, .own x1 130 6 n g)] (by simp [setF, joinG_zero]) (renum [(id, .own x1 130 6 n g)] 2 (.ref id x1) rfl rfl Imp.ref ?_))
    exact E.ret (T := tt) tt_ok rfl rfl (by (repeat' (first | exact trivial | with_reducible refine zI ?_ ?_))) (Imp.refl _) (List.Sublist.refl _) ⟨_, rfl, rfl⟩

end Go.Proofs.YtfdneepgpekmiaaDoor

/- slices.Clone, on abstract values. -/
namespace Go.Proofs.YtfdneepgpekmiaaDoor
set_option linter.unusedVariables false
set_option linter.unusedSimpArgs false
set_option maxHeartbeats 8000000
open Go.RowKit
set_option maxRecDepth 4000

theorem ClnMark {n : Nat} {g : Nat → List AV} (hb : n * 32 ≤ 140737488355328) (id : Nat) :
    FnC Tryd.prog 72 [.lst 3 n g] [] (fun r F' => ∃ x, r = .ref id x ∧ F' = [(id, .own x 127 3 n g)]) := by
  refine FnC.intro Tryd.func72 rfl Tryd.ntmps72 rfl ?_; intro off w0
  ((repeat refine S.seq ?_); refine S.region (L.go (T := tt) tt_ok rfl rfl ?sd27 ?_); (try (case sd27 => (repeat' (first | exact trivial | with_reducible refine zI ?_ ?_)))); try (refine L.nil ?_))
  repeat refine S.seq ?_
  refine S.region (L.run (T := tt) 1 tt_ok rfl rfl (by (repeat' (first | exact trivial | with_reducible refine zI ?_ ?_))) ?_)
  refine L.isNil (T := tt) tt_ok rfl rfl rfl rfl rfl rfl trivial fun b h0 => L.nil ?_
  ((repeat refine S.seq ?_); refine S.cond rfl (fun h => ?_) (fun h => ?_) <;> (try first | refine S.skip ?_ | refine S.exit ?_))
  · ((repeat refine S.seq ?_); refine S.region (L.go (T := tt) tt_ok rfl rfl ?sd28 ?_); (try (case sd28 => (repeat' (first | exact trivial | with_reducible refine zI ?_ ?_)))); try (refine L.nil ?_))
    have hn := h0 h
    subst hn
    exact S.ret (nilRow id 127 3 g (E.ret (T := tt) tt_ok rfl rfl (by (repeat' (first | exact trivial | with_reducible refine zI ?_ ?_))) (Imp.vref rfl) (List.Sublist.refl _) ⟨_, rfl, rfl⟩))
  · repeat refine S.seq ?_
    refine S.region (L.buildSlice (T := tt) 0 tt_ok rfl rfl rfl rfl rfl rfl (by decide) (by decide) rfl rfl (by (repeat' (first | exact trivial | with_reducible refine zI ?_ ?_))) fun x => ?_)
    refine L.run (T := tt) 1 tt_ok rfl rfl (by (repeat' (first | exact trivial | with_reducible refine zI ?_ ?_))) ?_
    refine L.append (T := tt) tt_ok rfl rfl rfl rfl rfl rfl rfl rfl rfl rfl (by (repeat' (first | exact trivial | with_reducible refine zI ?_ ?_ | rfl))) ⟨rfl, by decide, by decide⟩ (by simpa using hb) fun x1 => ?_
    (refine L.go (T := tt) tt_ok rfl rfl ?sd29 ?_; (try (case sd29 => (repeat' (first | exact trivial | with_reducible refine zI ?_ ?_)))); try (refine L.nil ?_))
    refine S.ret (rowsEq [(0, .own x1 127 3 n g)] (by simp [setF, joinG_zero]) (renum [(id, .own x1 127 3 n g)] 2 (.ref id x1) rfl rfl Imp.ref ?_))
    exact E.ret (T := tt) tt_ok rfl rfl (by (repeat' (first | exact trivial | with_reducible refine zI ?_ ?_))) (Imp.refl _) (List.Sublist.refl _) ⟨_, rfl, rfl⟩

end Go.Proofs.YtfdneepgpekmiaaDoor

/- The shard's small functions. -/
namespace Go.Proofs.YtfdneepgpekmiaaDoor
set_option linter.unusedVariables false
set_option linter.unusedSimpArgs false
set_option maxHeartbeats 8000000
open Go.RowKit
set_option maxRecDepth 4000

theorem mayMsg_p (m : Msg) : PFn Tryd.prog 41 [m.av] (.v (.bool (mayMsg m))) := by
  refine FnC.intro Tryd.func41 rfl Tryd.ntmps41 rfl ?_; intro off w0
  repeat refine S.seq ?_
  refine S.region (L.box 0 rfl rfl rfl rfl rfl trivial rfl fun b => ?_)
  (refine L.go (T := tt) tt_ok rfl rfl ?sd51 ?_; (try (case sd51 => (repeat' (first | exact trivial | with_reducible refine zI ?_ ?_)))); try (refine L.nil ?_))
  ((repeat refine S.seq ?_); refine S.region (L.go (T := tt) tt_ok rfl rfl ?sd33 ?_); (try (case sd33 => (repeat' (first | exact trivial | exact zA | with_reducible refine zI ?_ ?_ | exact zB | exact zC | exact zE | rfl | (simp; done))))); try (refine L.nil ?_))
  ((repeat refine S.seq ?_); refine S.ret ?_)
  exact E.retP (T := tt) tt_ok rfl rfl (by (repeat' (first | exact trivial | with_reducible refine zI ?_ ?_))) (Imp.refl _)

theorem of_p (m : Msg) : PFn Tryd.prog 61 [m.av] (.agg [.v (.int .i64 m.pub), .v (.string m.key)]) := by
  refine FnC.intro Tryd.func61 rfl Tryd.ntmps61 rfl ?_; intro off w0
  repeat refine S.seq ?_
  refine S.region (L.box 0 rfl rfl rfl rfl rfl trivial rfl fun b => ?_)
  refine L.alloc (T := tt) 1 tt_ok rfl rfl rfl rfl rfl fun b2 => ?_
  refine L.nil ?_
  ((repeat refine S.seq ?_); refine S.region (L.go (T := tt) tt_ok rfl rfl ?sd34 ?_); (try (case sd34 => (repeat' (first | exact trivial | with_reducible refine zI ?_ ?_ | rfl | exact zN rfl)))); try (refine L.nil ?_))
  (refine L.store (T := tt) tt_ok rfl rfl rfl rfl rfl rfl ?sd58 ?_; (try (case sd58 => (repeat' (first | exact trivial | with_reducible refine zI ?_ ?_ | rfl | exact zN rfl)))))
  refine L.nil ?_
  ((repeat refine S.seq ?_); refine S.ret ?_)
  exact E.retP (T := tt) tt_ok rfl rfl (by simp [splice]) (Imp.refl _)

theorem new_p : PFn Tryd.prog 35 [] (Shard.av ⟨false, 1, [], [], []⟩) := by
  refine FnC.intro Tryd.func35 rfl Tryd.ntmps35 rfl ?_; intro off w0
  repeat refine S.seq ?_
  refine S.region ?_
  refine L.alloc (T := tt) 1 tt_ok rfl rfl rfl rfl rfl fun b => ?_
  refine L.nil ?_
  ((repeat refine S.seq ?_); refine S.region (L.go (T := tt) tt_ok rfl rfl ?sd35 ?_); (try (case sd35 => (repeat' (first | exact trivial | with_reducible refine zI ?_ ?_ | rfl | exact zN rfl)))); try (refine L.nil ?_))
  (refine L.store (T := tt) tt_ok rfl rfl rfl rfl rfl rfl ?sd59 ?_; (try (case sd59 => (repeat' (first | exact trivial | with_reducible refine zI ?_ ?_ | rfl | exact zN rfl)))))
  refine L.nil ?_
  ((repeat refine S.seq ?_); refine S.ret ?_)
  refine E.retP (T := tt) tt_ok rfl rfl (by (repeat' (first | exact trivial | with_reducible refine zI ?_ ?_ | rfl | exact zN rfl))) (Imp.agg ⟨Imp.refl _, Imp.refl _, Imp.nil _ _, Imp.nil _ _, Imp.nil _ _, trivial⟩)

/-- The place of a mark. -/
def markAt (l : List Mark) (pub : Int) (key : ByteArray) : Int := pidx (fun i => let m := l.getD i default; m.pub == pub && m.key == key) l.length

/-- The last number that was taken. -/
def lastOf (l : List Mark) (pub : Int) (key : ByteArray) : Int := if markAt l pub key < 0 then 0 else (l.getD (markAt l pub key).toNat default).seq

theorem mark1_p (m : Mark) (pub : Int) (key : ByteArray) : PFn Tryd.prog 70 [m.av, .pel 1 [.v (.int .i64 pub)], .pel 1 [.v (.string key)]] (.v (.bool (m.pub == pub && m.key == key))) := by
  refine FnC.intro Tryd.func70 rfl Tryd.ntmps70 rfl ?_; intro off w0
  repeat refine S.seq ?_
  refine S.region (L.box 0 rfl rfl rfl rfl rfl trivial rfl fun b => ?_)
  (refine L.go (T := tt) tt_ok rfl rfl ?sd52 ?_; (try (case sd52 => (repeat' (first | exact trivial | with_reducible refine zI ?_ ?_)))); try (refine L.nil ?_))
  ((repeat refine S.seq ?_); refine S.region (L.go (T := tt) tt_ok rfl rfl ?sd36 ?_); (try (case sd36 => (repeat' (first | exact trivial | exact zA | with_reducible refine zI ?_ ?_ | exact zB | exact zD | rfl | (simp; done))))); try (refine L.nil ?_))
  ((repeat refine S.seq ?_); refine S.ret ?_)
  exact E.retP (T := tt) tt_ok rfl rfl (by (repeat' (first | exact trivial | with_reducible refine zI ?_ ?_))) (Imp.refl _)

theorem mark_p (s : Shard) (pub : Int) (key : ByteArray) : PFn Tryd.prog 54 [s.av, .v (.int .i64 pub), .v (.string key)] (.v (.int .i64 (markAt s.marks pub key))) := by
  refine FnC.intro Tryd.func54 rfl Tryd.ntmps54 rfl ?_; intro off w0
  repeat refine S.seq ?_
  refine S.region (L.box 0 rfl rfl rfl rfl rfl trivial rfl fun b => ?_)
  refine L.box 1 rfl rfl rfl rfl rfl trivial rfl fun b1 => ?_
  refine L.box 2 rfl rfl rfl rfl rfl trivial rfl fun b2 => ?_
  (refine L.go (T := tt) tt_ok rfl rfl ?sd53 ?_; (try (case sd53 => (repeat' (first | exact trivial | with_reducible refine zI ?_ ?_)))); try (refine L.nil ?_))
  repeat refine S.seq ?_
  refine freezeBlk 4 1 rfl rfl rfl (freezeBlk 5 2 rfl rfl rfl ?_)
  ((repeat refine S.seq ?_); refine S.region (L.go (T := tt) tt_ok rfl rfl ?sd37 ?_); (try (case sd37 => (repeat' (first | exact trivial | with_reducible refine zI ?_ ?_ | rfl)))); try (refine L.nil ?_))
  refine L.callP rfl rfl rfl rfl rfl rfl rfl ⟨trivial, by (repeat' (first | exact trivial | with_reducible refine zI ?_ ?_))⟩ rfl (Imps.refl [marksA s.marks, .fn (.func 70) [.pel 1 [.v (.int .i64 pub)], .pel 1 [.v (.string key)]]])
    (IdxMark (fun i => let m := s.marks.getD i default; m.pub == pub && m.key == key) rfl (fun i hi => rfl) (fun i hi => mark1_p _ pub key)) ?_
  (refine L.go (T := tt) tt_ok rfl rfl ?sd54 ?_; (try (case sd54 => (repeat' (first | exact trivial | with_reducible refine zI ?_ ?_)))); try (refine L.nil ?_))
  ((repeat refine S.seq ?_); refine S.ret ?_)
  exact E.retP (T := tt) tt_ok rfl rfl (by (repeat' (first | exact trivial | with_reducible refine zI ?_ ?_))) (Imp.refl _)

theorem markAt_lt (l : List Mark) (pub : Int) (key : ByteArray) : -1 ≤ markAt l pub key ∧ markAt l pub key < l.length := by
  unfold markAt
  rcases pidx_cases (fun i => let m := l.getD i default; m.pub == pub && m.key == key) l.length with ⟨h, -⟩ | ⟨k, hk, -, -, h⟩ <;> rw [h] <;> omega

theorem last_p (s : Shard) (pub : Int) (key : ByteArray) : PFn Tryd.prog 55 [s.av, .v (.int .i64 pub), .v (.string key)] (.v (.int .i64 (lastOf s.marks pub key))) := by
  have hm := markAt_lt s.marks pub key
  refine FnC.intro Tryd.func55 rfl Tryd.ntmps55 rfl ?_; intro off w0
  repeat refine S.seq ?_
  refine S.region ?_
  refine L.box 1 rfl rfl rfl rfl rfl trivial rfl fun b => ?_
  (refine L.go (T := tt) tt_ok rfl rfl ?sd55 ?_; (try (case sd55 => (repeat' (first | exact trivial | with_reducible refine zI ?_ ?_)))); try (refine L.nil ?_))
  ((repeat refine S.seq ?_); refine S.region (L.go (T := tt) tt_ok rfl rfl ?sd38 ?_); (try (case sd38 => (repeat' (first | exact trivial | with_reducible refine zI ?_ ?_ | rfl | exact zN rfl)))); try (refine L.nil ?_))
  refine L.callP rfl rfl rfl rfl rfl rfl rfl ⟨trivial, by (repeat' (first | exact trivial | with_reducible refine zI ?_ ?_))⟩ rfl (by exact Imps.refl _) (mark_p s pub key) ?_
  (refine L.go (T := tt) tt_ok rfl rfl ?sd56 ?_; (try (case sd56 => (repeat' (first | exact trivial | with_reducible refine zI ?_ ?_)))); try (refine L.nil ?_))
  ((repeat refine S.seq ?_); refine S.region (L.go (T := tt) tt_ok rfl rfl ?sd39 ?_); (try (case sd39 => (repeat' (first | exact trivial | with_reducible refine zI ?_ ?_)))); try (refine L.nil ?_))
  ((repeat refine S.seq ?_); refine S.cond rfl (fun h => ?_) (fun h => ?_) <;> (try first | refine S.skip ?_ | refine S.exit ?_))
  · have h := of_dec h
    ((repeat refine S.seq ?_); refine S.region (L.go (T := tt) tt_ok rfl rfl ?sd40 ?_); (try (case sd40 => (repeat' (first | exact trivial | with_reducible refine zI ?_ ?_)))); try (refine L.nil ?_))
    ((repeat refine S.seq ?_); refine S.ret ?_)
    refine E.retP (T := tt) tt_ok rfl rfl (by (repeat' (first | exact trivial | with_reducible refine zI ?_ ?_))) (Imp.of_eq ?_)
    unfold lastOf
    rw [if_pos h]
    rfl
  · have h := of_dec' h
    ((repeat refine S.seq ?_); refine S.region (L.go (T := tt) tt_ok rfl rfl ?sd41 ?_); (try (case sd41 => (repeat' (first | exact trivial | with_reducible refine zI ?_ ?_ | rfl | omega)))); try (refine L.nil ?_))
    ((repeat refine S.seq ?_); refine S.ret ?_)
    refine E.retP (T := tt) tt_ok rfl rfl (by (repeat' (first | exact trivial | with_reducible refine zI ?_ ?_))) (Imp.of_eq ?_)
    unfold lastOf
    rw [if_neg h]
    rfl

/-- A shard that is its own: three rows. -/
theorem own_p (s : Shard) (h1 : s.ready.length ≤ 1000) (h2 : s.held.length ≤ 1000) (h3 : s.marks.length ≤ 1000) : FnC Tryd.prog 56 [s.av] [] (fun r F' => ∃ x y z, r = .agg [.v (.bool s.frozen), .v (.int .i64 s.next), .ref 91 x, .ref 92 y, .ref 93 z] ∧
    F' = [(93, .own z 127 3 s.marks.length (gOf Mark.cells s.marks)), (92, .own y 130 6 s.held.length (gOf Held.cells s.held)), (91, .own x 42 5 s.ready.length (gOf Msg.cells s.ready))]) := by
  refine FnC.intro Tryd.func56 rfl Tryd.ntmps56 rfl ?_; intro off w0
  repeat refine S.seq ?_
  refine S.region ?_
  refine L.box 1 rfl rfl rfl rfl rfl trivial rfl fun b => ?_
  refine L.alloc (T := tt) 2 tt_ok rfl rfl rfl rfl rfl fun b2 => ?_
  refine L.nil ?_
  repeat refine S.seq ?_
  refine S.draw [(1, [1]), (4, [1]), (7, [1])] mixed ?_
  (refine H.ts (T := tt) [0, 1, 3, 4, 6, 7] tt_ok (by kernel_rfl) (by kernel_rfl) (by kernel_rfl) (by intro ch a a' w h; obtain ⟨_, _, _, _, _, h, _⟩ := h; cases h) rfl ?sd62 ?_; (try (case sd62 => (repeat' (first | exact trivial | with_reducible refine zI ?_ ?_ | rfl)))))
  refine H.call 2 [] _ rfl (by kernel_rfl) (by kernel_rfl) rfl rfl rfl rfl rfl rfl rfl ⟨trivial, by (repeat' (first | exact trivial | with_reducible refine zI ?_ ?_))⟩ rfl (by exact Imps.refl [msgs s.ready]) (List.Perm.refl _) (ClnMsg (by omega) 91) rfl rfl ?_
  rintro r F' ⟨x, rfl, rfl⟩
  (refine H.ts (T := tt) [9] tt_ok (by kernel_rfl) (by kernel_rfl) (by kernel_rfl) (by intro ch a a' w h; obtain ⟨_, _, _, _, _, h, _⟩ := h; cases h) rfl ?sd63 ?_; (try (case sd63 => (repeat' (first | exact trivial | with_reducible refine zI ?_ ?_)))))
  refine H.call 5 [] _ rfl (by kernel_rfl) (by kernel_rfl) rfl rfl rfl rfl rfl rfl rfl ⟨trivial, by (repeat' (first | exact trivial | with_reducible refine zI ?_ ?_))⟩ rfl (by exact Imps.refl [helds s.held]) (List.Perm.refl _) (ClnHeld (by omega) 92) rfl rfl ?_
  rintro r F' ⟨y, rfl, rfl⟩
  refine H.call 8 [] _ rfl (by kernel_rfl) (by kernel_rfl) rfl rfl rfl rfl rfl rfl rfl ⟨trivial, by (repeat' (first | exact trivial | with_reducible refine zI ?_ ?_))⟩ rfl (by exact Imps.refl [marksA s.marks]) (List.Perm.refl _) (ClnMark (by omega) 93) rfl rfl ?_
  rintro r F' ⟨z, rfl, rfl⟩
  (refine H.store (T := tt) 10 rfl (by kernel_rfl) (by kernel_rfl) tt_ok rfl rfl rfl rfl rfl rfl ?sd69 rfl (by kernel_rfl) ?_; (try (case sd69 => (repeat' (first | exact trivial | with_reducible refine zI ?_ ?_ | rfl | exact zN rfl)))))
  (refine H.ts (T := tt) [11] tt_ok (by kernel_rfl) (by kernel_rfl) (by kernel_rfl) (by intro ch a a' w h; obtain ⟨_, _, _, _, _, h, _⟩ := h; cases h) rfl ?sd64 ?_; (try (case sd64 => (repeat' (first | exact trivial | with_reducible refine zI ?_ ?_)))))
  (refine H.store (T := tt) 12 rfl (by kernel_rfl) (by kernel_rfl) tt_ok rfl rfl rfl rfl rfl rfl ?sd70 rfl (by kernel_rfl) ?_; (try (case sd70 => (repeat' (first | exact trivial | with_reducible refine zI ?_ ?_ | rfl | exact zN rfl)))))
  (refine H.ts (T := tt) [13] tt_ok (by kernel_rfl) (by kernel_rfl) (by kernel_rfl) (by intro ch a a' w h; obtain ⟨_, _, _, _, _, h, _⟩ := h; cases h) rfl ?sd65 ?_; (try (case sd65 => (repeat' (first | exact trivial | with_reducible refine zI ?_ ?_)))))
  (refine H.store (T := tt) 14 rfl (by kernel_rfl) (by kernel_rfl) tt_ok rfl rfl rfl rfl rfl rfl ?sd71 rfl (by kernel_rfl) ?_; (try (case sd71 => (repeat' (first | exact trivial | with_reducible refine zI ?_ ?_ | rfl | exact zN rfl)))))
  refine H.done (by kernel_rfl) ?_
  ((repeat refine S.seq ?_); refine S.region (L.go (T := tt) tt_ok rfl rfl ?sd42 ?_); (try (case sd42 => (repeat' (first | exact trivial | with_reducible refine zI ?_ ?_ | rfl | exact zN rfl)))); try (refine L.nil ?_))
  (refine L.store (T := tt) tt_ok rfl rfl rfl rfl rfl rfl ?sd60 ?_; (try (case sd60 => (repeat' (first | exact trivial | with_reducible refine zI ?_ ?_ | rfl | exact zN rfl)))))
  refine L.nil ?_
  ((repeat refine S.seq ?_); refine S.ret ?_)
  exact E.ret (T := tt) tt_ok rfl rfl (by (repeat' (first | exact trivial | with_reducible refine zI ?_ ?_ | rfl | exact zN rfl))) (Imp.refl _) (by (repeat (first | exact List.nil_sublist _ | refine List.Sublist.cons_cons _ ?_ | refine List.Sublist.cons _ ?_))) ⟨x, y, z, rfl, rfl⟩

/-- 12.2: messages that may be put at once, as far as the first k. -/
def rowE (l : List Msg) (i : Nat) : Bool :=
  mayMsg (l.getD i default) && !(l.getD i default).again && ((l.getD i default).pub == (l.getD 0 default).pub && (l.getD i default).key == (l.getD 0 default).key) && (i == 0 || (l.getD i default).seq == (l.getD (i - 1) default).seq + 1)
def rowTo (l : List Msg) (k : Nat) : Bool := (List.range k).all (rowE l)
theorem rowTo_succ (l : List Msg) (k : Nat) : rowTo l (k + 1) = (rowTo l k && rowE l k) := by simp [rowTo, List.range_succ]
theorem rowE_not (l : List Msg) (k : Nat) : (!mayMsg (l.getD k default) || (l.getD k default).again || !((l.getD k default).pub == (l.getD 0 default).pub && ((l.getD k default).key == (l.getD 0 default).key && true)) ||
    decide ((k : Int) > 0) && (l.getD k default).seq != (l.getD ((k : Int) - 1).toNat default).seq + 1) = !rowE l k := by
  have e1 : decide ((k : Int) > 0) = !(k == 0) := by cases k <;> simp
  rw [e1, show ((k : Int) - 1).toNat = k - 1 by omega]
  unfold rowE bne
  generalize mayMsg (l.getD k default) = a
  generalize (l.getD k default).again = b
  generalize ((l.getD k default).pub == (l.getD 0 default).pub) = c
  generalize ((l.getD k default).key == (l.getD 0 default).key) = d
  generalize ((l.getD k default).seq == (l.getD (k - 1) default).seq + 1) = f
  generalize (k == 0) = e
  revert a b c d e f
  decide
theorem rowTo_all {l : List Msg} {n k : Nat} (h : rowTo l n = true) (hk : k < n) : rowE l k = true := List.all_eq_true.1 h k (by simpa using hk)
def mayRow (l : List Msg) : Bool := !(decide ((l.length : Int) < 1) || decide ((l.length : Int) > 8)) && rowTo l l.length

theorem mayMsg_le {m : Msg} (h : mayMsg m = true) : 1 ≤ m.seq ∧ m.seq ≤ 1073741824 := by
  simp only [mayMsg, Bool.and_eq_true, decide_eq_true_eq] at h
  omega
theorem rowTo_at {l : List Msg} {k : Nat} (h : rowTo l k = true) {i : Nat} (hi : i < k) : mayMsg (l.getD i default) = true ∧ (l.getD i default).again = false ∧ ((l.getD i default).pub == (l.getD 0 default).pub && (l.getD i default).key == (l.getD 0 default).key) = true ∧ (i == 0 || (l.getD i default).seq == (l.getD (i - 1) default).seq + 1) = true := by
  have h1 := rowTo_all h hi
  unfold rowE at h1
  simp only [Bool.and_eq_true, Bool.not_eq_true'] at h1
  exact ⟨h1.1.1.1, h1.1.1.2, by simpa using h1.1.2, h1.2⟩

theorem row_p (l : List Msg) : PFn Tryd.prog 53 [msgs l] (.v (.bool (mayRow l))) := by
  refine FnC.intro Tryd.func53 rfl Tryd.ntmps53 rfl ?_; intro off w0
  refine lenAt (sz := 5) (n := l.length) (g := gOf Msg.cells l) 0 rfl fun hn => ?_
  ((repeat refine S.seq ?_); refine S.region (L.go (T := tt) tt_ok rfl rfl ?sd43 ?_); (try (case sd43 => (repeat' (first | exact trivial | with_reducible refine zI ?_ ?_)))); try (refine L.nil ?_))
  ((repeat refine S.seq ?_); refine S.region (L.go (T := tt) tt_ok rfl rfl ?sd44 ?_); (try (case sd44 => (repeat' (first | exact trivial | exact zA | with_reducible refine zI ?_ ?_ | exact zB | exact zC | exact zE)))); try (refine L.nil ?_))
  ((repeat refine S.seq ?_); refine S.cond rfl (fun h0 => ?_) (fun h0 => ?_) <;> (try first | refine S.skip ?_ | refine S.exit ?_))
  · ((repeat refine S.seq ?_); refine S.region (L.go (T := tt) tt_ok rfl rfl ?sd45 ?_); (try (case sd45 => (repeat' (first | exact trivial | with_reducible refine zI ?_ ?_)))); try (refine L.nil ?_))
    ((repeat refine S.seq ?_); refine S.ret ?_)
    refine E.retP (T := tt) tt_ok rfl rfl (by (repeat' (first | exact trivial | with_reducible refine zI ?_ ?_))) (Imp.of_eq ?_)
    unfold mayRow
    rw [h0]
    rfl
  ((repeat refine S.seq ?_); refine S.region (L.go (T := tt) tt_ok rfl rfl ?sd46 ?_); (try (case sd46 => (repeat' (first | exact trivial | with_reducible refine zI ?_ ?_)))); try (refine L.nil ?_))
  refine S.block (S.loop (ι := { k : Nat // k ≤ l.length ∧ rowTo l k = true }) (fun k => [(15, .v (.int .i64 k.1)), (14, .v (.int .i64 l.length)), (13, msgs l), (0, msgs l)]) (fun _ => []) (fun k => l.length - k.1) ?_ ?_)
  · exact fun a w h => ⟨⟨0, Nat.zero_le _, rfl⟩, h.weak (by (repeat' (first | exact True.intro | exact Imp.refl _ | refine ⟨?_, ?_⟩))) (List.Sublist.refl _)⟩
  rintro ⟨k, hk, hno⟩
  dsimp only
  ((repeat refine S.seq ?_); refine S.region (L.go (T := tt) tt_ok rfl rfl ?sd47 ?_); (try (case sd47 => (repeat' (first | exact trivial | with_reducible refine zI ?_ ?_)))); try (refine L.nil ?_))
  ((repeat refine S.seq ?_); refine S.cond rfl (fun h => ?_) (fun h => ?_) <;> (try first | refine S.skip ?_ | refine S.exit ?_))
  · have h := of_dec h
    have hprev : (k : Int) > 0 → (l.getD ((k : Int) - 1).toNat default).seq ≤ 1073741824 ∧ 1 ≤ (l.getD ((k : Int) - 1).toNat default).seq := fun h0 => by
      have := rowTo_at hno (i := k - 1) (by omega)
      rw [show ((k : Int) - 1).toNat = k - 1 by omega]
      exact ⟨(mayMsg_le this.1).2, (mayMsg_le this.1).1⟩
    repeat refine S.seq ?_
    refine S.block ?_
    repeat refine S.seq ?_
    refine S.region (L.run (T := tt) 3 tt_ok rfl rfl ?side ?_)
    · (repeat' (first | exact trivial | with_reducible refine zI ?_ ?_ | rfl | omega))
    refine L.alloc (T := tt) 1 tt_ok rfl rfl rfl rfl rfl fun b => ?_
    (refine L.go (T := tt) tt_ok rfl rfl ?sd57 ?_; (try (case sd57 => (repeat' (first | exact trivial | with_reducible refine zI ?_ ?_)))); try (refine L.nil ?_))
    (refine L.store (T := tt) tt_ok rfl rfl rfl rfl rfl rfl ?sd61 ?_; (try (case sd61 => (repeat' (first | exact trivial | with_reducible refine zI ?_ ?_ | rfl | exact zN rfl)))))
    refine L.nil ?_
    repeat refine S.seq ?_
    refine S.draw [(0, [1]), (5, [1]), (8, [1]), (21, [1])] mixed ?_
    (refine H.ts (T := tt) [0] tt_ok (by kernel_rfl) (by kernel_rfl) (by kernel_rfl) (by intro ch a a' w h; obtain ⟨_, _, _, _, _, h, _⟩ := h; cases h) rfl ?sd66 ?_; (try (case sd66 => (repeat' (first | exact trivial | with_reducible refine zI ?_ ?_ | rfl | exact zN rfl)))))
    refine H.callP 1 rfl (by kernel_rfl) (by kernel_rfl) rfl rfl rfl rfl rfl rfl rfl ⟨trivial, by (repeat' (first | exact trivial | with_reducible refine zI ?_ ?_))⟩ rfl (by exact Imps.refl _) (mayMsg_p (l.getD k default)) ?_
    (refine H.ts (T := tt) [2, 3, 4, 5, 6, 7, 8, 10, 11, 12] tt_ok (by kernel_rfl) (by kernel_rfl) (by kernel_rfl) (by intro ch a a' w h; obtain ⟨_, _, _, _, _, h, _⟩ := h; cases h) rfl ?sd67 ?_; (try (case sd67 => (repeat' (first | exact trivial | exact zA | with_reducible refine zI ?_ ?_ | exact zB | rfl | exact zN rfl | omega | (simp; done) | (simp_all; omega) | intro _)))))
    refine H.callG 9 rfl (by kernel_rfl) (by kernel_rfl) rfl rfl rfl rfl rfl rfl rfl (fun _ => ⟨trivial, by (repeat' (first | exact trivial | with_reducible refine zI ?_ ?_ | omega))⟩) rfl (by exact Imps.refl _) (fun _ => of_p (l.getD k default)) ?_
    refine H.callG 13 rfl (by kernel_rfl) (by kernel_rfl) rfl rfl rfl rfl rfl rfl rfl (fun _ => ⟨trivial, by (repeat' (first | exact trivial | with_reducible refine zI ?_ ?_ | omega))⟩) rfl (by exact Imps.refl _) (fun _ => of_p (l.getD 0 default)) ?_
    (refine H.ts (T := tt) [14, 15, 16, 17, 18, 19, 20, 21, 22, 23, 24, 25, 26, 27, 28, 29, 30, 31] tt_ok (by kernel_rfl) (by kernel_rfl) (by kernel_rfl) (by intro ch a a' w h; obtain ⟨_, _, _, _, _, h, _⟩ := h; cases h) rfl ?sd68 ?_; (try (case sd68 => (repeat' (first | exact trivial | exact zA | with_reducible refine zI ?_ ?_ | exact zB | exact zC | exact zD | exact zE | (simp; done) | (unfold fits; simp_all; omega) | (simp_all; omega) | (simp_all; done))))))
    refine H.done (by kernel_rfl) ?_
    ((repeat refine S.seq ?_); refine S.cond rfl (fun hb => ?_) (fun hb => ?_) <;> (try first | refine S.skip ?_ | refine S.exit ?_))
    · clear hprev
      ((repeat refine S.seq ?_); refine S.region (L.go (T := tt) tt_ok rfl rfl ?sd48 ?_); (try (case sd48 => (repeat' (first | exact trivial | with_reducible refine zI ?_ ?_)))); try (refine L.nil ?_))
      ((repeat refine S.seq ?_); refine S.ret ?_)
      refine E.retP (T := tt) tt_ok rfl rfl (by (repeat' (first | exact trivial | with_reducible refine zI ?_ ?_))) (Imp.of_eq ?_)
      have hb : (!rowE l k) = true := (rowE_not l k).symm.trans hb
      have : rowTo l l.length = false := by
        cases hq : rowTo l l.length with
        | false => rfl
        | true => rw [rowTo_all hq (by omega)] at hb; cases hb
      simp [oneOf, mayRow, this]
    · clear hprev
      ((repeat refine S.seq ?_); refine S.region (L.go (T := tt) tt_ok rfl rfl ?sd49 ?_); (try (case sd49 => (repeat' (first | exact trivial | with_reducible refine zI ?_ ?_ | (unfold fits; omega))))); try (refine L.nil ?_))
      have hb : (!rowE l k) = false := (rowE_not l k).symm.trans hb
      exact fun a w hR => ⟨⟨k + 1, by omega, by rw [rowTo_succ, hno]; simpa using hb⟩, by simp only; omega, hR.weak (by (repeat' (first | exact True.intro | exact Imp.refl _ | refine ⟨?_, ?_⟩))) (by (repeat (first | exact List.nil_sublist _ | refine List.Sublist.cons_cons _ ?_ | refine List.Sublist.cons _ ?_)))⟩
  · have h := of_dec' h
    ((repeat refine S.seq ?_); refine S.region (L.go (T := tt) tt_ok rfl rfl ?sd50 ?_); (try (case sd50 => (repeat' (first | exact trivial | with_reducible refine zI ?_ ?_)))); try (refine L.nil ?_))
    ((repeat refine S.seq ?_); refine S.ret ?_)
    refine E.retP (T := tt) tt_ok rfl rfl (by (repeat' (first | exact trivial | with_reducible refine zI ?_ ?_))) (Imp.of_eq ?_)
    have : k = l.length := by omega
    subst this
    simp [oneOf, mayRow, hno, h0]

end Go.Proofs.YtfdneepgpekmiaaDoor

/- Keys of maps. -/
namespace Go.Proofs.YtfdneepgpekmiaaDoor
set_option linter.unusedVariables false
set_option linter.unusedSimpArgs false
set_option maxHeartbeats 8000000
open Go.RowKit
open Go.Maps (Keyed)
set_option maxRecDepth 20000

theorem laid : laidOutB Tryd.prog = true := by kernel_rfl
theorem kStr : Keyed Tryd.prog 9 := Go.Maps.string_keyed (by kernel_rfl)
theorem rowName : Nat.blt 137 Tryd.prog.types.size = true := by kernel_rfl
theorem sizeT : ∃ m, Tryd.prog.types.size = m + 1 := by
  have h := of_blt rowName
  generalize Tryd.prog.types.size = n at h ⊢
  exact ⟨n - 1, by omega⟩
theorem kName : Keyed Tryd.prog 137 := Keyed.of_law (deep_law_laid laid (m := 2) (by omega) (of_blt rowName) (by kernel_rfl) (by kernel_rfl))

theorem kStr_ok {b : ByteArray} (h : fitS b) : kOf Tryd.prog 9 (.string b) = true := by
  have hu : Tryd.prog.underlying 9 = some .string := by kernel_rfl
  simp only [kOf, keyOf, hu, mapKey, fitS] at h ⊢
  simp [maxLen, show b.size ≤ 2 ^ 63 - 1 by omega]

def nameV (pub : Int) (key : ByteArray) : Value := .agg #[.int .i64 pub, .string key]
theorem nameV_inj {p q : Int} {a b : ByteArray} : nameV p a = nameV q b ↔ p = q ∧ a = b := by simp [nameV]

theorem keyT : Tryd.prog.keyType 137 = true := by kernel_rfl
theorem cellsT : Tryd.prog.cellsOf 137 = 2 := by kernel_rfl
theorem cellsI : Tryd.prog.cellsOf 3 = 1 := by kernel_rfl
theorem cellsS : Tryd.prog.cellsOf 9 = 1 := by kernel_rfl

theorem kName_ok {p : Int} {b : ByteArray} (hp : fitI p) (h : fitS b) : kOf Tryd.prog 137 (nameV p b) = true := by
  have hs : Tryd.prog.underlying 9 = some .string := by kernel_rfl
  have hi : Tryd.prog.underlying 3 = some (.int .i64) := by kernel_rfl
  obtain ⟨l, hu, hfs⟩ := (TOk.told (P := Tryd.prog) (T := tt) tt_ok (t := 137) rfl).struct rfl
  obtain ⟨m, hm⟩ := sizeT
  obtain ⟨fl⟩ := l
  match fl, hfs with
  | [f1, f2], hfs =>
    simp only [fsOk, Bool.and_eq_true, beq_iff_eq, bne_iff_ne, ne_eq] at hfs
    obtain ⟨⟨⟨⟨⟨o1, t1⟩, -⟩, -⟩, n1⟩, ⟨⟨⟨⟨o2, t2⟩, -⟩, -⟩, n2⟩, -⟩ := hfs
    have hwf : (Lit.int .i64 p).wf = true := by
      have := hp.1; have := hp.2
      simp [Lit.wf, IntKind.min, IntKind.max, IntKind.signed, IntKind.bits]
      omega
    have hsz : b.size ≤ maxLen := by unfold fitS at h; simp only [maxLen]; omega
    have hform : (nameV p b).formed Tryd.prog 137 = true := by
      simp [Value.formed, nameV, hu, cellsT]
    simp only [kOf, keyOf, hu, keyT, hform, Bool.and_self, if_true, hm]
    simp [Program.keyLits, hu, nameV, Value.cells, cellsT, n1, n2, o1, t1, o2, t2, cellsI, cellsS, hs, hi, hwf, hsz]

end Go.Proofs.YtfdneepgpekmiaaDoor

/- The shard's marks by their names. -/
namespace Go.Proofs.YtfdneepgpekmiaaDoor
set_option linter.unusedVariables false
set_option linter.unusedSimpArgs false
set_option maxHeartbeats 8000000
open Go.RowKit
open Go.Maps (Keyed)
set_option maxRecDepth 4000

instance bytesLawful : LawfulBEq ByteArray where
  eq_of_beq {a b} h := by
    obtain ⟨a⟩ := a; obtain ⟨b⟩ := b
    have h' : (a == b) = true := h
    rw [eq_of_beq h']
  rfl {a} := by
    obtain ⟨a⟩ := a
    show (a == a) = true
    exact beq_self_eq_true a

def markM (m : Mark) : Value × AV := (nameV m.pub m.key, .v (.int .i64 m.seq))
def marksM (l : List Mark) : List (Value × AV) := (l.map markM).reverse
def lastSeq (l : List Mark) (p : Int) (key : ByteArray) : Int := match l.reverse.find? (fun m => m.pub == p && m.key == key) with | some m => m.seq | none => 0
theorem mget_marks (p : Int) (key : ByteArray) : ∀ (r : List Mark), mget (r.map markM) (nameV p key) = (r.find? (fun m => m.pub == p && m.key == key)).map fun m => .v (.int .i64 m.seq)
  | [] => rfl
  | m :: r => by
    rw [List.map_cons, List.find?_cons]
    by_cases h : m.pub = p ∧ m.key = key
    · rw [show markM m = (nameV p key, .v (.int .i64 m.seq)) by rw [markM, h.1, h.2], mget_cons_same]
      simp [h.1, h.2]
    · have hne : nameV m.pub m.key ≠ nameV p key := fun e => h (nameV_inj.1 e)
      have hb : (m.pub == p && m.key == key) = false := by
        rw [Bool.and_eq_false_iff]
        by_cases h1 : m.pub = p
        · exact .inr (by simpa using fun h2 => h ⟨h1, h2⟩)
        · exact .inl (by simpa using h1)
      rw [markM, mget_cons_other _ _ hne, hb]
      exact mget_marks p key r
theorem look_marks (l : List Mark) (p : Int) (key : ByteArray) : mlook (marksM l) (nameV p key) (.int .i64 0) = .v (.int .i64 (lastSeq l p key)) := by
  unfold mlook marksM lastSeq
  rw [← List.map_reverse, mget_marks]
  cases l.reverse.find? (fun m => m.pub == p && m.key == key) <;> rfl
theorem marksM_succ {l : List Mark} {k : Nat} (h : k < l.length) : marksM (l.take (k + 1)) = markM (l.getD k default) :: marksM (l.take k) := by
  have : l[k]? = some l[k] := List.getElem?_eq_getElem h
  rw [marksM, List.take_add_one, this, List.getD_eq_getElem?_getD, this]
  simp only [Option.toList_some, Option.getD_some, List.map_append, List.map_cons, List.map_nil, List.reverse_append]
  rfl

def markMsg (m : Mark) : Msg := ⟨m.pub, m.seq, m.key, ByteArray.empty, false⟩
def marksE (l : List Mark) (k : Nat) : Bool := mayMsg (markMsg (l.getD k default)) && !decide (lastSeq (l.take k) (l.getD k default).pub (l.getD k default).key > 0)
def marksTo (l : List Mark) (k : Nat) : Bool := (List.range k).all (marksE l)
theorem marksTo_succ (l : List Mark) (k : Nat) : marksTo l (k + 1) = (marksTo l k && marksE l k) := by simp [marksTo, List.range_succ]
theorem marksTo_all {l : List Mark} {n k : Nat} (h : marksTo l n = true) (hk : k < n) : marksE l k = true := List.all_eq_true.1 h k (by simpa using hk)

theorem may_fit {m : Msg} (h : mayMsg m = true) : fitI m.pub ∧ fitS m.key ∧ fitS m.body := by
  simp only [mayMsg, Bool.and_eq_true, decide_eq_true_eq] at h
  unfold fitI fitS
  omega

theorem marks_p (l : List Mark) : FnC Tryd.prog 60 [marksA l] [] (fun r F' => (marksTo l l.length = true ∧ ∃ b, r = .tup [.ref 81 (.map (some b)), .v (.bool (decide ((l.length : Int) ≤ 64)))] ∧ F' = [(81, .map b (kOf Tryd.prog 137) (marksM l))]) ∨
    (marksTo l l.length = false ∧ r = .tup [.v (.map none), .v (.bool false)] ∧ F' = [])) := by
  refine FnC.intro Tryd.func60 rfl Tryd.ntmps60 rfl ?_; intro off w0
  refine lenAt (sz := 3) (n := l.length) (g := gOf Mark.cells l) 0 rfl fun hn => ?_
  ((repeat refine S.seq ?_); refine S.region (L.go (T := tt) tt_ok rfl rfl ?sd72 ?_); (try (case sd72 => (repeat' (first | exact trivial | with_reducible refine zI ?_ ?_)))); try (refine L.nil ?_))
  repeat refine S.seq ?_
  refine S.region (L.makeMap 81 137 rfl rfl rfl rfl fun b => ?_)
  (refine L.go (T := tt) tt_ok rfl rfl ?sd80 ?_; (try (case sd80 => (repeat' (first | exact trivial | with_reducible refine zI ?_ ?_)))); try (refine L.nil ?_))
  ((repeat refine S.seq ?_); refine S.region (L.go (T := tt) tt_ok rfl rfl ?sd73 ?_); (try (case sd73 => (repeat' (first | exact trivial | with_reducible refine zI ?_ ?_)))); try (refine L.nil ?_))
  refine S.block (S.loop (ι := { k : Nat // k ≤ l.length ∧ marksTo l k = true }) (fun k => [(10, .v (.int .i64 k.1)), (9, .v (.int .i64 l.length)), (8, marksA l), (4, .ref 81 (.map (some b))), (0, marksA l)])
    (fun k => [(81, .map b (kOf Tryd.prog 137) (marksM (l.take k.1)))]) (fun k => l.length - k.1) ?_ ?_)
  · exact fun a w h => ⟨⟨0, Nat.zero_le _, rfl⟩, h.weak (by (repeat' (first | exact True.intro | exact Imp.refl _ | refine ⟨?_, ?_⟩))) (List.Sublist.refl _)⟩
  rintro ⟨k, hk, hno⟩
  dsimp only
  ((repeat refine S.seq ?_); refine S.region (L.go (T := tt) tt_ok rfl rfl ?sd74 ?_); (try (case sd74 => (repeat' (first | exact trivial | with_reducible refine zI ?_ ?_)))); try (refine L.nil ?_))
  ((repeat refine S.seq ?_); refine S.cond rfl (fun h => ?_) (fun h => ?_) <;> (try first | refine S.skip ?_ | refine S.exit ?_))
  · have h := of_dec h
    repeat refine S.seq ?_
    refine S.block ?_
    repeat refine S.seq ?_
    refine S.region (L.run (T := tt) 2 tt_ok rfl rfl ?side ?_)
    · (repeat' (first | exact trivial | with_reducible refine zI ?_ ?_ | rfl | omega))
    refine L.alloc (T := tt) 1 tt_ok rfl rfl rfl rfl rfl fun b2 => ?_
    (refine L.store (T := tt) tt_ok rfl rfl rfl rfl rfl rfl ?sd83 ?_; (try (case sd83 => (repeat' (first | exact trivial | with_reducible refine zI ?_ ?_ | rfl | exact zN rfl)))))
    refine L.nil ?_
    ((repeat refine S.seq ?_); refine S.region (L.go (T := tt) tt_ok rfl rfl ?sd75 ?_); (try (case sd75 => (repeat' (first | exact trivial | with_reducible refine zI ?_ ?_ | rfl | exact zN rfl)))); try (refine L.nil ?_))
    refine L.callP rfl rfl rfl rfl rfl rfl rfl ⟨trivial, by (repeat' (first | exact trivial | with_reducible refine zI ?_ ?_))⟩ rfl (by exact Imps.refl _) (mayMsg_p (markMsg (l.getD k default))) ?_
    (refine L.go (T := tt) tt_ok rfl rfl ?sd81 ?_; (try (case sd81 => (repeat' (first | exact trivial | exact zA | with_reducible refine zI ?_ ?_ | (simp; done) | (simp [splice]; done))))); try (refine L.nil ?_))
    refine L.sureG (rd := [81]) (A := .v (.int .i64 (lastSeq (l.take k) (l.getD k default).pub (l.getD k default).key))) (fun hb => look_sure (T := tt) tt_ok kName rfl rfl (by kernel_rfl) rfl rfl rfl ?sd rfl (fun _ _ => rfl) rfl ?key (look_marks _ _ _)) rfl rfl rfl ?_
    · exact ⟨hb, hb⟩
    · have := may_fit (show mayMsg (markMsg (l.getD k default)) = true by simpa using hb)
      exact kName_ok this.1 this.2.1
    (refine L.go (T := tt) tt_ok rfl rfl ?sd82 ?_; (try (case sd82 => (repeat' (first | exact trivial | with_reducible refine zI ?_ ?_ | exact zB | exact zE)))); try (refine L.nil ?_))
    ((repeat refine S.seq ?_); refine S.cond rfl (fun hb => ?_) (fun hb => ?_) <;> (try first | refine S.skip ?_ | refine S.exit ?_))
    · ((repeat refine S.seq ?_); refine S.region (L.go (T := tt) tt_ok rfl rfl ?sd76 ?_); (try (case sd76 => (repeat' (first | exact trivial | with_reducible refine zI ?_ ?_)))); try (refine L.nil ?_))
      ((repeat refine S.seq ?_); refine S.ret ?_)
      refine E.ret (T := tt) tt_ok rfl rfl (by (repeat' (first | exact trivial | with_reducible refine zI ?_ ?_))) (Imp.refl _) (by (repeat (first | exact List.nil_sublist _ | refine List.Sublist.cons_cons _ ?_ | refine List.Sublist.cons _ ?_))) (.inr ⟨?_, rfl, rfl⟩)
      have he : marksE l k = false := by unfold marksE; rw [← Bool.not_eq_true'] at *; simpa using hb
      cases hq : marksTo l l.length with
      | false => rfl
      | true => rw [marksTo_all hq (by omega)] at he; cases he
    · have he : marksE l k = true := by
        simp only [Bool.or_eq_false_iff, Bool.not_eq_false'] at hb
        unfold marksE
        rw [hb.1, hb.2]; rfl
      have hf := may_fit (show mayMsg (markMsg (l.getD k default)) = true by simp only [Bool.or_eq_false_iff, Bool.not_eq_false'] at hb; exact hb.1)
      ((repeat refine S.seq ?_); refine S.region (L.go (T := tt) tt_ok rfl rfl ?sd77 ?_); (try (case sd77 => (repeat' (first | exact trivial | with_reducible refine zI ?_ ?_ | rfl | exact zN rfl)))); try (refine L.nil ?_))
      refine L.mapSet (T := tt) tt_ok kName rfl rfl rfl rfl rfl rfl rfl rfl (by (repeat' (first | exact trivial | with_reducible refine zI ?_ ?_))) rfl rfl (kName_ok hf.1 hf.2.1) (L.nil ?_)
      ((repeat refine S.seq ?_); refine S.region (L.go (T := tt) tt_ok rfl rfl ?sd78 ?_); (try (case sd78 => (repeat' (first | exact trivial | with_reducible refine zI ?_ ?_ | (unfold fits; omega))))); try (refine L.nil ?_))
      intro a w hR
      refine ⟨⟨k + 1, by omega, by rw [marksTo_succ, hno, he]; rfl⟩, by simp only; omega, ?_⟩
      dsimp only
      rw [marksM_succ (by omega)]
      exact hR.weak (by (repeat' (first | exact True.intro | exact Imp.refl _ | refine ⟨?_, ?_⟩))) (by (repeat (first | exact List.nil_sublist _ | refine List.Sublist.cons_cons _ ?_ | refine List.Sublist.cons _ ?_)))
  · have h := of_dec' h
    have : k = l.length := by omega
    subst this
    ((repeat refine S.seq ?_); refine S.region (L.go (T := tt) tt_ok rfl rfl ?sd79 ?_); (try (case sd79 => (repeat' (first | exact trivial | with_reducible refine zI ?_ ?_)))); try (refine L.nil ?_))
    ((repeat refine S.seq ?_); refine S.ret ?_)
    refine E.ret (T := tt) tt_ok rfl rfl (by (repeat' (first | exact trivial | with_reducible refine zI ?_ ?_))) (Imp.refl _) (List.Sublist.refl _) (.inl ⟨hno, b, rfl, ?_⟩)
    rw [List.take_length]

end Go.Proofs.YtfdneepgpekmiaaDoor

/- Equality of messages, held ones, marks, as the code tells it. -/
namespace Go.Proofs.YtfdneepgpekmiaaDoor
set_option linter.unusedVariables false
set_option linter.unusedSimpArgs false
set_option maxHeartbeats 8000000
open Go.RowKit

theorem eqMsg (a b : Msg) : (a.pub == b.pub && (a.seq == b.seq && (a.key == b.key && (a.body == b.body && (a.again == b.again && true))))) = decide (a = b) := by
  rw [Bool.eq_iff_iff]
  cases a; cases b
  simp
theorem eqMark (a b : Mark) : (a.pub == b.pub && (a.key == b.key && (a.seq == b.seq && true))) = decide (a = b) := by
  rw [Bool.eq_iff_iff]
  cases a; cases b
  simp
theorem eqHeld (a b : Held) : (a.tag == b.tag && ((a.m.pub == b.m.pub && (a.m.seq == b.m.seq && (a.m.key == b.m.key && (a.m.body == b.m.body && (a.m.again == b.m.again && true))))) && true)) = decide (a = b) := by
  rw [eqMsg, Bool.eq_iff_iff]
  cases a; cases b
  simp

/-- Two lists agree so far. -/
def eqTo {α : Type} [DecidableEq α] [Inhabited α] (l m : List α) (k : Nat) : Bool := (List.range k).all fun i => decide (l.getD i default = m.getD i default)
theorem eqTo_succ {α : Type} [DecidableEq α] [Inhabited α] (l m : List α) (k : Nat) : eqTo l m (k + 1) = (eqTo l m k && decide (l.getD k default = m.getD k default)) := by simp [eqTo, List.range_succ]
theorem eqTo_eq {α : Type} [DecidableEq α] [Inhabited α] {l m : List α} (hl : l.length = m.length) (h : eqTo l m l.length = true) : l = m := by
  apply List.ext_getElem hl
  intro i h1 h2
  have := List.all_eq_true.1 h i (by simpa using h1)
  simp only [decide_eq_true_eq, List.getD_eq_getElem?_getD, List.getElem?_eq_getElem h1, List.getElem?_eq_getElem h2, Option.getD_some] at this
  exact this

end Go.Proofs.YtfdneepgpekmiaaDoor

/- Keys of a map whose keys are two numbers and a text. -/
namespace Go.Proofs.YtfdneepgpekmiaaDoor.KeyLine
set_option linter.unusedVariables false
set_option linter.unusedSimpArgs false
set_option maxHeartbeats 8000000
open Go.RowKit
open Go.Maps (Keyed)
set_option maxRecDepth 20000

theorem rowName : Nat.blt 157 Tryd.prog.types.size = true := by kernel_rfl
theorem sizeT : ∃ m, Tryd.prog.types.size = m + 1 := by
  have h := of_blt rowName
  generalize Tryd.prog.types.size = n at h ⊢
  exact ⟨n - 1, by omega⟩
theorem kName : Keyed Tryd.prog 157 := Keyed.of_law (deep_law_laid laid (m := 2) (by omega) (of_blt rowName) (by kernel_rfl) (by kernel_rfl))

theorem keyT : Tryd.prog.keyType 157 = true := by kernel_rfl
theorem cellsT : Tryd.prog.cellsOf 157 = 3 := by kernel_rfl
theorem cellsI : Tryd.prog.cellsOf 3 = 1 := by kernel_rfl
theorem cellsS : Tryd.prog.cellsOf 9 = 1 := by kernel_rfl

theorem kName_ok {p q : Int} {b : ByteArray} (hp : fitI p) (hq : fitI q) (h : fitS b) : kOf Tryd.prog 157 (.agg #[.int .i64 p, .int .i64 q, .string b]) = true := by
  have hs : Tryd.prog.underlying 9 = some .string := by kernel_rfl
  have hi : Tryd.prog.underlying 3 = some (.int .i64) := by kernel_rfl
  obtain ⟨l, hu, hfs⟩ := (TOk.told (P := Tryd.prog) (T := tt) tt_ok (t := 157) rfl).struct rfl
  obtain ⟨m, hm⟩ := sizeT
  obtain ⟨fl⟩ := l
  match fl, hfs with
  | [f1, f2, f3], hfs =>
    simp only [fsOk, Bool.and_eq_true, beq_iff_eq, bne_iff_ne, ne_eq] at hfs
    obtain ⟨⟨⟨⟨⟨o1, t1⟩, -⟩, -⟩, n1⟩, ⟨⟨⟨⟨o2, t2⟩, -⟩, -⟩, n2⟩, ⟨⟨⟨⟨o3, t3⟩, -⟩, -⟩, n3⟩, -⟩ := hfs
    have wf : ∀ {z : Int}, fitI z → (Lit.int .i64 z).wf = true := fun {z} h => by
      have := h.1; have := h.2
      simp [Lit.wf, IntKind.min, IntKind.max, IntKind.signed, IntKind.bits]
      omega
    have w1 := wf hp
    have w2 := wf hq
    have w3 : b.size ≤ maxLen := by unfold fitS at h; simp only [maxLen]; omega
    have hform : (Value.agg #[.int .i64 p, .int .i64 q, .string b]).formed Tryd.prog 157 = true := by
      simp [Value.formed, hu, cellsT]
    simp only [kOf, keyOf, hu, keyT, hform, Bool.and_self, if_true, hm]
    simp [Program.keyLits, hu, Value.cells, cellsT, n1, n2, n3, o1, t1, o2, t2, o3, t3, cellsI, cellsS, hs, hi, w1, w2, w3]

end Go.Proofs.YtfdneepgpekmiaaDoor.KeyLine

/- Keys of a map whose keys are a number and a text. -/
namespace Go.Proofs.YtfdneepgpekmiaaDoor.KeyLock
set_option linter.unusedVariables false
set_option linter.unusedSimpArgs false
set_option maxHeartbeats 8000000
open Go.RowKit
open Go.Maps (Keyed)
set_option maxRecDepth 20000

theorem rowName : Nat.blt 160 Tryd.prog.types.size = true := by kernel_rfl
theorem sizeT : ∃ m, Tryd.prog.types.size = m + 1 := by
  have h := of_blt rowName
  generalize Tryd.prog.types.size = n at h ⊢
  exact ⟨n - 1, by omega⟩
theorem kName : Keyed Tryd.prog 160 := Keyed.of_law (deep_law_laid laid (m := 2) (by omega) (of_blt rowName) (by kernel_rfl) (by kernel_rfl))

theorem keyT : Tryd.prog.keyType 160 = true := by kernel_rfl
theorem cellsT : Tryd.prog.cellsOf 160 = 2 := by kernel_rfl
theorem cellsI : Tryd.prog.cellsOf 3 = 1 := by kernel_rfl
theorem cellsS : Tryd.prog.cellsOf 9 = 1 := by kernel_rfl

theorem kName_ok {p : Int} {b : ByteArray} (hp : fitI p) (h : fitS b) : kOf Tryd.prog 160 (nameV p b) = true := by
  have hs : Tryd.prog.underlying 9 = some .string := by kernel_rfl
  have hi : Tryd.prog.underlying 3 = some (.int .i64) := by kernel_rfl
  obtain ⟨l, hu, hfs⟩ := (TOk.told (P := Tryd.prog) (T := tt) tt_ok (t := 160) rfl).struct rfl
  obtain ⟨m, hm⟩ := sizeT
  obtain ⟨fl⟩ := l
  match fl, hfs with
  | [f1, f2], hfs =>
    simp only [fsOk, Bool.and_eq_true, beq_iff_eq, bne_iff_ne, ne_eq] at hfs
    obtain ⟨⟨⟨⟨⟨o1, t1⟩, -⟩, -⟩, n1⟩, ⟨⟨⟨⟨o2, t2⟩, -⟩, -⟩, n2⟩, -⟩ := hfs
    have hwf : (Lit.int .i64 p).wf = true := by
      have := hp.1; have := hp.2
      simp [Lit.wf, IntKind.min, IntKind.max, IntKind.signed, IntKind.bits]
      omega
    have hsz : b.size ≤ maxLen := by unfold fitS at h; simp only [maxLen]; omega
    have hform : (nameV p b).formed Tryd.prog 160 = true := by
      simp [Value.formed, nameV, hu, cellsT]
    simp only [kOf, keyOf, hu, keyT, hform, Bool.and_self, if_true, hm]
    simp [Program.keyLits, hu, nameV, Value.cells, cellsT, n1, n2, o1, t1, o2, t2, cellsI, cellsS, hs, hi, hwf, hsz]

end Go.Proofs.YtfdneepgpekmiaaDoor.KeyLock

/- Keys of a map whose keys are two numbers and a third one. -/
namespace Go.Proofs.YtfdneepgpekmiaaDoor.KeyTag
set_option linter.unusedVariables false
set_option linter.unusedSimpArgs false
set_option maxHeartbeats 8000000
open Go.RowKit
open Go.Maps (Keyed)
set_option maxRecDepth 20000

theorem rowName : Nat.blt 162 Tryd.prog.types.size = true := by kernel_rfl
theorem sizeT : ∃ m, Tryd.prog.types.size = m + 1 := by
  have h := of_blt rowName
  generalize Tryd.prog.types.size = n at h ⊢
  exact ⟨n - 1, by omega⟩
theorem kName : Keyed Tryd.prog 162 := Keyed.of_law (deep_law_laid laid (m := 2) (by omega) (of_blt rowName) (by kernel_rfl) (by kernel_rfl))

theorem keyT : Tryd.prog.keyType 162 = true := by kernel_rfl
theorem cellsT : Tryd.prog.cellsOf 162 = 3 := by kernel_rfl
theorem cellsI : Tryd.prog.cellsOf 3 = 1 := by kernel_rfl
theorem cellsS : Tryd.prog.cellsOf 9 = 1 := by kernel_rfl

theorem kName_ok {p q : Int} {b : Int} (hp : fitI p) (hq : fitI q) (h : fitI b) : kOf Tryd.prog 162 (.agg #[.int .i64 p, .int .i64 q, .int .i64 b]) = true := by
  have hs : Tryd.prog.underlying 9 = some .string := by kernel_rfl
  have hi : Tryd.prog.underlying 3 = some (.int .i64) := by kernel_rfl
  obtain ⟨l, hu, hfs⟩ := (TOk.told (P := Tryd.prog) (T := tt) tt_ok (t := 162) rfl).struct rfl
  obtain ⟨m, hm⟩ := sizeT
  obtain ⟨fl⟩ := l
  match fl, hfs with
  | [f1, f2, f3], hfs =>
    simp only [fsOk, Bool.and_eq_true, beq_iff_eq, bne_iff_ne, ne_eq] at hfs
    obtain ⟨⟨⟨⟨⟨o1, t1⟩, -⟩, -⟩, n1⟩, ⟨⟨⟨⟨o2, t2⟩, -⟩, -⟩, n2⟩, ⟨⟨⟨⟨o3, t3⟩, -⟩, -⟩, n3⟩, -⟩ := hfs
    have wf : ∀ {z : Int}, fitI z → (Lit.int .i64 z).wf = true := fun {z} h => by
      have := h.1; have := h.2
      simp [Lit.wf, IntKind.min, IntKind.max, IntKind.signed, IntKind.bits]
      omega
    have w1 := wf hp
    have w2 := wf hq
    have w3 : (Lit.int .i64 b).wf = true := wf h
    have hform : (Value.agg #[.int .i64 p, .int .i64 q, .int .i64 b]).formed Tryd.prog 162 = true := by
      simp [Value.formed, hu, cellsT]
    simp only [kOf, keyOf, hu, keyT, hform, Bool.and_self, if_true, hm]
    simp [Program.keyLits, hu, Value.cells, cellsT, n1, n2, n3, o1, t1, o2, t2, o3, t3, cellsI, cellsS, hs, hi, w1, w2, w3]

end Go.Proofs.YtfdneepgpekmiaaDoor.KeyTag
