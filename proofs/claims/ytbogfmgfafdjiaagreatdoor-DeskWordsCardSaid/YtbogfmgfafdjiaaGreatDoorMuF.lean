/- Texts of this proof, laid together: ClnAct, ClnInt, DkV, DkF, DkG. -/
import Derived.Test.YtbogfmgfafdjiaaGreatDoorMuB
import Derived.Test.YtbogfmgfafdjiaaGreatDoorMuE
import Derived.Test.YtbogfmgfafdjiaaGreatDoorMuC
import Derived.Test.YtbogfmgfafdjiaaGreatDoorMuD
/- slices.Clone, on abstract values. -/
namespace Go.Proofs.YtbogfmgfafdjiaaGreatDoor
set_option linter.unusedVariables false
set_option linter.unusedSimpArgs false
set_option maxHeartbeats 8000000
open Go.RowKit
set_option maxRecDepth 4000

theorem ClnAct {n : Nat} {g : Nat → List AV} (hb : n * 144 ≤ 140737488355328) (id : Nat) :
    FnC Tryz.prog 37 [.lst 14 n g] [] (fun r F' => ∃ x, r = .ref id x ∧ F' = [(id, .own x 72 14 n g)]) := by
  refine FnC.intro Tryz.func37 rfl Tryz.ntmps37 rfl ?_; intro off w0
  ((repeat refine S.seq ?_); refine wG (k := ?_); try (refine L.nil ?_))
  repeat refine S.seq ?_
  refine S.region (L.run (T := tt) 1 tt_ok rfl rfl (by exact sd) ?_)
  refine L.isNil (T := tt) tt_ok rfl rfl rfl rfl rfl rfl trivial fun b h0 => L.nil ?_
  ((repeat refine S.seq ?_); refine S.cond rfl (fun h => ?_) (fun h => ?_) <;> (try first | refine S.skip ?_ | refine S.exit ?_))
  · ((repeat refine S.seq ?_); refine wG (k := ?_); try (refine L.nil ?_))
    have hn := h0 h
    subst hn
    exact S.ret (nilRow id 72 14 g (E.ret (T := tt) tt_ok rfl rfl (by exact sd) (Imp.vref rfl) (List.Sublist.refl _) ⟨_, rfl, rfl⟩))
  · repeat refine S.seq ?_
    refine S.region (L.buildSlice (T := tt) 0 tt_ok rfl rfl rfl rfl rfl rfl (by decide) (by decide) rfl rfl (by exact sd) fun x => ?_)
    refine L.run (T := tt) 1 tt_ok rfl rfl (by exact sd) ?_
    refine L.append (T := tt) tt_ok rfl rfl rfl rfl rfl rfl rfl rfl rfl rfl (by exact sd) ⟨rfl, by decide, by decide⟩ (by simpa using hb) fun x1 => ?_
    (refine wL (k := ?_); try (refine L.nil ?_))
    refine S.ret (rowsEq [(0, .own x1 72 14 n g)] (by simp [setF, joinG_zero]) (renum [(id, .own x1 72 14 n g)] 2 (.ref id x1) rfl rfl Imp.ref ?_))
    exact E.ret (T := tt) tt_ok rfl rfl (by exact sd) (Imp.refl _) (List.Sublist.refl _) ⟨_, rfl, rfl⟩

end Go.Proofs.YtbogfmgfafdjiaaGreatDoor

/- slices.Clone, on abstract values. -/
namespace Go.Proofs.YtbogfmgfafdjiaaGreatDoor
set_option linter.unusedVariables false
set_option linter.unusedSimpArgs false
set_option maxHeartbeats 8000000
open Go.RowKit
set_option maxRecDepth 4000

theorem ClnInt {n : Nat} {g : Nat → List AV} (hb : n * 8 ≤ 140737488355328) (id : Nat) :
    FnC Tryz.prog 39 [.lst 1 n g] [] (fun r F' => ∃ x, r = .ref id x ∧ F' = [(id, .own x 3 1 n g)]) := by
  refine FnC.intro Tryz.func39 rfl Tryz.ntmps39 rfl ?_; intro off w0
  ((repeat refine S.seq ?_); refine wG (k := ?_); try (refine L.nil ?_))
  repeat refine S.seq ?_
  refine S.region (L.run (T := tt) 1 tt_ok rfl rfl (by exact sd) ?_)
  refine L.isNil (T := tt) tt_ok rfl rfl rfl rfl rfl rfl trivial fun b h0 => L.nil ?_
  ((repeat refine S.seq ?_); refine S.cond rfl (fun h => ?_) (fun h => ?_) <;> (try first | refine S.skip ?_ | refine S.exit ?_))
  · ((repeat refine S.seq ?_); refine wG (k := ?_); try (refine L.nil ?_))
    have hn := h0 h
    subst hn
    exact S.ret (nilRow id 3 1 g (E.ret (T := tt) tt_ok rfl rfl (by exact sd) (Imp.vref rfl) (List.Sublist.refl _) ⟨_, rfl, rfl⟩))
  · repeat refine S.seq ?_
    refine S.region (L.buildSlice (T := tt) 0 tt_ok rfl rfl rfl rfl rfl rfl (by decide) (by decide) rfl rfl (by exact sd) fun x => ?_)
    refine L.run (T := tt) 1 tt_ok rfl rfl (by exact sd) ?_
    refine L.append (T := tt) tt_ok rfl rfl rfl rfl rfl rfl rfl rfl rfl rfl (by exact sd) ⟨rfl, by decide, by decide⟩ (by simpa using hb) fun x1 => ?_
    (refine wL (k := ?_); try (refine L.nil ?_))
    refine S.ret (rowsEq [(0, .own x1 3 1 n g)] (by simp [setF, joinG_zero]) (renum [(id, .own x1 3 1 n g)] 2 (.ref id x1) rfl rfl Imp.ref ?_))
    exact E.ret (T := tt) tt_ok rfl rfl (by exact sd) (Imp.refl _) (List.Sublist.refl _) ⟨_, rfl, rfl⟩

end Go.Proofs.YtbogfmgfafdjiaaGreatDoor

/- A cluster: publishing, steps, what it tells (world). -/
namespace Go.Proofs.YtbogfmgfafdjiaaGreatDoor
set_option linter.unusedVariables false
set_option linter.unusedSimpArgs false
set_option maxHeartbeats 8000000
open Go.RowKit
set_option maxRecDepth 8000

def stP : List AV := [.v (.int .i64 1), .v (.int .i64 0), .v (.int .i64 0), .v (.int .i64 0), .v (.int .i64 0), .v (.int .i64 0), .v (.int .i64 0), .v (.int .i64 1), .v (.string kB), .v (.string bB)]
def act1 : ActD := ⟨1, 0, 0, 1, 0, 0, kB, bB, 1, default⟩
theorem wpublish_p (wb : Nat) (xn : Value) (nb nb2 k : Nat) (R : List Arc) (p : WAd) (xf : Value) (gF : Nat → List AV) (xa : Value) (h : One R) (hk : k ≤ 4) : FnC Tryz.prog 30 [.ptr 60 wb 0, .agg stP] (wR wb xn nb nb2 k R p A0 [] xf 0 gF xa [])
    (fun r F' => ∃ xx xf2 g2 xa2, r = .v (.bool true) ∧ F' = wR wb xn nb nb2 k R { p with x := xx } A1 due1 xf2 1 g2 xa2 [act1]) := by
  have qP := publish_p p.ab p.mb p.x A0 0 kB bB 1 ok0 fitK (by decide)
  rw [pub1e, pub1s] at qP
  unfold stP
  refine FnC.intro Tryz.func30 rfl Tryz.ntmps30 rfl ?_; intro off w0
  (try unfold wR); (try unfold wldB); (try unfold ndsR); (try unfold ndR); (try unfold clsR); (try unfold cliR); (try unfold cliB); (try unfold auR); (try unfold dueR); (try unfold tabR); (try unfold flR); (try unfold actR); (try unfold sndR); (try unfold wldC); (try unfold cliC)
  repeat refine S.seq ?_
  refine S.region ?_
  refine wB 3 (k := fun b3 => ?_)
  (refine wL (k := ?_); try (refine L.nil ?_))
  repeat refine S.seq ?_
  refine S.draw [(3, [60]), (5, [3]), (7, [62])] mixed ?_
  refine wT [0, 1, 2, 3, 4, 5, 6, 7, 8] (k := ?_)
  refine wD (k := ?_)
  repeat refine S.seq ?_
  refine S.draw [(3, [66]), (5, [3]), (7, [3]), (9, [3]), (11, [3])] mixed ?_
  refine wT [0, 1, 2, 3, 4, 5, 6, 7, 8, 9, 10, 11] (k := ?_)
  refine H.call 12 [(40, .blk p.ab 185 [.v (.int .i64 A0.pub), .ref 41 (.map (some p.mb)), .ref 42 p.x]), (41, .map p.mb (kOf Tryz.prog 220) (marksM A0.seqs)), (42, .own p.x 223 2 A0.l.length (gOf OutD.cells A0.l))] _ rfl (by kernel_rfl) (by kernel_rfl) rfl rfl rfl rfl rfl rfl rfl ⟨trivial, by exact sd⟩ rfl (by exact Imps.refl [.ptr 40 p.ab 0, .v (.int .i64 0), .v (.string kB), .v (.string bB), .v (.int .i64 1)]) (by exact (pickS (pS (pS (pS (pS (pS (pS p0)))))) (pickS (pS (pS (pS (pS (pS (pS p0)))))) (pickS (pS (pS (pS (pS (pS (pS p0)))))) pick0)))) qP (by kernel_rfl) (by kernel_rfl) ?_
  rintro r F' ⟨xx, rfl, rfl⟩
  unfold auR
  refine wN ?_
  refine wT [13, 14, 15, 16, 17] (k := ?_)
  refine wD (k := ?_)
  refine slotAs 6 (.v (.int .i64 1)) rfl (Imp.of_eq rfl) ?_
  ((repeat refine S.seq ?_); refine wG (k := ?_); try (refine L.nil ?_))
  ((repeat refine S.seq ?_); refine S.cond rfl (fun hc => ?_) (fun hc => ?_) <;> (try first | refine S.skip ?_ | refine S.exit ?_))
  · exact absurd hc (by decide)
  repeat refine S.seq ?_
  refine S.draw [(4, [60]), (6, [3]), (8, [3]), (11, [3]), (13, [3]), (15, [3])] mixed ?_
  refine wT [0, 1, 2, 3, 4, 5, 6, 7, 8, 9, 10, 11, 12, 13, 14, 15, 16] (k := ?_)
  refine wHF 17 58 (k := fun x51 => ?_)
  refine wHY 18 (k := fun y52 => ?_)
  refine wT [19, 20] (k := ?_)
  refine wHS 21 (k := ?_)
  refine wD (k := ?_)
  refine ownAs 64 (n' := 1) (gOf ActD.cells [act1]) rfl rfl (fun i hi => ?_) ?_
  · have hi : i < 1 := hi
    have : i = 0 := by omega
    subst this; rfl
  refine blkAs 60 (wldC xn p.xc xf y52) rfl ⟨Imp.refl _, Imp.refl _, Imp.refl _, Imp.refl _, Imp.refl _, Imp.ref, trivial⟩ ?_
  refine rowsTo (wR wb xn nb nb2 k R { p with x := xx } A1 [] xf 0 gF y52 [act1] ++ [(3, .blk b3 33 [.v (.int .i64 1), .v (.int .i64 0), .v (.int .i64 0), .v (.int .i64 0), .v (.int .i64 0), .v (.int .i64 0), .v (.int .i64 0), .v (.int .i64 1), .v (.string kB), .v (.string bB)])]) (by (try unfold wR); (try unfold wldB); (try unfold ndsR); (try unfold ndR); (try unfold clsR); (try unfold cliR); (try unfold cliB); (try unfold auR); (try unfold dueR); (try unfold tabR); (try unfold flR); (try unfold actR); (try unfold sndR); (try unfold wldC); (try unfold cliC); simp only [List.nil_append, List.cons_append]; (repeat (first | exact Sub.refl _ | refine Sub.pick (by repeat (first | exact p0 | apply pS)) ?_))) ?_
  repeat refine S.seq ?_
  refine S.region ?_
  (refine wL (k := ?_); try (refine L.nil ?_))
  refine L.call (G := wR wb xn nb nb2 k R { p with x := xx } A1 [] xf 0 gF y52 [act1]) (H := [(3, .blk b3 33 [.v (.int .i64 1), .v (.int .i64 0), .v (.int .i64 0), .v (.int .i64 0), .v (.int .i64 0), .v (.int .i64 0), .v (.int .i64 0), .v (.int .i64 1), .v (.string kB), .v (.string bB)])]) rfl rfl rfl rfl rfl rfl rfl ⟨trivial, by exact sd⟩ rfl (by exact Imps.refl [.ptr 60 wb 0, .v (.int .i64 0)]) (List.Perm.refl _) (speak_p wb xn nb nb2 k R { p with x := xx } xf gF y52 [act1] h hk) ?_
  rintro r F' ⟨xf2, g2, rfl, rfl⟩
  refine L.nil ?_
  ((repeat refine S.seq ?_); refine wG (k := ?_); try (refine L.nil ?_))
  ((repeat refine S.seq ?_); refine S.ret ?_)
  exact E.ret (T := tt) tt_ok rfl rfl (by exact sd) (F' := wR wb xn nb nb2 k R { p with x := xx } A1 due1 xf2 1 g2 y52 [act1]) (Imp.refl _) (List.sublist_append_left _ _) ⟨xx, xf2, g2, y52, rfl, rfl⟩
theorem step1_p (wb : Nat) (xn : Value) (nb nb2 k : Nat) (R : List Arc) (p : WAd) (xf : Value) (gF : Nat → List AV) (xa : Value) (h : One R) (hk : k ≤ 4) : FnC Tryz.prog 10 [.ptr 60 wb 0, .agg stP] (wR wb xn nb nb2 k R p A0 [] xf 0 gF xa [])
    (fun r F' => ∃ xx xf2 g2 xa2, r = .v (.bool true) ∧ F' = wR wb xn nb nb2 k R { p with x := xx } A1 due1 xf2 1 g2 xa2 [act1]) := by
  have qP := wpublish_p wb xn nb nb2 k R p xf gF xa h hk
  unfold stP at qP ⊢
  refine FnC.intro Tryz.func10 rfl Tryz.ntmps10 rfl ?_; intro off w0
  (try unfold wR); (try unfold wldB); (try unfold ndsR); (try unfold ndR); (try unfold clsR); (try unfold cliR); (try unfold cliB); (try unfold auR); (try unfold dueR); (try unfold tabR); (try unfold flR); (try unfold actR); (try unfold sndR); (try unfold wldC); (try unfold cliC)
  repeat refine S.seq ?_
  refine S.region ?_
  refine wB 3 (k := fun b3 => ?_)
  (refine wL (k := ?_); try (refine L.nil ?_))
  ((repeat refine S.seq ?_); refine wG (k := ?_); try (refine L.nil ?_))
  ((repeat refine S.seq ?_); refine S.cond rfl (fun hc => ?_) (fun hc => ?_) <;> (try first | refine S.skip ?_ | refine S.exit ?_))
  · cases hc
  repeat refine S.seq ?_
  refine S.draw [(1, [3]), (5, [3]), (9, [60])] mixed ?_
  refine wT [0, 1, 2, 3, 4, 5, 6, 7, 8, 9, 10, 11, 12, 13] (k := ?_)
  refine wD (k := ?_)
  repeat refine S.seq ?_
  refine S.draw [(1, [3]), (5, [3]), (9, [60])] mixed ?_
  refine wT [0, 1, 2, 3, 4, 5, 6, 7, 8, 9, 10, 11, 12] (k := ?_)
  refine wD (k := ?_)
  repeat refine S.seq ?_
  refine S.draw [(1, [3]), (5, [3]), (9, [60])] mixed ?_
  refine wT [0, 1, 2, 3, 4, 5, 6, 7, 8, 9, 10, 11, 12, 13] (k := ?_)
  refine wD (k := ?_)
  repeat refine S.seq ?_
  refine S.draw [(1, [3]), (5, [3]), (9, [60])] mixed ?_
  refine wT [0, 1, 2, 3, 4, 5, 6, 7, 8, 9, 10, 11, 12, 13] (k := ?_)
  refine wD (k := ?_)
  repeat refine S.seq ?_
  refine S.block ?_
  ((repeat refine S.seq ?_); refine wG (k := ?_); try (refine L.nil ?_))
  ((repeat refine S.seq ?_); refine S.cond rfl (fun hc => ?_) (fun hc => ?_) <;> (try first | refine S.skip ?_ | refine S.exit ?_))
  · refine rowsTo (wR wb xn nb nb2 k R p A0 [] xf 0 gF xa [] ++ [(3, .blk b3 33 [.v (.int .i64 1), .v (.int .i64 0), .v (.int .i64 0), .v (.int .i64 0), .v (.int .i64 0), .v (.int .i64 0), .v (.int .i64 0), .v (.int .i64 1), .v (.string kB), .v (.string bB)])]) (by (try unfold wR); (try unfold wldB); (try unfold ndsR); (try unfold ndR); (try unfold clsR); (try unfold cliR); (try unfold cliB); (try unfold auR); (try unfold dueR); (try unfold tabR); (try unfold flR); (try unfold actR); (try unfold sndR); (try unfold wldC); (try unfold cliC); simp only [List.nil_append, List.cons_append]; (repeat (first | exact Sub.refl _ | refine Sub.pick (by repeat (first | exact p0 | apply pS)) ?_))) ?_
    repeat refine S.seq ?_
    refine S.region ?_
    (refine wL (k := ?_); try (refine L.nil ?_))
    refine L.call (G := wR wb xn nb nb2 k R p A0 [] xf 0 gF xa []) (H := [(3, .blk b3 33 [.v (.int .i64 1), .v (.int .i64 0), .v (.int .i64 0), .v (.int .i64 0), .v (.int .i64 0), .v (.int .i64 0), .v (.int .i64 0), .v (.int .i64 1), .v (.string kB), .v (.string bB)])]) rfl rfl rfl rfl rfl rfl rfl ⟨trivial, by exact sd⟩ rfl (by exact Imps.refl [.ptr 60 wb 0, .agg [.v (.int .i64 1), .v (.int .i64 0), .v (.int .i64 0), .v (.int .i64 0), .v (.int .i64 0), .v (.int .i64 0), .v (.int .i64 0), .v (.int .i64 1), .v (.string kB), .v (.string bB)]]) (List.Perm.refl _) qP ?_
    rintro r F' ⟨xx, xf2, g2, xa2, rfl, rfl⟩
    (refine wL (k := ?_); try (refine L.nil ?_))
    ((repeat refine S.seq ?_); refine S.ret ?_)
    exact E.ret (T := tt) tt_ok rfl rfl (by exact sd) (F' := wR wb xn nb nb2 k R { p with x := xx } A1 due1 xf2 1 g2 xa2 [act1]) (Imp.refl _) (List.sublist_append_left _ _) ⟨xx, xf2, g2, xa2, rfl, rfl⟩
  exact absurd hc (by decide)
theorem act_plain (l : List ActD) : PlainG l.length (gOf ActD.cells l) := by
  intro i hi A hA
  unfold gOf ActD.cells at hA
  simp only [List.mem_cons, List.not_mem_nil, or_false] at hA
  rcases hA with h | h | h | h | h | h | h | h | h | h | h | h | h | h <;> exact ⟨_, h⟩
theorem acts_p (wb : Nat) (xn : Value) (nb nb2 k : Nat) (R : List Arc) (p : WAd) (A : AuD) (m : List (Value × AV)) (xf : Value) (fk : Nat) (gF : Nat → List AV) (xa : Value) (l : List ActD) (hl : l.length ≤ 1000) : FnC Tryz.prog 11 [.ptr 60 wb 0] (wR wb xn nb nb2 k R p A m xf fk gF xa l)
    (fun r F' => ∃ y, r = .ref 50 y ∧ F' = (50, .own y 72 14 l.length (gOf ActD.cells l)) :: (wR wb xn nb nb2 k R p A m xf fk gF xa l)) := by
  refine FnC.intro Tryz.func11 rfl Tryz.ntmps11 rfl ?_; intro off w0
  (try unfold wR); (try unfold wldB); (try unfold ndsR); (try unfold ndR); (try unfold clsR); (try unfold cliR); (try unfold cliB); (try unfold auR); (try unfold dueR); (try unfold tabR); (try unfold flR); (try unfold actR); (try unfold sndR); (try unfold wldC); (try unfold cliC)
  ((repeat refine S.seq ?_); refine wG (k := ?_); try (refine L.nil ?_))
  ((repeat refine S.seq ?_); refine wG (k := ?_); try (refine L.nil ?_))
  ((repeat refine S.seq ?_); refine S.cond rfl (fun hc => ?_) (fun hc => ?_) <;> (try first | refine S.skip ?_ | refine S.exit ?_))
  · cases hc
  repeat refine S.seq ?_
  refine S.region ?_
  (refine wL (k := ?_); try (refine L.nil ?_))
  refine L.call (G := [(64, .own xa 72 14 l.length (gOf ActD.cells l))]) rfl rfl rfl rfl rfl rfl rfl ⟨trivial, by exact sd⟩ rfl (by exact Imps.refl [.ref 64 xa]) (by exact (pickS (pS (pS (pS (pS (pS (pS (pS (pS (pS (pS (pS p0))))))))))) pick0)) (borrow1 (act_plain l) (ClnAct (n := l.length) (g := gOf ActD.cells l) (by omega) 50)) ?_
  rintro r F' ⟨y, rfl, rfl⟩
  (refine wL (k := ?_); try (refine L.nil ?_))
  refine rowsTo ((50, .own y 72 14 l.length (gOf ActD.cells l)) :: (wR wb xn nb nb2 k R p A m xf fk gF xa l)) (by (try unfold wR); (try unfold wldB); (try unfold ndsR); (try unfold ndR); (try unfold clsR); (try unfold cliR); (try unfold cliB); (try unfold auR); (try unfold dueR); (try unfold tabR); (try unfold flR); (try unfold actR); (try unfold sndR); (try unfold wldC); (try unfold cliC); simp only [List.nil_append, List.cons_append]; (repeat (first | exact Sub.refl _ | refine Sub.pick (by repeat (first | exact p0 | apply pS)) ?_))) ?_
  ((repeat refine S.seq ?_); refine S.ret ?_)
  exact E.ret (T := tt) tt_ok rfl rfl (by exact sd) (Imp.refl _) (List.Sublist.refl _) ⟨y, rfl, rfl⟩
theorem tables_p (wb : Nat) (xn : Value) (nb nb2 k : Nat) (R : List Arc) (p : WAd) (A : AuD) (m : List (Value × AV)) (xf : Value) (fk : Nat) (gF : Nat → List AV) (xa : Value) (l : List ActD) (hk : 1 ≤ k) (hR : R.length ≤ 1000) : FnC Tryz.prog 12 [.ptr 60 wb 0] (wR wb xn nb nb2 k R p A m xf fk gF xa l)
    (fun r F' => ∃ y, r = .ref 50 y ∧ F' = (50, .own y 82 3 1 (gOf Tab.cells [tR R])) :: (wR wb xn nb nb2 k R p A m xf fk gF xa l)) := by
  refine FnC.intro Tryz.func12 rfl Tryz.ntmps12 rfl ?_; intro off w0
  (try unfold wR); (try unfold wldB); (try unfold ndsR); (try unfold ndR); (try unfold clsR); (try unfold cliR); (try unfold cliB); (try unfold auR); (try unfold dueR); (try unfold tabR); (try unfold flR); (try unfold actR); (try unfold sndR); (try unfold wldC); (try unfold cliC)
  ((repeat refine S.seq ?_); refine wG (k := ?_); try (refine L.nil ?_))
  ((repeat refine S.seq ?_); refine wG (k := ?_); try (refine L.nil ?_))
  ((repeat refine S.seq ?_); refine wG (k := ?_); try (refine L.nil ?_))
  ((repeat refine S.seq ?_); refine S.cond rfl (fun hc => ?_) (fun hc => ?_) <;> (try first | refine S.skip ?_ | refine S.exit ?_))
  · cases hc
  refine nilRow 50 82 3 (gOf Tab.cells []) ?_
  refine slotAs 3 (.ref 50 (.slice none 0 0)) rfl (Imp.vref rfl) ?_
  ((repeat refine S.seq ?_); refine wG (k := ?_); try (refine L.nil ?_))
  repeat refine S.seq ?_
  refine S.cut (ι := Value) (fun x => [(3, .ref 50 x)]) (fun y => (50, .own y 82 3 1 (gOf Tab.cells [tR R])) :: (wR wb xn nb nb2 k R p A m xf fk gF xa l)) ?_ ?_
  · refine S.block (S.once (ι := Value) [(0, .ptr 60 wb 0), (3, .ref 50 (.slice none 0 0)), (11, .v (.int .i64 1)), (12, .v (.int .i64 0))] ((50, .own (.slice none 0 0) 82 3 0 (gOf Tab.cells [])) :: (wR wb xn nb nb2 k R p A m xf fk gF xa l))
      (fun x => [(3, .ref 50 x), (11, .v (.int .i64 1)), (12, .v (.int .i64 1))]) (fun y => (50, .own y 82 3 1 (gOf Tab.cells [tR R])) :: (wR wb xn nb nb2 k R p A m xf fk gF xa l)) ?_ ?_ ?_)
    · exact fun a w h => h.weakP (by (repeat' (first | exact True.intro | exact Imp.refl _ | refine ⟨?_, ?_⟩))) (by (try unfold wR); (try unfold wldB); (try unfold ndsR); (try unfold ndR); (try unfold clsR); (try unfold cliR); (try unfold cliB); (try unfold auR); (try unfold dueR); (try unfold tabR); (try unfold flR); (try unfold actR); (try unfold sndR); (try unfold wldC); (try unfold cliC); simp only [List.nil_append, List.cons_append]; (repeat (first | exact Sub.refl _ | refine Sub.pick (by repeat (first | exact p0 | apply pS)) ?_)))
    · (try unfold wR); (try unfold wldB); (try unfold ndsR); (try unfold ndR); (try unfold clsR); (try unfold cliR); (try unfold cliB); (try unfold auR); (try unfold dueR); (try unfold tabR); (try unfold flR); (try unfold actR); (try unfold sndR); (try unfold wldC); (try unfold cliC)
      ((repeat refine S.seq ?_); refine wG (k := ?_); try (refine L.nil ?_))
      ((repeat refine S.seq ?_); refine S.cond rfl (fun h1 => ?_) (fun h1 => ?_) <;> (try first | refine S.skip ?_ | refine S.exit ?_))
      · repeat refine S.seq ?_
        refine S.block ?_
        ((repeat refine S.seq ?_); refine wG (k := ?_); try (refine L.nil ?_))
        repeat refine S.seq ?_
        refine S.region ?_
        (refine wL (k := ?_); try (refine L.nil ?_))
        refine wA 51 (k := fun b5 => ?_)
        refine wS (k := ?_)
        refine L.nil ?_
        refine blkAs 51 [.v (.int .i64 1), arcs R, .lst 1 1 (fun i => [.v (.int .i64 (([0] : List Int).getD i 0))])] rfl ⟨Imp.refl _, Imp.refl _, Imp.refl _, trivial⟩ ?_
        repeat refine S.seq ?_
        refine S.draw [(1, [51]), (4, [51])] mixed ?_
        refine wT [0, 1, 3, 4] (k := ?_)
        refine H.call 2 [] _ rfl (by kernel_rfl) (by kernel_rfl) rfl rfl rfl rfl rfl rfl rfl ⟨trivial, by exact sd⟩ rfl (by exact Imps.refl [arcs R]) (List.Perm.refl _) (ClnArc (n := R.length) (g := gOf Arc.cells R) (by omega) 52) (by kernel_rfl) (by kernel_rfl) ?_
        rintro r F' ⟨x28, rfl, rfl⟩
        refine H.freeze 28 52 rfl rfl rfl rfl ?_
        refine wT [6] (k := ?_)
        refine H.call 5 [] _ rfl (by kernel_rfl) (by kernel_rfl) rfl rfl rfl rfl rfl rfl rfl ⟨trivial, by exact sd⟩ rfl (by exact Imps.refl [.lst 1 1 (fun i => [.v (.int .i64 (([0] : List Int).getD i 0))])]) (List.Perm.refl _) (ClnInt (n := 1) (g := fun i => [.v (.int .i64 (([0] : List Int).getD i 0))]) (by decide) 53) (by kernel_rfl) (by kernel_rfl) ?_
        rintro r F' ⟨x31, rfl, rfl⟩
        refine H.freeze 31 53 rfl rfl rfl rfl ?_
        refine wHS 7 (k := ?_)
        refine wT [8] (k := ?_)
        refine wHS 9 (k := ?_)
        refine wD (k := ?_)
        refine blkAs 51 (tR R).cells rfl ⟨Imp.refl _, Imp.refl _, Imp.refl _, trivial⟩ ?_
        repeat refine S.seq ?_
        refine S.region ?_
        (refine wL (k := ?_); try (refine L.nil ?_))
        refine wF 54 (k := fun x36 => ?_)
        refine wY (k := fun y37 => ?_)
        refine ownAs 50 (n' := 1) (gOf Tab.cells [tR R]) rfl rfl (fun i hi => ?_) ?_
        · have hi : i < 1 := hi
          have : i = 0 := by omega
          subst this; rfl
        (refine wL (k := ?_); try (refine L.nil ?_))
        ((repeat refine S.seq ?_); refine wG (k := ?_); try (refine L.nil ?_))
        exact fun a w hR => ⟨y37, hR.weakP (by (repeat' (first | exact True.intro | exact Imp.refl _ | refine ⟨?_, ?_⟩))) (by (try unfold wR); (try unfold wldB); (try unfold ndsR); (try unfold ndR); (try unfold clsR); (try unfold cliR); (try unfold cliB); (try unfold auR); (try unfold dueR); (try unfold tabR); (try unfold flR); (try unfold actR); (try unfold sndR); (try unfold wldC); (try unfold cliC); simp only [List.nil_append, List.cons_append]; (repeat (first | exact Sub.refl _ | refine Sub.pick (by repeat (first | exact p0 | apply pS)) ?_)))⟩
      exact absurd h1 (by decide)
    · rintro x
      (try unfold wR); (try unfold wldB); (try unfold ndsR); (try unfold ndR); (try unfold clsR); (try unfold cliR); (try unfold cliB); (try unfold auR); (try unfold dueR); (try unfold tabR); (try unfold flR); (try unfold actR); (try unfold sndR); (try unfold wldC); (try unfold cliC)
      ((repeat refine S.seq ?_); refine wG (k := ?_); try (refine L.nil ?_))
      ((repeat refine S.seq ?_); refine S.cond rfl (fun h1 => ?_) (fun h1 => ?_) <;> (try first | refine S.skip ?_ | refine S.exit ?_))
      · exact absurd h1 (by decide)
      exact fun a w hR => ⟨x, hR.weakP (by (repeat' (first | exact True.intro | exact Imp.refl _ | refine ⟨?_, ?_⟩))) (by (try unfold wR); (try unfold wldB); (try unfold ndsR); (try unfold ndR); (try unfold clsR); (try unfold cliR); (try unfold cliB); (try unfold auR); (try unfold dueR); (try unfold tabR); (try unfold flR); (try unfold actR); (try unfold sndR); (try unfold wldC); (try unfold cliC); simp only [List.nil_append, List.cons_append]; (repeat (first | exact Sub.refl _ | refine Sub.pick (by repeat (first | exact p0 | apply pS)) ?_)))⟩
  rintro y
  (try unfold wR); (try unfold wldB); (try unfold ndsR); (try unfold ndR); (try unfold clsR); (try unfold cliR); (try unfold cliB); (try unfold auR); (try unfold dueR); (try unfold tabR); (try unfold flR); (try unfold actR); (try unfold sndR); (try unfold wldC); (try unfold cliC)
  ((repeat refine S.seq ?_); refine wG (k := ?_); try (refine L.nil ?_))
  refine rowsTo ((50, .own y 82 3 1 (gOf Tab.cells [tR R])) :: (wR wb xn nb nb2 k R p A m xf fk gF xa l)) (by (try unfold wR); (try unfold wldB); (try unfold ndsR); (try unfold ndR); (try unfold clsR); (try unfold cliR); (try unfold cliB); (try unfold auR); (try unfold dueR); (try unfold tabR); (try unfold flR); (try unfold actR); (try unfold sndR); (try unfold wldC); (try unfold cliC); simp only [List.nil_append, List.cons_append]; (repeat (first | exact Sub.refl _ | refine Sub.pick (by repeat (first | exact p0 | apply pS)) ?_))) ?_
  ((repeat refine S.seq ?_); refine S.ret ?_)
  exact E.ret (T := tt) tt_ok rfl rfl (by exact sd) (Imp.refl _) (List.Sublist.refl _) ⟨y, rfl, rfl⟩
end Go.Proofs.YtbogfmgfafdjiaaGreatDoor

/- The desk on a cluster of one queue, in which nothing is delivered; what scripts tell there. -/
namespace Go.Proofs.YtbogfmgfafdjiaaGreatDoor
set_option linter.unusedVariables false
set_option linter.unusedSimpArgs false
set_option maxHeartbeats 8000000
open Go.RowKit
set_option maxRecDepth 20000

structure Sp where
  pub : Bool
  p : WAd
  xf : Value
  g : Nat → List AV
  xa : Value
noncomputable def spR (wb : Nat) (xn : Value) (nb nb2 k : Nat) (R : List Arc) (s : Sp) : Rows :=
  if s.pub then wR wb xn nb nb2 k R s.p A1 due1 s.xf 1 s.g s.xa [act1] else wR wb xn nb nb2 k R s.p A0 [] s.xf 0 s.g s.xa []
def stepP : StpD := ⟨1, 0, 0, 0, 0, 0, 0, 1, kB, bB⟩
def spA (pub : Bool) : List ActD := if pub then [act1] else []
theorem act1_ok : ActOk act1 := by
  have := oks (l := [act1]) (by decide +kernel)
  exact this act1 (by simp)
noncomputable def spD (wb : Nat) (xn : Value) (nb nb2 k : Nat) (R : List Arc) (n : Int) (h : One R) (hk : k ≤ 4) (hk1 : 1 ≤ k) (hR : R.length ≤ 1000) : DkS where
  St := Sp
  rows := spR wb xn nb nb2 k R
  wb := wb
  nodes := n
  clients := 1
  qs := qs1
  acts s := spA s.pub
  tabs _ := [tR R]
  fnd _ _ := (0, 0)
  canS st s := st.pub = false ∧ s = stepP
  stp st s st' b := st'.pub = true ∧ b = true
  canM _ _ := False
  many _ _ _ := True
  hqs := by decide
  hstep := by
    rintro ⟨pub, p, xf, g, xa⟩ s ⟨h1, rfl⟩
    dsimp only at h1
    subst h1
    refine (step1_p wb xn nb nb2 k R p xf g xa h hk).mono ?_
    rintro r F' ⟨xx, xf2, g2, xa2, rfl, rfl⟩
    exact ⟨⟨true, { p with x := xx }, xf2, g2, xa2⟩, true, ⟨rfl, rfl⟩, rfl, rfl⟩
  hacts := by
    rintro ⟨pub, p, xf, g, xa⟩
    cases pub
    · exact acts_p wb xn nb nb2 k R p A0 [] xf 0 g xa [] (by decide)
    · exact acts_p wb xn nb nb2 k R p A1 due1 xf 1 g xa [act1] (by decide)
  htabs := by
    rintro ⟨pub, p, xf, g, xa⟩
    cases pub
    · exact tables_p wb xn nb nb2 k R p A0 [] xf 0 g xa [] hk1 hR
    · exact tables_p wb xn nb nb2 k R p A1 due1 xf 1 g xa [act1] hk1 hR
  hmany := by
    intro st n h
    exact h.elim
  hal := by
    rintro ⟨pub, p, xf, g, xa⟩
    cases pub
    · exact (by decide : (spA false).length < 100)
    · exact (by decide : (spA true).length < 100)
  hao := by
    rintro ⟨pub, p, xf, g, xa⟩ a ha
    cases pub
    · cases ha
    · have : a = act1 := by simpa [spA] using ha
      rw [this]
      exact act1_ok
  htl := by intro st; rfl
  hte := by
    intro st t ht
    have : t = tR R := by simpa using ht
    rw [this]
    exact ⟨(by decide : (0 : Int) ≤ 1), (by decide : (1 : Int) < 100)⟩
  hfind := by
    intro st t ht key hkey
    have : t = tR R := by simpa using ht
    rw [this]
    exact ⟨find_p R h key hkey, by decide, by decide, by decide, by decide⟩
/-- What lines tell there. -/
def simC (pub : Bool) : Cmd → Option (ByteArray × Bool)
  | .bad => some (kBad, pub)
  | .step s => if pub = false ∧ s = stepP then some (kOk, true) else none
  | .acts => some (if pub then numT 1 else numT 0, pub)
  | .judge => some (numT 0, pub)
  | .rounds _ => none
  | .epoch q => if q = 0 then some (numT 1, pub) else none
  | .place q key => if q = 0 ∧ key.size ≤ 1000 then some ((numT 0 ++ ⟨#[32]⟩) ++ numT 0, pub) else none
def simS : Bool → List ByteArray → Option ByteArray
  | _, [] => some kEmpty
  | pub, s :: t => if s = kEmpty then simS pub t else match simC pub (parse 1 (wordsOf s)) with
    | none => none
    | some (o, pub') => (simS pub' t).map fun O => (o ++ kNl) ++ O
theorem chk0 : checkJ [] = 0 := by decide +kernel
theorem chk1 : checkJ [act1] = 0 := by decide +kernel
theorem chkS (pub : Bool) : checkJ (spA pub) = 0 := by
  cases pub
  · exact chk0
  · exact chk1
section
variable (wb : Nat) (xn : Value) (nb nb2 k : Nat) (R : List Arc) (n : Int) (h : One R) (hk : k ≤ 4) (hk1 : 1 ≤ k) (hR : R.length ≤ 1000)
theorem sim_c (st : Sp) (c : Cmd) (o : ByteArray) (pub' : Bool) (hs : simC st.pub c = some (o, pub')) : canC (spD wb xn nb nb2 k R n h hk hk1 hR) st c ∧ ∀ o' (st' : Sp), does (spD wb xn nb nb2 k R n h hk hk1 hR) st c o' st' → o' = o ∧ st'.pub = pub' := by
  cases c with
  | bad => cases hs; exact ⟨trivial, fun o' st' hd => ⟨hd.1, congrArg Sp.pub hd.2⟩⟩
  | step s =>
    rw [simC] at hs
    split at hs
    · rename_i hc
      cases hs
      exact ⟨hc, fun o' st' hd => by
        obtain ⟨b, hb, rfl⟩ := hd
        obtain ⟨h1, rfl⟩ : st'.pub = true ∧ b = true := hb
        exact ⟨rfl, h1⟩⟩
    · cases hs
  | acts =>
    cases hs
    refine ⟨trivial, fun o' st' hd => ⟨?_, congrArg Sp.pub hd.2⟩⟩
    rw [hd.1]
    show numT ((spA st.pub).length : Int) = _
    cases st.pub <;> rfl
  | judge =>
    cases hs
    have e : checkJ ((spD wb xn nb nb2 k R n h hk hk1 hR).acts st) = 0 := chkS st.pub
    refine ⟨by show 0 ≤ checkJ _ ∧ checkJ _ < 100; rw [e]; decide, fun o' st' hd => ⟨?_, congrArg Sp.pub hd.2⟩⟩
    rw [hd.1, e]
  | rounds m => cases hs
  | epoch q =>
    rw [simC] at hs
    split at hs
    · rename_i hc
      subst hc
      cases hs
      exact ⟨show (0 : Int) ≤ 0 by decide, fun o' st' hd => ⟨hd.1, congrArg Sp.pub hd.2⟩⟩
    · cases hs
  | place q key =>
    rw [simC] at hs
    split at hs
    · rename_i hc
      obtain ⟨rfl, hkey⟩ := hc
      cases hs
      exact ⟨⟨by decide, by show (0 : Int) < ((qs1.length : Nat) : Int); decide, by unfold fitS; omega⟩, fun o' st' hd => ⟨hd.1, congrArg Sp.pub hd.2⟩⟩
    · cases hs
theorem sim_s : ∀ (l : List ByteArray) (st : Sp) (E : ByteArray), simS st.pub l = some E → goodL (spD wb xn nb nb2 k R n h hk hk1 hR) l st ∧ ∀ O, outL (spD wb xn nb nb2 k R n h hk hk1 hR) l st O → O = E
  | [], st, E, hs => by
    cases hs
    exact ⟨trivial, fun O hO => hO⟩
  | s :: t, st, E, hs => by
    rw [simS] at hs
    split at hs
    · rename_i he
      obtain ⟨h1, h2⟩ := sim_s t st E hs
      exact ⟨⟨fun _ => h1, fun hn => absurd he hn⟩, fun O hO => h2 O (hO.1 he)⟩
    · rename_i he
      split at hs
      · cases hs
      · rename_i o pub' hc
        obtain ⟨c1, c2⟩ := sim_c wb xn nb nb2 k R n h hk hk1 hR st _ o pub' hc
        rw [Option.map_eq_some_iff] at hs
        obtain ⟨E', hE, rfl⟩ := hs
        refine ⟨⟨fun hn => absurd hn he, fun _ => ⟨c1, fun o' st' hd => ?_⟩⟩, fun O hO => ?_⟩
        · obtain ⟨-, hp⟩ := c2 o' st' hd
          exact (sim_s t st' E' (by rw [hp]; exact hE)).1
        · obtain ⟨o', st', O', hd, hO', rfl⟩ := hO.2 he
          obtain ⟨rfl, hp⟩ := c2 o' st' hd
          rw [(sim_s t st' E' (by rw [hp]; exact hE)).2 O' hO']
end
def R1 : List Arc := bldA [1]
theorem r1all : (R1.all fun a => a.shard == 0) = true := by decide +kernel
theorem r1may : mayT (tR R1) = true := by decide +kernel
theorem r1mayA : mayA R1 = true := by decide +kernel
theorem r1len : R1.length ≤ 1000 := by decide +kernel
theorem r1put : (putL (tR R1)).length ≤ 10000 := by decide +kernel
theorem r1rng : (R1.all fun a => decide (0 ≤ a.at0) && decide (a.at0 < 4294967296)) = true := by decide +kernel
theorem in_of {R : List Arc} (h : (R.all fun a => decide (0 ≤ a.at0) && decide (a.at0 < 4294967296)) = true) : in32 (tR R) := by
  intro a ha
  have ha : a ∈ R := ha
  have := List.all_eq_true.1 h a ha
  rw [Bool.and_eq_true, decide_eq_true_eq, decide_eq_true_eq] at this
  exact this
theorem r1in : in32 (tR R1) := in_of r1rng
theorem one_of {R : List Arc} (h1 : mayT (tR R) = true) (h2 : in32 (tR R)) (h3 : (putL (tR R)).length ≤ 10000) (h4 : mayA R = true) (h5 : (R.all fun a => a.shard == 0) = true) : One R := by
  refine ⟨h1, h2, h3, h4, fun p => ?_⟩
  rw [ownerA, if_pos h4]
  by_cases hi : placeA R p < R.length
  · rw [getD_get hi]
    exact beq_iff_eq.1 (List.all_eq_true.1 h5 _ (List.getElem_mem hi))
  · rw [List.getD_eq_getElem?_getD, List.getElem?_eq_none (by omega)]
    rfl
theorem r1one : One R1 := one_of r1may r1in r1put r1mayA r1all
theorem r1new (n : Int) (hn : n = 1 ∨ n = 2) : newT [1] n = tR R1 ∧ newE [1] n = 0 := by
  have hk : newOk [1] 1 = true ∧ newOk [1] 2 = true := by decide +kernel
  have hh : hasA (bldA [1]) 0 = true := by decide +kernel
  have e : ∀ m : Int, nodeTo (bldA [1]) m 1 = [if hasA (bldA [1]) 0 = true then (0 : Int).tmod m else -1] := fun m => rfl
  rcases hn with rfl | rfl
  · exact ⟨by rw [newT, if_pos hk.1, show ([1] : List Int).length = 1 from rfl, e, if_pos hh]; rfl, by rw [newE, if_pos hk.1]⟩
  · exact ⟨by rw [newT, if_pos hk.2, show ([1] : List Int).length = 1 from rfl, e, if_pos hh]; rfl, by rw [newE, if_pos hk.2]⟩
/-- A script there. -/
theorem run1_p (n : Int) (hn : n = 1 ∨ n = 2) (s E : ByteArray) (hs : s.size ≤ 100000) (hE : if (lnsOf s).length ≤ 300 then simS false (lnsOf s) = some E else E = kBad ++ kNl) :
    PFn Tryz.prog 7 [confA n, .v (.string s)] (.v (.string E)) := by
  obtain ⟨e1, e2⟩ := r1new n hn
  refine (run_p n 1 qs1 s hs (bmay_p n (by omega) (by omega)) (fun D st => ∀ l O', simS false l = some O' → goodL D l st ∧ ∀ O, outL D l st O → O = O') ?_ ?_).mono ?_
  · refine (wnew_p n R1 hn e1 e2 r1may r1in r1put).mono ?_
    rintro r F' ⟨wb, xn, nb, nb2, p, rfl, rfl⟩
    exact ⟨spD wb xn nb nb2 n.toNat R1 n r1one (by omega) (by omega) r1len, ⟨false, p, _, _, _⟩, rfl, rfl, rfl, fun l O' hl => sim_s wb xn nb nb2 n.toNat R1 n r1one (by omega) (by omega) r1len l _ O' hl, rfl, rfl⟩
  · intro hle D st hG
    rw [if_pos hle] at hE
    exact (hG _ _ hE).1
  · rintro r F' ⟨⟨O, rfl, hO⟩, rfl⟩
    refine ⟨?_, rfl⟩
    by_cases hle : (lnsOf s).length ≤ 300
    · rw [if_pos hle] at hO hE
      obtain ⟨D, st, hG, ho⟩ := hO
      rw [(hG _ _ hE).2 O ho]
    · rw [if_neg hle] at hO hE
      rw [hO, hE]
end Go.Proofs.YtbogfmgfafdjiaaGreatDoor

/- The statements of the desk: long scripts, and words that are none. -/
namespace Go.Proofs.YtbogfmgfafdjiaaGreatDoor
set_option linter.unusedVariables false
set_option linter.unusedSimpArgs false
set_option maxHeartbeats 8000000
open Go.RowKit
set_option maxRecDepth 20000

def scT : ByteArray := ⟨#[97, 99, 116, 115, 10, 112, 117, 98, 108, 105, 115, 104, 32, 48, 32, 48, 32, 49, 32, 107, 32, 98, 10, 97, 99, 116, 115, 10, 106, 117, 100, 103, 101, 10, 101, 112, 111, 99, 104, 32, 48, 10, 119, 104, 101, 114, 101, 32, 48, 32, 107, 10, 120, 10, 101, 112, 111, 99, 104, 32, 57]⟩
def ouT : ByteArray := ⟨#[48, 10, 111, 107, 10, 49, 10, 48, 10, 49, 10, 48, 32, 48, 10, 101, 114, 114, 111, 114, 10, 101, 114, 114, 111, 114, 10]⟩
theorem sim_t : simS false (lnsOf scT) = some ouT := by decide +kernel
theorem len_t : (lnsOf scT).length ≤ 300 := by decide +kernel
theorem sim_e : simS false (lnsOf kEmpty) = some kEmpty := by decide +kernel
theorem len_e : (lnsOf kEmpty).length ≤ 300 := by decide +kernel
theorem runT_p : PFn Tryz.prog 7 [confA 1, .v (.string scT)] (.v (.string ouT)) := run1_p 1 (.inl rfl) scT ouT (by decide) (by rw [if_pos len_t]; exact sim_t)
theorem runE_p : PFn Tryz.prog 7 [confA 1, .v (.string kEmpty)] (.v (.string kEmpty)) := run1_p 1 (.inl rfl) kEmpty kEmpty (by decide) (by rw [if_pos len_e]; exact sim_e)
theorem told25_p : PFn Tryz.prog 6 [] (.v (.bool true)) := by
  refine FnC.intro Tryz.func6 rfl Tryz.ntmps6 rfl ?_; intro off w0
  ((repeat refine S.seq ?_); refine wG (k := ?_); try (refine L.nil ?_))
  repeat refine S.seq ?_
  refine S.region ?_
  refine wF 12 (k := fun x2 => ?_)
  refine freezeSlot 2 12 rfl rfl rfl ?_
  refine slotAs 2 (intW [1]) rfl (Imp.lst rfl (fun i hi => ?_)) ?_
  · have : i = 0 := by have : i < 1 := hi; omega
    subst this; rfl
  refine wF 13 (k := fun x3 => ?_)
  refine freezeSlot 3 13 rfl rfl rfl ?_
  refine slotAs 3 (.lst 1 1 (gOf (fun l => [intW l]) qs1)) rfl (Imp.lst rfl (fun i hi => ?_)) ?_
  · have : i = 0 := by have : i < 1 := hi; omega
    subst this; rfl
  (refine wL (k := ?_); try (refine L.nil ?_))
  refine wA 14 (k := fun b1 => ?_)
  refine wS (k := ?_)
  refine L.nil ?_
  refine blkAs 14 (confC 1) rfl (Imps.refl (confC 1)) ?_
  repeat refine S.seq ?_
  refine S.region ?_
  (refine wL (k := ?_); try (refine L.nil ?_))
  refine wP runT_p (hi := by exact Imps.refl _) (k := ?_)
  (refine wL (k := ?_); try (refine L.nil ?_))
  refine wQ (fun _ => runbad_p (.v (.int .i64 0)) (.v (.int .i64 0)) (.v (.slice none 0 0)) ⟨#[]⟩ bmay0_p) (k := ?_)
  (refine wL (k := ?_); try (refine L.nil ?_))
  refine wQ (fun _ => runE_p) (k := ?_)
  (refine wL (k := ?_); try (refine L.nil ?_))
  (((repeat refine S.seq ?_); refine S.ret ?_); refine wRt (k := ?_))
  exact Imp.of_eq (congrArg (fun b => AV.v (.bool b)) (by decide +kernel : (ouT == ⟨#[48, 10, 111, 107, 10, 49, 10, 48, 10, 49, 10, 48, 32, 48, 10, 101, 114, 114, 111, 114, 10, 101, 114, 114, 111, 114, 10]⟩ && (⟨#[101, 114, 114, 111, 114, 32, 49, 10]⟩ : ByteArray) == ⟨#[101, 114, 114, 111, 114, 32, 49, 10]⟩ && kEmpty == ⟨#[]⟩) = true))
theorem conf_p (a b : Int) (h : (a = 0 ∨ a = 1) ∧ b = 0) : PFn Tryz.prog 8 [.v (.int .i64 a), .v (.int .i64 b), .v (.int .i64 0)] (confA (1 + a)) := by
  obtain ⟨ha, rfl⟩ := h
  have f0 : fits (1 + IntKind.i64.wrap ((IntKind.u64.wrap 0).tmod 3)) := by unfold fits; decide
  have f1 : fits (1 + IntKind.i64.wrap ((IntKind.u64.wrap 1).tmod 3)) := by unfold fits; decide
  have f2 : fits (1 + IntKind.i64.wrap ((IntKind.u64.wrap 0).tmod 2)) := by unfold fits; decide
  have fa : fits (1 + IntKind.i64.wrap ((IntKind.u64.wrap a).tmod 3)) := by rcases ha with rfl | rfl <;> assumption
  have e1 : 1 + IntKind.i64.wrap ((IntKind.u64.wrap a).tmod 3) = 1 + a := by rcases ha with rfl | rfl <;> decide
  have e2 : 1 + IntKind.i64.wrap ((IntKind.u64.wrap 0).tmod 2) = 1 := by decide
  refine FnC.intro Tryz.func8 rfl Tryz.ntmps8 rfl ?_; intro off w0
  repeat refine S.seq ?_
  refine S.region ?_
  refine wA 11 (k := fun b6 => ?_)
  refine L.nil ?_
  repeat refine S.seq ?_
  refine S.region ?_
  (refine wL (k := ?_); try (refine L.nil ?_))
  refine wF 12 (k := fun x2 => ?_)
  refine freezeSlot 18 12 rfl rfl rfl ?_
  refine slotAs 18 (intW [1]) rfl (Imp.lst rfl (fun i hi => ?_)) ?_
  · have : i = 0 := by have : i < 1 := hi; omega
    subst this; rfl
  refine wF 13 (k := fun x3 => ?_)
  refine freezeSlot 19 13 rfl rfl rfl ?_
  refine slotAs 19 (.lst 1 1 (gOf (fun l => [intW l]) qs1)) rfl (Imp.lst rfl (fun i hi => ?_)) ?_
  · have : i = 0 := by have : i < 1 := hi; omega
    subst this; rfl
  refine slotAs 12 (.v (.int .i64 (1 + a))) rfl (Imp.of_eq (by rw [e1])) ?_
  refine slotAs 17 (.v (.int .i64 1)) rfl (Imp.of_eq (by rw [e2])) ?_
  (refine wL (k := ?_); try (refine L.nil ?_))
  refine wA 14 (k := fun b1 => ?_)
  refine wS (k := ?_)
  refine L.nil ?_
  refine blkAs 14 (confC (1 + a)) rfl (Imps.refl (confC (1 + a))) ?_
  ((repeat refine S.seq ?_); refine wG (k := ?_); try (refine L.nil ?_))
  ((repeat refine S.seq ?_); refine S.cond rfl (fun hc => ?_) (fun hc => ?_) <;> (try first | refine S.skip ?_ | refine S.exit ?_))
  · exact absurd hc (by decide)
  ((repeat refine S.seq ?_); refine wG (k := ?_); try (refine L.nil ?_))
  refine wS (k := ?_)
  refine L.nil ?_
  refine blkAs 11 (confC (1 + a)) rfl (Imps.refl (confC (1 + a))) ?_
  (((repeat refine S.seq ?_); refine S.ret ?_); refine wRt (k := ?_))
  exact Imp.refl _
/-- Lines that are none. -/
def wdL : List ByteArray := [⟨#[112, 117, 98, 108, 105, 115, 104, 32, 48, 32, 48, 32, 49, 32, 107]⟩, ⟨#[112, 117, 98, 108, 105, 115, 104, 32, 48, 32, 48, 32, 120, 32, 107, 32, 98]⟩, ⟨#[103, 101, 116, 32, 48]⟩, ⟨#[103, 101, 116, 32, 48, 32, 48, 32, 48]⟩, ⟨#[32, 97, 99, 116, 115]⟩, ⟨#[97, 99, 116, 115, 32, 49]⟩, ⟨#[114, 111, 117, 110, 100, 115, 32, 49, 48, 48, 49]⟩, ⟨#[114, 111, 117, 110, 100, 115]⟩, ⟨#[114, 111, 117, 110, 100, 115, 32, 120]⟩, ⟨#[101, 112, 111, 99, 104]⟩, ⟨#[101, 112, 111, 99, 104, 32, 48, 48, 48, 48, 48]⟩, ⟨#[119, 104, 101, 114, 101, 32, 48]⟩, ⟨#[119, 104, 101, 114, 101, 32, 120, 32, 107]⟩, ⟨#[74, 117, 100, 103, 101]⟩, ⟨#[99, 114, 97, 115, 104, 32, 48]⟩, ⟨#[115, 116, 97, 114, 116]⟩, ⟨#[109, 111, 118, 101, 32, 48, 32, 48]⟩, ⟨#[116, 105, 99, 107, 32, 45, 49]⟩, ⟨#[112, 117, 98, 108, 105, 115, 104, 32, 48, 32, 48, 32, 49, 32, 107, 32, 98, 32, 99]⟩, ⟨#[97, 99, 107, 32, 48]⟩]
def scA : ByteArray := ⟨#[112, 117, 98, 108, 105, 115, 104, 32, 48, 32, 48, 32, 49, 32, 107, 32, 98, 10]⟩
def scB : ByteArray := ⟨#[10, 97, 99, 116, 115, 10, 106, 117, 100, 103, 101]⟩
def scW (i : Nat) : ByteArray := (scA ++ wdL.getD i default) ++ scB
def ouW : ByteArray := ⟨#[111, 107, 10, 101, 114, 114, 111, 114, 10, 49, 10, 48, 10]⟩
theorem sim_w : ∀ i : Fin 20, (lnsOf (scW i.val)).length ≤ 300 ∧ simS false (lnsOf (scW i.val)) = some ouW := by decide +kernel
theorem umodE (n m : Int) (hm : 0 < m) (h2 : m ≤ 4611686018427387904) : ∃ K : Nat, (K : Int) < m ∧ IntKind.i64.wrap ((IntKind.u64.wrap n).tmod (IntKind.u64.wrap m)) = K := by
  have : IntKind.u64.wrap m = m := by
    have e : ∀ z, IntKind.u64.wrap z = z % 18446744073709551616 := fun _ => rfl
    rw [e]
    omega
  rw [this]
  exact umod n m hm h2
theorem deskWords_p (z : Int) : PFn Tryz.prog 4 [.v (.int .i64 z)] (.v (.bool true)) := by
  obtain ⟨K, hK, eK⟩ := umodE z 20 (by decide) (by decide)
  have k0 : 0 ≤ IntKind.i64.wrap ((IntKind.u64.wrap z).tmod (IntKind.u64.wrap 20)) := by rw [eK]; omega
  have k1 : IntKind.i64.wrap ((IntKind.u64.wrap z).tmod (IntKind.u64.wrap 20)) < 20 := by rw [eK]; exact hK
  have k2 : IntKind.u64.wrap 20 = 0 → False := by decide
  refine FnC.intro Tryz.func4 rfl Tryz.ntmps4 rfl ?_; intro off w0
  ((repeat refine S.seq ?_); refine wG (k := ?_); try (refine L.nil ?_))
  repeat refine S.seq ?_
  refine S.region ?_
  refine wF 12 (k := fun x2 => ?_)
  refine freezeSlot 5 12 rfl rfl rfl ?_
  refine slotAs 5 (.lst 1 20 (gOf strC wdL)) rfl (Imp.lst rfl (fun i hi => ?_)) ?_
  · have hi : i < 20 := hi
    have : i = 0 ∨ i = 1 ∨ i = 2 ∨ i = 3 ∨ i = 4 ∨ i = 5 ∨ i = 6 ∨ i = 7 ∨ i = 8 ∨ i = 9 ∨ i = 10 ∨ i = 11 ∨ i = 12 ∨ i = 13 ∨ i = 14 ∨ i = 15 ∨ i = 16 ∨ i = 17 ∨ i = 18 ∨ i = 19 := by omega
    rcases this with rfl | rfl | rfl | rfl | rfl | rfl | rfl | rfl | rfl | rfl | rfl | rfl | rfl | rfl | rfl | rfl | rfl | rfl | rfl | rfl
    all_goals rfl
  (refine wL (k := ?_); try (refine L.nil ?_))
  repeat refine S.seq ?_
  refine S.region ?_
  (refine wL (k := ?_); try (refine L.nil ?_))
  refine slotAs 4 (.v (.string (wdL.getD K default))) rfl (Imp.of_eq (congrArg (fun k => AV.v (.string (wdL.getD k default))) (show (IntKind.i64.wrap ((IntKind.u64.wrap z).tmod (IntKind.u64.wrap 20))).toNat = K by rw [eK]; rfl))) ?_
  have hK' : K < 20 := by omega
  obtain ⟨w1, w2⟩ := sim_w ⟨K, hK'⟩
  have wsz : ∀ i : Fin 20, (wdL.getD i.val default).size ≤ 30 := by decide +kernel
  have wz := wsz ⟨K, hK'⟩
  have wA : scA.size = 18 := by decide +kernel
  have wB : scB.size = 11 := by decide +kernel
  have hsz : (scW K).size ≤ 1000 := by
    rw [scW, ByteArray.size_append, ByteArray.size_append]
    have : (wdL.getD K default).size ≤ 30 := wz
    omega
  have pR := run1_p 2 (.inr rfl) (scW K) ouW (by omega) (by rw [if_pos w1]; exact w2)
  have z1 : (scA ++ wdL.getD K default).size ≤ 1000 := by
    rw [ByteArray.size_append]
    have : (wdL.getD K default).size ≤ 30 := wz
    omega
  have z2 : (⟨#[10, 97, 99, 116, 115, 10, 106, 117, 100, 103, 101]⟩ : ByteArray).size = 11 := rfl
  have z3 : (⟨#[112, 117, 98, 108, 105, 115, 104, 32, 48, 32, 48, 32, 49, 32, 107, 32, 98, 10]⟩ : ByteArray).size = 18 := rfl
  have wz : (wdL.getD K default).size ≤ 30 := wz
  repeat refine S.seq ?_
  refine S.region ?_
  refine wP told25_p (k := ?_)
  (refine wL (k := ?_); try (refine L.nil ?_))
  refine wQ (fun _ => conf_p 1 0 ⟨.inr rfl, rfl⟩) (k := ?_)
  (refine wL (k := ?_); try (refine L.nil ?_))
  refine wQ (fun _ => pR) (k := ?_)
  (refine wL (k := ?_); try (refine L.nil ?_))
  (((repeat refine S.seq ?_); refine S.ret ?_); refine wRt (k := ?_))
  exact Imp.of_eq (congrArg (fun b => AV.v (.bool b)) (by decide +kernel : (ouW == ⟨#[111, 107, 10, 101, 114, 114, 111, 114, 10, 49, 10, 48, 10]⟩) = true))
/-- Long scripts: lines that ask, and empty ones. -/
def nlB (e : Bool) (i : Nat) : Bool := e && decide ((i : Int).tmod 3 = 0)
def snL (e : Bool) : Nat → ByteArray
  | 0 => ⟨#[]⟩
  | i + 1 => if nlB e i then snL e i ++ ⟨#[10]⟩ else snL e i ++ ⟨#[97, 99, 116, 115, 10]⟩
def wnL (e : Bool) : Nat → ByteArray
  | 0 => ⟨#[]⟩
  | i + 1 => if nlB e i then wnL e i else wnL e i ++ ⟨#[48, 10]⟩
def pcL (b : Bool) : List UInt8 := if b then [] else [97, 99, 116, 115]
def bsL (e : Bool) (k : Nat) : List Bool := (List.range k).map (nlB e)
theorem bsL_succ (e : Bool) (k : Nat) : bsL e (k + 1) = bsL e k ++ [nlB e k] := by
  unfold bsL
  rw [List.range_succ, List.map_append]
  rfl
theorem snL_data (e : Bool) : ∀ k, (snL e k).data.toList = (bsL e k).flatMap fun b => pcL b ++ [10]
  | 0 => rfl
  | k + 1 => by
    rw [snL, bsL_succ, List.flatMap_append, ← snL_data e k]
    cases nlB e k
    · rw [if_neg (by decide), ByteArray.data_append, Array.toList_append]; rfl
    · rw [if_pos rfl, ByteArray.data_append, Array.toList_append]; rfl
theorem spl_pc (t : List UInt8) : ∀ p : List UInt8, 10 ∉ p → spl 10 (p ++ 10 :: t) = p :: spl 10 t
  | [], _ => by rw [List.nil_append, spl]; rfl
  | x :: p, h => by
    rw [List.mem_cons, not_or] at h
    have hb : (x == 10) = false := by rw [beq_eq_false_iff_ne]; exact fun e => h.1 e.symm
    rw [List.cons_append, spl, hb, spl_pc t p h.2]
    rfl
theorem spl_bs : ∀ bs : List Bool, spl 10 (bs.flatMap fun b => pcL b ++ [10]) = bs.map pcL ++ [[]]
  | [] => rfl
  | b :: bs => by
    rw [List.flatMap_cons, List.append_assoc, List.singleton_append, spl_pc _ _ (by cases b <;> decide), spl_bs bs]
    rfl
theorem lns_sn (e : Bool) (k : Nat) : lnsOf (snL e k) = (bsL e k).map fun b => strL (pcL b) := by
  have h : splS 10 (snL e k) = ((bsL e k).map fun b => strL (pcL b)) ++ [kEmpty] := by
    rw [splS, snL_data, spl_bs, List.map_append, List.map_map]
    rfl
  obtain ⟨M, hM⟩ : ∃ M, M = (bsL e k).map fun b => strL (pcL b) := ⟨_, rfl⟩
  rw [← hM] at h ⊢
  have hl : lastS (M ++ [kEmpty]) = kEmpty := by
    rw [lastS, List.length_append, List.length_singleton, show (((M.length + 1 : Nat) : Int) - 1).toNat = M.length by omega, List.getD_eq_getElem?_getD, List.getElem?_append_right (Nat.le_refl _), Nat.sub_self]
    rfl
  rw [lnsOf, h, hl, if_pos (by decide), List.length_append, List.length_singleton, Nat.add_sub_cancel, List.take_left]
def ouB : List Bool → ByteArray
  | [] => kEmpty
  | b :: bs => if b then ouB bs else (numT 0 ++ kNl) ++ ouB bs
theorem acts_c : parse 1 (wordsOf (strL (pcL false))) = .acts := by decide +kernel
theorem sim_bs : ∀ bs : List Bool, simS false (bs.map fun b => strL (pcL b)) = some (ouB bs)
  | [] => rfl
  | true :: bs => by
    rw [List.map_cons, simS, if_pos (by decide), sim_bs bs]
    rfl
  | false :: bs => by
    rw [List.map_cons, simS, if_neg (by decide), acts_c, simC]
    simp only [Bool.false_eq_true, if_false]
    rw [sim_bs bs]
    rfl
theorem ouB_app (b : Bool) : ∀ bs, ouB (bs ++ [b]) = if b then ouB bs else ouB bs ++ ⟨#[48, 10]⟩
  | [] => by cases b <;> decide +kernel
  | c :: bs => by
    rw [List.cons_append, ouB, ouB_app b bs, ouB]
    cases b <;> cases c
    all_goals simp only [Bool.false_eq_true, if_false, if_true, ByteArray.append_assoc]
theorem wnL_eq (e : Bool) : ∀ k, wnL e k = ouB (bsL e k)
  | 0 => rfl
  | k + 1 => by rw [wnL, bsL_succ, ouB_app, wnL_eq e k]
theorem snL_sz (e : Bool) : ∀ k, (snL e k).size ≤ 5 * k
  | 0 => Nat.le_refl _
  | k + 1 => by
    have := snL_sz e k
    have z1 : (⟨#[10]⟩ : ByteArray).size = 1 := rfl
    have z5 : (⟨#[97, 99, 116, 115, 10]⟩ : ByteArray).size = 5 := rfl
    rw [snL]
    split
    · rw [ByteArray.size_append]; omega
    · rw [ByteArray.size_append]; omega
theorem wnL_sz (e : Bool) : ∀ k, (wnL e k).size ≤ 2 * k
  | 0 => Nat.le_refl _
  | k + 1 => by
    have := wnL_sz e k
    have z2 : (⟨#[48, 10]⟩ : ByteArray).size = 2 := rfl
    rw [wnL]
    split
    · omega
    · rw [ByteArray.size_append]; omega
def ouLg (e : Bool) (k : Nat) : ByteArray := if k ≤ 300 then wnL e k else kBad ++ kNl
theorem runL_p (e : Bool) (k : Nat) (hk : k ≤ 400) : PFn Tryz.prog 7 [confA 1, .v (.string (snL e k))] (.v (.string (ouLg e k))) := by
  have hl : (lnsOf (snL e k)).length = k := by rw [lns_sn, List.length_map, bsL, List.length_map, List.length_range]
  have hs := snL_sz e k
  refine run1_p 1 (.inl rfl) (snL e k) (ouLg e k) (by omega) ?_
  rw [hl, ouLg]
  split
  · rw [lns_sn, sim_bs, wnL_eq]
  · rfl
theorem deskLong_p (z : Int) (e : Bool) : PFn Tryz.prog 3 [.v (.int .i64 z), .v (.bool e)] (.v (.bool true)) := by
  obtain ⟨K, hK, eK⟩ := umod z 20 (by decide) (by decide)
  refine FnC.intro Tryz.func3 rfl Tryz.ntmps3 rfl ?_; intro off w0
  ((repeat refine S.seq ?_); refine wG (k := ?_); try (refine L.nil ?_))
  ((repeat refine S.seq ?_); refine wG (k := ?_); try (refine L.nil ?_))
  obtain ⟨n, hn⟩ : ∃ n, n = 290 + K := ⟨_, rfl⟩
  have hn4 : n ≤ 309 := by omega
  refine slotAs 5 (.v (.int .i64 n)) rfl (Imp.of_eq (by rw [eK, hn]; rfl)) ?_
  ((repeat refine S.seq ?_); refine wG (k := ?_); try (refine L.nil ?_))
  ((repeat refine S.seq ?_); refine wG (k := ?_); try (refine L.nil ?_))
  repeat refine S.seq ?_
  refine S.cut (ι := Unit) (fun _ => [(5, .v (.int .i64 n)), (6, .v (.string (snL e n))), (7, .v (.string (wnL e n)))]) (fun _ => []) ?_ ?_
  · refine S.block (S.loop (ι := { i : Nat // i ≤ n }) (fun i => [(1, .v (.bool e)), (5, .v (.int .i64 n)), (6, .v (.string (snL e i.1))), (7, .v (.string (wnL e i.1))), (8, .v (.int .i64 i.1))]) (fun _ => []) (fun i => n - i.1) ?_ ?_)
    · exact fun a w h => ⟨⟨0, Nat.zero_le _⟩, h.weakP (by (repeat' (first | exact True.intro | exact Imp.refl _ | refine ⟨?_, ?_⟩))) (by (repeat (first | exact Sub.refl _ | refine Sub.pick (by first | exact p0 | exact pS p0 | exact pS (pS p0) | exact pS (pS (pS p0)) | exact pS (pS (pS (pS p0))) | exact pS (pS (pS (pS (pS p0))))) ?_)))⟩
    rintro ⟨i, hi⟩
    dsimp only
    have z1 := snL_sz e i
    have z2 := wnL_sz e i
    have z3 : (⟨#[10]⟩ : ByteArray).size = 1 := rfl
    have z4 : (⟨#[97, 99, 116, 115, 10]⟩ : ByteArray).size = 5 := rfl
    have z5 : (⟨#[48, 10]⟩ : ByteArray).size = 2 := rfl
    obtain ⟨u6, hS⟩ : ∃ u6, u6 = snL e i := ⟨_, rfl⟩
    obtain ⟨u7, hW⟩ : ∃ u7, u7 = wnL e i := ⟨_, rfl⟩
    have e1 := snL.eq_2 e i
    have e2 := wnL.eq_2 e i
    rw [← hS] at z1 e1 ⊢
    rw [← hW] at z2 e2 ⊢
    ((repeat refine S.seq ?_); refine wG (k := ?_); try (refine L.nil ?_))
    ((repeat refine S.seq ?_); refine S.cond rfl (fun hc => ?_) (fun hc => ?_) <;> (try first | refine S.skip ?_ | refine S.exit ?_))
    · have hc : i < n := by have := of_dec hc; omega
      repeat refine S.seq ?_
      refine S.cut (ι := Unit) (fun _ => [(1, .v (.bool e)), (5, .v (.int .i64 n)), (6, .v (.string (snL e (i + 1)))), (7, .v (.string (wnL e (i + 1)))), (8, .v (.int .i64 i))]) (fun _ => []) ?_ ?_
      · refine S.block ?_
        ((repeat refine S.seq ?_); refine wG (k := ?_); try (refine L.nil ?_))
        ((repeat refine S.seq ?_); refine S.cond rfl (fun h2 => ?_) (fun h2 => ?_) <;> (try first | refine S.skip ?_ | refine S.exit ?_))
        · have hb : nlB e i = true := h2
          rw [hb, if_pos rfl] at e1 e2
          ((repeat refine S.seq ?_); refine wG (k := ?_); try (refine L.nil ?_))
          refine slotAs 6 (.v (.string (snL e (i + 1)))) rfl (Imp.of_eq (by rw [e1])) ?_
          refine slotAs 7 (.v (.string (wnL e (i + 1)))) rfl (Imp.of_eq (by rw [e2])) ?_
          repeat refine S.seq ?_
          refine S.exit ?_
          exact fun a w hR => ⟨(), hR.weakP (by (repeat' (first | exact True.intro | exact Imp.refl _ | refine ⟨?_, ?_⟩))) (by (repeat (first | exact Sub.refl _ | refine Sub.pick (by first | exact p0 | exact pS p0 | exact pS (pS p0) | exact pS (pS (pS p0)) | exact pS (pS (pS (pS p0))) | exact pS (pS (pS (pS (pS p0))))) ?_)))⟩
        · have hb : nlB e i = false := h2
          rw [hb, if_neg (by decide)] at e1 e2
          ((repeat refine S.seq ?_); refine wG (k := ?_); try (refine L.nil ?_))
          ((repeat refine S.seq ?_); refine wG (k := ?_); try (refine L.nil ?_))
          refine slotAs 6 (.v (.string (snL e (i + 1)))) rfl (Imp.of_eq (by rw [e1])) ?_
          refine slotAs 7 (.v (.string (wnL e (i + 1)))) rfl (Imp.of_eq (by rw [e2])) ?_
          exact fun a w hR => ⟨(), hR.weakP (by (repeat' (first | exact True.intro | exact Imp.refl _ | refine ⟨?_, ?_⟩))) (by (repeat (first | exact Sub.refl _ | refine Sub.pick (by first | exact p0 | exact pS p0 | exact pS (pS p0) | exact pS (pS (pS p0)) | exact pS (pS (pS (pS p0))) | exact pS (pS (pS (pS (pS p0))))) ?_)))⟩
      intro _
      ((repeat refine S.seq ?_); refine wG (k := ?_); try (refine L.nil ?_))
      exact fun a w hR => ⟨⟨i + 1, hc⟩, by show n - (i + 1) < n - i; omega, hR.weakP (by (repeat' (first | exact True.intro | exact Imp.refl _ | refine ⟨?_, ?_⟩))) (by (repeat (first | exact Sub.refl _ | refine Sub.pick (by first | exact p0 | exact pS p0 | exact pS (pS p0) | exact pS (pS (pS p0)) | exact pS (pS (pS (pS p0))) | exact pS (pS (pS (pS (pS p0))))) ?_)))⟩
    have hc : i = n := by have := of_dec' hc; omega
    subst hc
    rw [hS, hW]
    exact fun a w hR => ⟨(), hR.weakP (by (repeat' (first | exact True.intro | exact Imp.refl _ | refine ⟨?_, ?_⟩))) (by (repeat (first | exact Sub.refl _ | refine Sub.pick (by first | exact p0 | exact pS p0 | exact pS (pS p0) | exact pS (pS (pS p0)) | exact pS (pS (pS (pS p0))) | exact pS (pS (pS (pS (pS p0))))) ?_)))⟩
  intro _
  ((repeat refine S.seq ?_); refine wG (k := ?_); try (refine L.nil ?_))
  repeat refine S.seq ?_
  refine S.cut (ι := Unit) (fun _ => [(6, .v (.string (snL e n))), (7, .v (.string (ouLg e n)))]) (fun _ => []) ?_ ?_
  · ((repeat refine S.seq ?_); refine S.cond rfl (fun hc => ?_) (fun hc => ?_) <;> (try first | refine S.skip ?_ | refine S.exit ?_))
    · have hc : ¬ n ≤ 300 := by have := of_dec hc; omega
      ((repeat refine S.seq ?_); refine wG (k := ?_); try (refine L.nil ?_))
      refine slotAs 7 (.v (.string (ouLg e n))) rfl (Imp.of_eq (by rw [ouLg, if_neg hc]; rfl)) ?_
      exact fun a w hR => ⟨(), hR.weakP (by (repeat' (first | exact True.intro | exact Imp.refl _ | refine ⟨?_, ?_⟩))) (by (repeat (first | exact Sub.refl _ | refine Sub.pick (by first | exact p0 | exact pS p0 | exact pS (pS p0) | exact pS (pS (pS p0)) | exact pS (pS (pS (pS p0))) | exact pS (pS (pS (pS (pS p0))))) ?_)))⟩
    · have hc : n ≤ 300 := by have := of_dec' hc; omega
      refine slotAs 7 (.v (.string (ouLg e n))) rfl (Imp.of_eq (by rw [ouLg, if_pos hc])) ?_
      exact fun a w hR => ⟨(), hR.weakP (by (repeat' (first | exact True.intro | exact Imp.refl _ | refine ⟨?_, ?_⟩))) (by (repeat (first | exact Sub.refl _ | refine Sub.pick (by first | exact p0 | exact pS p0 | exact pS (pS p0) | exact pS (pS (pS p0)) | exact pS (pS (pS (pS p0))) | exact pS (pS (pS (pS (pS p0))))) ?_)))⟩
  intro _
  repeat refine S.seq ?_
  refine S.region ?_
  refine wP told25_p (k := ?_)
  (refine wL (k := ?_); try (refine L.nil ?_))
  refine wQ (fun _ => conf_p 0 0 ⟨.inl rfl, rfl⟩) (k := ?_)
  (refine wL (k := ?_); try (refine L.nil ?_))
  refine wQ (fun _ => runL_p e n (by omega)) (k := ?_)
  (refine wL (k := ?_); try (refine L.nil ?_))
  (((repeat refine S.seq ?_); refine S.ret ?_); refine wRt (k := ?_))
  exact Imp.of_eq (congrArg (fun b => AV.v (.bool b)) (beq_self_eq_true (ouLg e n)))
end Go.Proofs.YtbogfmgfafdjiaaGreatDoor
