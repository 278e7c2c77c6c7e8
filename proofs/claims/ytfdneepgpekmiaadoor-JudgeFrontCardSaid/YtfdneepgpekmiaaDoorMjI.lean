/- Texts of this proof, laid together: JrE, JrF, JrG. -/
import Derived.Test.YtfdneepgpekmiaaDoorMjH
/- The reference's judge: publishing. -/
namespace Go.Proofs.YtfdneepgpekmiaaDoor
set_option linter.unusedVariables false
set_option linter.unusedSimpArgs false
set_option maxHeartbeats 8000000
open Go.RowKit
set_option maxRecDepth 4000

theorem rnewMs_succ (r : RJ) (a : ActD) (k : Nat) : rnewMs r a (k + 1) = rnewMs r a k ++ [rnewM r a k] := by
  unfold rnewMs
  rw [List.range_succ, List.map_append]
  rfl
theorem rnewMs_len (r : RJ) (a : ActD) (k : Nat) : (rnewMs r a k).length = k := by unfold rnewMs; rw [List.length_map, List.length_range]

theorem rpublish_p (b : Nat) (xw xm xt : Value) (r : RJ) (a : ActD) (n : Nat) (ok : RjOk r n) (ao : ActOk a) : FnC Tryd.prog 65 [.ptr 40 b 0, a.av] (rjR b xw xm xt r)
    (fun v F' => ∃ xw' xm', v = .v (.bool (!rpubNo r a)) ∧ F' = rjR b xw' xm' xt (rpubS r a)) := by
  have hwl := ok.wl
  have hml := ok.ml
  have hn := ok.n1
  have hbody := ao.body
  have hN := ok.wl2 a.line
  unfold rjR
  refine FnC.intro Tryd.func65 rfl Tryd.ntmps65 rfl ?_; intro off w0
  repeat refine S.seq ?_
  refine S.region ?_
  refine L.box 91 rfl rfl rfl rfl rfl trivial rfl fun b3 => ?_
  (refine L.go (T := tt) tt_ok rfl rfl ?sd109 ?_; (try (case sd109 => (repeat' (first | exact trivial | with_reducible refine zI ?_ ?_)))); try (refine L.nil ?_))
  refine freezeBlk 3 91 rfl rfl rfl ?_
  ((repeat refine S.seq ?_); refine S.region (L.go (T := tt) tt_ok rfl rfl ?sd96 ?_); (try (case sd96 => (repeat' (first | exact trivial | with_reducible refine zI ?_ ?_)))); try (refine L.nil ?_))
  ((repeat refine S.seq ?_); refine S.region (L.go (T := tt) tt_ok rfl rfl ?sd97 ?_); (try (case sd97 => (repeat' (first | exact trivial | with_reducible refine zI ?_ ?_)))); try (refine L.nil ?_))
  repeat refine S.seq ?_
  refine S.block (S.loop (ι := { k : Nat // k ≤ r.wait.length }) (fun k => [(0, .ptr 40 b 0), (3, .pel 14 a.cells), (5, .v (.int .i64 (lastN (r.wait.take k.1) a.line))), (6, .v (.int .i64 k.1))])
    (fun k => rjR b xw xm xt r) (fun k => r.wait.length - k.1) ?_ ?_)
  · exact fun a w h => ⟨⟨0, Nat.zero_le _⟩, h.weakP (by (repeat' (first | exact True.intro | exact Imp.refl _ | refine ⟨?_, ?_⟩))) (by first | (unfold rjR; (repeat (first | exact Sub.refl _ | refine Sub.pick (by first | exact p0 | exact pS p0 | exact pS (pS p0) | exact pS (pS (pS p0)) | exact pS (pS (pS (pS p0))) | exact pS (pS (pS (pS (pS p0))))) ?_))) | (repeat (first | exact Sub.refl _ | refine Sub.pick (by first | exact p0 | exact pS p0 | exact pS (pS p0) | exact pS (pS (pS p0)) | exact pS (pS (pS (pS p0))) | exact pS (pS (pS (pS (pS p0))))) ?_)))⟩
  rintro ⟨i, hi⟩
  dsimp only
  unfold rjR
  ((repeat refine S.seq ?_); refine S.region (L.go (T := tt) tt_ok rfl rfl ?sd98 ?_); (try (case sd98 => (repeat' (first | exact trivial | with_reducible refine zI ?_ ?_ | rfl)))); try (refine L.nil ?_))
  ((repeat refine S.seq ?_); refine S.cond rfl (fun h1 => ?_) (fun h1 => ?_) <;> (try first | refine S.skip ?_ | refine S.exit ?_))
  · have h1n : i < r.wait.length := by have := of_dec h1; omega
    obtain ⟨p, hp⟩ : ∃ p, p = r.wait.getD i default := ⟨_, rfl⟩
    obtain ⟨o1, o2, o3, o4⟩ := ok.wait p (by rw [hp, getD_get h1n]; exact List.getElem_mem _)
    have hs := lastN_app (r.wait.take i) p a.line
    rw [hp, ← take_s h1n, ← hp] at hs
    repeat refine S.seq ?_
    refine S.block ?_
    ((repeat refine S.seq ?_); refine S.region (L.go (T := tt) tt_ok rfl rfl ?sd99 ?_); (try (case sd99 => (repeat' (first | exact trivial | with_reducible refine zI ?_ ?_ | rfl | omega)))); try (refine L.nil ?_))
    refine L.alloc (T := tt) 58 tt_ok rfl rfl rfl rfl rfl fun b7 => ?_
    (refine L.store (T := tt) tt_ok rfl rfl rfl rfl rfl rfl ?sd110 ?_; (try (case sd110 => (repeat' (first | exact trivial | with_reducible refine zI ?_ ?_ | rfl | exact zN rfl)))))
    refine L.nil ?_
    refine freezeBlk 7 58 rfl rfl rfl ?_
    refine slotAs 7 (.pel 6 p.cells) rfl (Imp.of_eq (by rw [hp]; rfl)) ?_
    ((repeat refine S.seq ?_); refine S.region (L.go (T := tt) tt_ok rfl rfl ?sd100 ?_); (try (case sd100 => (repeat' (first | exact trivial | exact zA | with_reducible refine zI ?_ ?_ | exact zB | exact zC | exact zD)))); try (refine L.nil ?_))
    refine slotAs 43 (.v (.bool (decide (p.line = a.line)))) rfl (Imp.of_eq (by rw [← lineB_eq]; rfl)) ?_
    repeat refine S.seq ?_
    refine S.cut (ι := Unit) (fun k => [(0, .ptr 40 b 0), (3, .pel 14 a.cells), (5, .v (.int .i64 (lastN (r.wait.take (i + 1)) a.line))), (6, .v (.int .i64 i))]) (fun k => rjR b xw xm xt r) ?_ ?_
    · ((repeat refine S.seq ?_); refine S.cond rfl (fun h2 => ?_) (fun h2 => ?_) <;> (try first | refine S.skip ?_ | refine S.exit ?_))
      · have h2n : p.line = a.line := of_dec h2
        ((repeat refine S.seq ?_); refine S.region (L.go (T := tt) tt_ok rfl rfl ?sd101 ?_); (try (case sd101 => (repeat' (first | exact trivial | with_reducible refine zI ?_ ?_ | (unfold fits; omega))))); try (refine L.nil ?_))
        refine slotAs 5 (.v (.int .i64 (lastN (r.wait.take (i + 1)) a.line))) rfl (Imp.of_eq (by rw [hs, if_pos h2n])) ?_
        exact fun a w h => ⟨(), h.weakP (by (repeat' (first | exact True.intro | exact Imp.refl _ | refine ⟨?_, ?_⟩))) (by first | (unfold rjR; (repeat (first | exact Sub.refl _ | refine Sub.pick (by first | exact p0 | exact pS p0 | exact pS (pS p0) | exact pS (pS (pS p0)) | exact pS (pS (pS (pS p0))) | exact pS (pS (pS (pS (pS p0))))) ?_))) | (repeat (first | exact Sub.refl _ | refine Sub.pick (by first | exact p0 | exact pS p0 | exact pS (pS p0) | exact pS (pS (pS p0)) | exact pS (pS (pS (pS p0))) | exact pS (pS (pS (pS (pS p0))))) ?_)))⟩
      · have h2n : ¬ p.line = a.line := of_dec' h2
        refine slotAs 5 (.v (.int .i64 (lastN (r.wait.take (i + 1)) a.line))) rfl (Imp.of_eq (by rw [hs, if_neg h2n])) ?_
        exact fun a w h => ⟨(), h.weakP (by (repeat' (first | exact True.intro | exact Imp.refl _ | refine ⟨?_, ?_⟩))) (by first | (unfold rjR; (repeat (first | exact Sub.refl _ | refine Sub.pick (by first | exact p0 | exact pS p0 | exact pS (pS p0) | exact pS (pS (pS p0)) | exact pS (pS (pS (pS p0))) | exact pS (pS (pS (pS (pS p0))))) ?_))) | (repeat (first | exact Sub.refl _ | refine Sub.pick (by first | exact p0 | exact pS p0 | exact pS (pS p0) | exact pS (pS (pS p0)) | exact pS (pS (pS (pS p0))) | exact pS (pS (pS (pS (pS p0))))) ?_)))⟩
    rintro ⟨⟩
    ((repeat refine S.seq ?_); refine S.region (L.go (T := tt) tt_ok rfl rfl ?sd102 ?_); (try (case sd102 => (repeat' (first | exact trivial | with_reducible refine zI ?_ ?_ | (unfold fits; omega))))); try (refine L.nil ?_))
    exact fun a w h => ⟨⟨i + 1, by omega⟩, by show r.wait.length - (i + 1) < r.wait.length - i; omega, h.weakP (by (repeat' (first | exact True.intro | exact Imp.refl _ | refine ⟨?_, ?_⟩))) (by first | (unfold rjR; (repeat (first | exact Sub.refl _ | refine Sub.pick (by first | exact p0 | exact pS p0 | exact pS (pS p0) | exact pS (pS (pS p0)) | exact pS (pS (pS (pS p0))) | exact pS (pS (pS (pS (pS p0))))) ?_))) | (repeat (first | exact Sub.refl _ | refine Sub.pick (by first | exact p0 | exact pS p0 | exact pS (pS p0) | exact pS (pS (pS p0)) | exact pS (pS (pS (pS p0))) | exact pS (pS (pS (pS (pS p0))))) ?_)))⟩
  have h1n : i = r.wait.length := by have := of_dec' h1; omega
  subst h1n
  rw [List.take_length]
  ((repeat refine S.seq ?_); refine S.region (L.go (T := tt) tt_ok rfl rfl ?sd103 ?_); (try (case sd103 => (repeat' (first | exact trivial | exact zA | with_reducible refine zI ?_ ?_ | exact zB | exact zC | exact zD | exact zE | (unfold fits; simp_all; omega))))); try (refine L.nil ?_))
  refine slotAs 64 (.v (.bool (rpubNo r a))) rfl (Imp.of_eq rfl) ?_
  ((repeat refine S.seq ?_); refine S.cond rfl (fun h3 => ?_) (fun h3 => ?_) <;> (try first | refine S.skip ?_ | refine S.exit ?_))
  · have e1 : rpubNo r a = true := h3
    have e2 : rpubS r a = r := by rw [rpubS, if_pos e1]
    ((repeat refine S.seq ?_); refine S.region (L.go (T := tt) tt_ok rfl rfl ?sd104 ?_); (try (case sd104 => (repeat' (first | exact trivial | with_reducible refine zI ?_ ?_)))); try (refine L.nil ?_))
    ((repeat refine S.seq ?_); refine S.ret ?_)
    rw [e1, e2]
    exact E.ret (T := tt) tt_ok rfl rfl (by (repeat' (first | exact trivial | with_reducible refine zI ?_ ?_))) (F' := rjR b xw xm xt r) (Imp.refl _) (by unfold rjR; (repeat (first | exact List.nil_sublist _ | refine List.Sublist.cons_cons _ ?_ | refine List.Sublist.cons _ ?_))) ⟨xw, xm, rfl, rfl⟩
  have e1 : rpubNo r a = false := h3
  have hr : 1 ≤ a.many ∧ a.many ≤ 8 ∧ a.seq = lastN r.wait a.line + 1 := by
    have := e1
    unfold rpubNo at this
    simp only [Bool.or_eq_false_iff, decide_eq_false_iff_not, bne_eq_false_iff_eq] at this
    omega
  have e2 : rpubS r a = { r with ms := r.ms ++ rnewMs r a a.many.toNat, wait := r.wait ++ [⟨a.cl, a.q, a.key, a.seq, a.many, 0⟩] } := by rw [rpubS, if_neg (by rw [e1]; decide)]
  rw [e1, e2]
  ((repeat refine S.seq ?_); refine S.region (L.go (T := tt) tt_ok rfl rfl ?sd105 ?_); (try (case sd105 => (repeat' (first | exact trivial | with_reducible refine zI ?_ ?_)))); try (refine L.nil ?_))
  have hz : r.ms ++ rnewMs r a 0 = r.ms := by rw [show rnewMs r a 0 = [] from rfl, List.append_nil]
  refine ownAs 42 (gOf SeenD.cells (r.ms ++ rnewMs r a 0)) rfl (show r.ms.length = (r.ms ++ rnewMs r a 0).length by rw [hz]) (fun j hj => by rw [hz]) ?_
  repeat refine S.seq ?_
  refine S.block (S.loop (ι := { k : Nat × Value // k.1 ≤ a.many.toNat }) (fun k => [(0, .ptr 40 b 0), (3, .pel 14 a.cells), (8, .v (.int .i64 k.1.1))])
    (fun k => rjR b xw k.1.2 xt { r with ms := r.ms ++ rnewMs r a k.1.1 }) (fun k => a.many.toNat - k.1.1) ?_ ?_)
  · exact fun a w h => ⟨⟨(0, xm), Nat.zero_le _⟩, h.weakP (by (repeat' (first | exact True.intro | exact Imp.refl _ | refine ⟨?_, ?_⟩))) (by first | (unfold rjR; (repeat (first | exact Sub.refl _ | refine Sub.pick (by first | exact p0 | exact pS p0 | exact pS (pS p0) | exact pS (pS (pS p0)) | exact pS (pS (pS (pS p0))) | exact pS (pS (pS (pS (pS p0))))) ?_))) | (repeat (first | exact Sub.refl _ | refine Sub.pick (by first | exact p0 | exact pS p0 | exact pS (pS p0) | exact pS (pS (pS p0)) | exact pS (pS (pS (pS p0))) | exact pS (pS (pS (pS (pS p0))))) ?_)))⟩
  rintro ⟨⟨k, y⟩, hk⟩
  dsimp only at hk ⊢
  have hlk : (r.ms ++ rnewMs r a k).length = r.ms.length + k := by rw [List.length_append, rnewMs_len]
  obtain ⟨l, hl⟩ : ∃ l, l = r.ms ++ rnewMs r a k := ⟨_, rfl⟩
  rw [← hl] at hlk ⊢
  unfold rjR
  ((repeat refine S.seq ?_); refine S.region (L.go (T := tt) tt_ok rfl rfl ?sd106 ?_); (try (case sd106 => (repeat' (first | exact trivial | with_reducible refine zI ?_ ?_)))); try (refine L.nil ?_))
  ((repeat refine S.seq ?_); refine S.cond rfl (fun h5 => ?_) (fun h5 => ?_) <;> (try first | refine S.skip ?_ | refine S.exit ?_))
  · have h5n : k < a.many.toNat := by have := of_dec h5; omega
    have hks : r.ms ++ rnewMs r a (k + 1) = l ++ [rnewM r a k] := by rw [rnewMs_succ, ← List.append_assoc, ← hl]
    repeat refine S.seq ?_
    refine S.block ?_
    repeat refine S.seq ?_
    refine S.draw [(4, [40]), (10, [40])] mixed ?_
    (refine H.ts (T := tt) [0, 1, 2, 3, 4, 5, 6, 7, 8, 9, 10, 11, 12, 13, 14, 15, 16, 17, 18, 19, 20, 21, 22, 23, 24] tt_ok (by kernel_rfl) (by kernel_rfl) (by kernel_rfl) (by intro ch a a' w h; obtain ⟨_, _, _, _, _, h, _⟩ := h; cases h) rfl ?sd111 ?_; (try (case sd111 => (repeat' (first | exact trivial | with_reducible refine zI ?_ ?_ | rfl | (unfold fits; omega))))))
    refine H.callP 25 rfl (by kernel_rfl) (by kernel_rfl) rfl rfl rfl rfl rfl rfl rfl ⟨trivial, by (repeat' (first | exact trivial | with_reducible refine zI ?_ ?_))⟩ rfl (by exact Imps.refl _) ((rbody_p a.body a.many (k : Int) hbody (by omega) (by omega))) ?_
    refine H.rebase ?_
    (refine H.ts (T := tt) [26, 27] tt_ok (by kernel_rfl) (by kernel_rfl) (by kernel_rfl) (by intro ch a a' w h; obtain ⟨_, _, _, _, _, h, _⟩ := h; cases h) rfl ?sd112 ?_; (try (case sd112 => (repeat' (first | exact trivial | with_reducible refine zI ?_ ?_ | rfl | exact zN rfl)))))
    refine H.o1 28 rfl (by kernel_rfl) (by kernel_rfl) (O.buildSlice (T := tt) 57 tt_ok rfl rfl rfl rfl rfl rfl (by decide) (by decide) rfl rfl (by (repeat' (first | exact trivial | with_reducible refine zI ?_ ?_ | rfl | exact zN rfl)))) (.inr rfl) rfl fun x99 => ?_
    refine H.o1 29 rfl (by kernel_rfl) (by kernel_rfl) (O.append (T := tt) tt_ok rfl rfl rfl rfl rfl rfl rfl rfl rfl rfl (by (repeat' (first | exact trivial | with_reducible refine zI ?_ ?_ | rfl))) ⟨rfl, by decide, by decide⟩ (by simp; omega)) (.inl (by kernel_rfl)) (by kernel_rfl) fun y100 => ?_
    (refine H.ts (T := tt) [30, 31] tt_ok (by kernel_rfl) (by kernel_rfl) (by kernel_rfl) (by intro ch a a' w h; obtain ⟨_, _, _, _, _, h, _⟩ := h; cases h) rfl ?sd113 ?_; (try (case sd113 => (repeat' (first | exact trivial | with_reducible refine zI ?_ ?_)))))
    (refine H.store (T := tt) 32 rfl (by kernel_rfl) (by kernel_rfl) tt_ok rfl rfl rfl rfl rfl rfl ?sd116 rfl (by kernel_rfl) ?_; (try (case sd116 => (repeat' (first | exact trivial | with_reducible refine zI ?_ ?_ | rfl | exact zN rfl)))))
    refine H.done (by kernel_rfl) ?_
    refine ownAs 42 (gOf SeenD.cells (r.ms ++ rnewMs r a (k + 1))) rfl (show l.length + 1 = (r.ms ++ rnewMs r a (k + 1)).length by rw [hks]; simp) (fun i hi => ?_) ?_
    · rw [hks]
      exact app1_h SeenD.cells l (rnewM r a k) _ rfl rfl hi
    ((repeat refine S.seq ?_); refine S.region (L.go (T := tt) tt_ok rfl rfl ?sd107 ?_); (try (case sd107 => (repeat' (first | exact trivial | with_reducible refine zI ?_ ?_ | (unfold fits; omega))))); try (refine L.nil ?_))
    exact fun a w h => ⟨⟨(k + 1, y100), by show k + 1 ≤ _; omega⟩, by show _ - (k + 1) < _ - k; omega, h.weakP (by (repeat' (first | exact True.intro | exact Imp.refl _ | refine ⟨?_, ?_⟩))) (by first | (unfold rjR; (repeat (first | exact Sub.refl _ | refine Sub.pick (by first | exact p0 | exact pS p0 | exact pS (pS p0) | exact pS (pS (pS p0)) | exact pS (pS (pS (pS p0))) | exact pS (pS (pS (pS (pS p0))))) ?_))) | (repeat (first | exact Sub.refl _ | refine Sub.pick (by first | exact p0 | exact pS p0 | exact pS (pS p0) | exact pS (pS (pS p0)) | exact pS (pS (pS (pS p0))) | exact pS (pS (pS (pS (pS p0))))) ?_)))⟩
  have h5n : k = a.many.toNat := by have := of_dec' h5; omega
  subst h5n
  repeat refine S.seq ?_
  refine S.draw [(4, [40])] mixed ?_
  (refine H.ts (T := tt) [0, 1, 2, 3, 4, 5, 6, 7, 8, 9, 10, 11, 12, 13, 14, 15] tt_ok (by kernel_rfl) (by kernel_rfl) (by kernel_rfl) (by intro ch a a' w h; obtain ⟨_, _, _, _, _, h, _⟩ := h; cases h) rfl ?sd114 ?_; (try (case sd114 => (repeat' (first | exact trivial | with_reducible refine zI ?_ ?_ | rfl | exact zN rfl)))))
  refine H.o1 16 rfl (by kernel_rfl) (by kernel_rfl) (O.buildSlice (T := tt) 57 tt_ok rfl rfl rfl rfl rfl rfl (by decide) (by decide) rfl rfl (by (repeat' (first | exact trivial | with_reducible refine zI ?_ ?_ | rfl | exact zN rfl)))) (.inr rfl) rfl fun x119 => ?_
  refine H.o1 17 rfl (by kernel_rfl) (by kernel_rfl) (O.append (T := tt) tt_ok rfl rfl rfl rfl rfl rfl rfl rfl rfl rfl (by (repeat' (first | exact trivial | with_reducible refine zI ?_ ?_ | rfl))) ⟨rfl, by decide, by decide⟩ (by simp; omega)) (.inl (by kernel_rfl)) (by kernel_rfl) fun y120 => ?_
  (refine H.ts (T := tt) [18, 19] tt_ok (by kernel_rfl) (by kernel_rfl) (by kernel_rfl) (by intro ch a a' w h; obtain ⟨_, _, _, _, _, h, _⟩ := h; cases h) rfl ?sd115 ?_; (try (case sd115 => (repeat' (first | exact trivial | with_reducible refine zI ?_ ?_)))))
  (refine H.store (T := tt) 20 rfl (by kernel_rfl) (by kernel_rfl) tt_ok rfl rfl rfl rfl rfl rfl ?sd117 rfl (by kernel_rfl) ?_; (try (case sd117 => (repeat' (first | exact trivial | with_reducible refine zI ?_ ?_ | rfl | exact zN rfl)))))
  refine H.done (by kernel_rfl) ?_
  refine ownAs 41 (gOf PostD.cells (r.wait ++ [(⟨a.cl, a.q, a.key, a.seq, a.many, 0⟩ : PostD)])) rfl (show r.wait.length + 1 = (r.wait ++ [(⟨a.cl, a.q, a.key, a.seq, a.many, 0⟩ : PostD)]).length by simp) (fun i hi => ?_) ?_
  · exact app1_h PostD.cells r.wait (⟨a.cl, a.q, a.key, a.seq, a.many, 0⟩ : PostD) _ rfl rfl hi
  ((repeat refine S.seq ?_); refine S.region (L.go (T := tt) tt_ok rfl rfl ?sd108 ?_); (try (case sd108 => (repeat' (first | exact trivial | with_reducible refine zI ?_ ?_)))); try (refine L.nil ?_))
  ((repeat refine S.seq ?_); refine S.ret ?_)
  rw [← hl]
  exact E.ret (T := tt) tt_ok rfl rfl (by (repeat' (first | exact trivial | with_reducible refine zI ?_ ?_))) (F' := rjR b y120 y xt { r with ms := l, wait := r.wait ++ [⟨a.cl, a.q, a.key, a.seq, a.many, 0⟩] }) (Imp.refl _) (by unfold rjR; (repeat (first | exact List.nil_sublist _ | refine List.Sublist.cons_cons _ ?_ | refine List.Sublist.cons _ ?_))) ⟨y120, y, rfl, rfl⟩
end Go.Proofs.YtfdneepgpekmiaaDoor

/- The reference's judge: one act. -/
namespace Go.Proofs.YtfdneepgpekmiaaDoor
set_option linter.unusedVariables false
set_option linter.unusedSimpArgs false
set_option maxHeartbeats 8000000
open Go.RowKit
set_option maxRecDepth 4000

theorem lastN_map (w : List PostD) (k : LineK) : lastN w k = (w.map fun p => (p.line, p.fst + p.many - 1)).foldl (fun n x => if x.1 = k then x.2 else n) 0 := by
  unfold lastN
  rw [List.foldl_map]
theorem set_map {α β : Type} [Inhabited α] {l : List α} {i : Nat} {x : α} (f : α → β) (h : f x = f (l.getD i default)) : (l.set i x).map f = l.map f := by
  rw [List.map_set]
  by_cases hi : i < l.length
  · apply List.ext_getElem?
    intro j
    rw [List.getElem?_set]
    split
    · rename_i e
      subst e
      rw [if_pos (by rw [List.length_map]; exact hi), List.getElem?_map, List.getElem?_eq_getElem hi, h, getD_get hi]
      rfl
    · rfl
  · rw [List.set_eq_of_length_le (by rw [List.length_map]; omega)]
theorem lastN_set {w : List PostD} {i : Nat} {st : Int} (k : LineK) : lastN (w.set i { w.getD i default with st := st }) k = lastN w k := by
  rw [lastN_map, lastN_map]
  refine congrArg (List.foldl _ 0) (set_map (fun p : PostD => (p.line, p.fst + p.many - 1)) ?_)
  rfl
theorem mem_set_or {α : Type} {l : List α} {i : Nat} {x y : α} (h : y ∈ l.set i x) : y ∈ l ∨ y = x := List.mem_or_eq_of_mem_set h
theorem getD_mem {α : Type} [Inhabited α] {l : List α} {i : Nat} (h : i < l.length) : l.getD i default ∈ l := by rw [getD_get h]; exact List.getElem_mem _

theorem rans_lt {r : RJ} {a : ActD} (h : rAnsB r a = true) : (rAns r a).toNat < r.wait.length := by
  unfold rAnsB at h
  simp only [Bool.and_eq_true, Bool.not_eq_true', decide_eq_false_iff_not] at h
  have := h.1
  unfold rAns pidx at this ⊢
  split at this
  · rename_i k hk
    have := List.mem_range.1 (List.mem_of_find?_eq_some hk)
    simpa using this
  · omega
theorem rgot_lt {r : RJ} {a : ActD} {fr : Int} (h : rSetB r a fr = true) : (rGot r a fr).toNat < r.tags.length ∧ rGotP r a fr (rGot r a fr).toNat = true := by
  unfold rSetB at h
  simp only [Bool.not_eq_true', decide_eq_false_iff_not] at h
  unfold rGot pidx at h ⊢
  split at h
  · rename_i k hk
    have h1 := List.mem_range.1 (List.mem_of_find?_eq_some hk)
    have h2 := List.find?_some hk
    simp only [Int.toNat_natCast]
    exact ⟨h1, h2⟩
  · omega
theorem rdel_lt {r : RJ} {a : ActD} (h : rDelB r a = true) : 0 ≤ rK r a ∧ (rK r a).toNat < r.ms.length := by
  unfold rDelB at h
  simp only [Bool.and_eq_true, Bool.not_eq_true'] at h
  have h3 := h.1.2
  unfold rD3 at h3
  simp only [Bool.or_eq_false_iff, decide_eq_false_iff_not] at h3
  have := rLast_lt (rHit r a) r.ms.length
  have h4 := h3.1.1
  unfold rK at h4 ⊢
  omega
theorem RjOk.up {r : RJ} {n : Nat} (h : RjOk r n) (hn : n < 1000) : RjOk r (n + 1) := ⟨Nat.le_succ_of_le h.wl, h.ml, Nat.le_succ_of_le h.tl, by omega, h.wait, h.wl2, h.post, h.gm⟩
theorem rjok_pub {r : RJ} {n : Nat} (h : RjOk r n) (hn : n < 1000) (a : ActD) : RjOk (rpubS r a) (n + 1) := by
  unfold rpubS
  split
  · exact h.up hn
  rename_i e1
  have hr : 1 ≤ a.many ∧ a.many ≤ 8 ∧ a.seq = lastN r.wait a.line + 1 := by
    have := e1
    unfold rpubNo at this
    simp only [Bool.not_eq_true, Bool.or_eq_false_iff, decide_eq_false_iff_not, bne_eq_false_iff_eq] at this
    omega
  have hN := h.wl2 a.line
  have hml := h.ml
  have hwl := h.wl
  have hlen := rnewMs_len r a a.many.toNat
  refine ⟨by rw [List.length_append]; simp; exact hwl, by rw [List.length_append, List.length_append, hlen]; simp; omega, Nat.le_succ_of_le h.tl, by omega, fun p hp => ?_, fun k => ?_, fun x hx => ?_, fun g hg => ?_⟩
  · rcases List.mem_append.1 hp with hp | hp
    · exact h.wait p hp
    · rw [List.mem_singleton] at hp
      subst hp
      simp only
      omega
  · have hk := h.wl2 k
    simp only
    rw [lastN_app, List.length_append, hlen]
    split <;> (try simp only) <;> omega
  · rw [List.length_append]
    rcases List.mem_append.1 hx with hx | hx
    · exact Nat.lt_succ_of_lt (h.post x hx)
    · unfold rnewMs at hx
      obtain ⟨i, -, rfl⟩ := List.mem_map.1 hx
      exact Nat.lt_succ_self _
  · rw [List.length_append]
    exact Nat.lt_of_lt_of_le (h.gm g hg) (Nat.le_add_right _ _)
theorem rjok_ans {r : RJ} {n : Nat} (h : RjOk r n) (a : ActD) (st : Int) : RjOk (rAnsS r a st) n := by
  unfold rAnsS
  split
  · rename_i hb
    have hl := rans_lt hb
    refine ⟨by rw [List.length_set]; exact h.wl, by rw [List.length_set]; exact h.ml, h.tl, h.n1, fun p hp => ?_, fun k => ?_, fun x hx => by rw [List.length_set]; exact h.post x hx, h.gm⟩
    · rcases mem_set_or hp with hp | hp
      · exact h.wait p hp
      · subst hp
        have := h.wait _ (getD_mem hl)
        exact this
    · simp only
      rw [lastN_set]
      exact h.wl2 k
  · exact h
theorem rjok_del {r : RJ} {n : Nat} (h : RjOk r n) (hn : n < 1000) (a : ActD) : RjOk (rDelS r a) (n + 1) := by
  unfold rDelS
  split
  · rename_i hb
    obtain ⟨h0, hl⟩ := rdel_lt hb
    refine ⟨Nat.le_succ_of_le h.wl, by rw [List.length_set]; exact h.ml, by rw [List.length_append]; exact Nat.succ_le_succ h.tl, by omega, h.wait, fun k => by rw [List.length_set]; exact h.wl2 k, fun x hx => ?_, fun g hg => ?_⟩
    · rcases mem_set_or hx with hx | hx
      · exact h.post x hx
      · subst hx
        have := h.post _ (getD_mem hl)
        exact this
    · rw [List.length_set]
      rcases List.mem_append.1 hg with hg | hg
      · exact h.gm g hg
      · rw [List.mem_singleton] at hg
        subst hg
        exact hl
  · exact h.up hn
theorem rGo_post (x : SeenD) (to : Int) : (rGo x to).post = x.post ∧ (rGo x to).m = x.m ∧ (rGo x to).q = x.q ∧ (rGo x to).del = x.del := by
  unfold rGo
  split
  · exact ⟨rfl, rfl, rfl, rfl⟩
  · split <;> exact ⟨rfl, rfl, rfl, rfl⟩
theorem rjok_set {r : RJ} {n : Nat} (h : RjOk r n) (a : ActD) (fr to : Int) : RjOk (rSetS r a fr to) n := by
  unfold rSetS
  split
  · rename_i hb
    obtain ⟨hl, hp⟩ := rgot_lt hb
    have hm : (rGotG r a fr).m < r.ms.length := h.gm _ (getD_mem hl)
    refine ⟨h.wl, by rw [List.length_set]; exact h.ml, by rw [List.length_set]; exact h.tl, h.n1, h.wait, fun k => by rw [List.length_set]; exact h.wl2 k, fun x hx => ?_, fun g hg => ?_⟩
    · rcases mem_set_or hx with hx | hx
      · exact h.post x hx
      · subst hx
        rw [(rGo_post _ _).1]
        exact h.post _ (getD_mem hm)
    · rw [List.length_set]
      rcases mem_set_or hg with hg | hg
      · exact h.gm g hg
      · subst hg
        exact hm
  · exact h
theorem rjok_add {r : RJ} {n : Nat} (h : RjOk r n) (hn : n < 1000) (a : ActD) : RjOk (addJ r a).2 (n + 1) := by
  unfold addJ
  split
  · exact h.up hn
  split
  · exact rjok_pub h hn a
  split
  · exact (rjok_ans h a 1).up hn
  split
  · exact (rjok_ans h a 2).up hn
  split
  · exact rjok_del h hn a
  split
  · exact (rjok_set h a 0 1).up hn
  split
  · exact (rjok_set h a 0 2).up hn
  split
  · exact (rjok_set h a 1 3).up hn
  · exact h.up hn
theorem rj0_ok : RjOk rj0 0 := by
  refine ⟨Nat.le_refl _, Nat.le_refl _, Nat.le_refl _, by omega, fun p hp => ?_, fun k => ⟨Int.le_refl _, Int.le_refl _⟩, fun p hp => ?_, fun p hp => ?_⟩ <;> cases hp

theorem radd_p (b : Nat) (xw xm xt : Value) (r : RJ) (a : ActD) (n : Nat) (ok : RjOk r n) (ao : ActOk a) : FnC Tryd.prog 51 [.ptr 40 b 0, a.av] (rjR b xw xm xt r)
    (fun v F' => ∃ xw' xm' xt', v = .v (.bool (addJ r a).1) ∧ F' = rjR b xw' xm' xt' (addJ r a).2) := by
  refine FnC.intro Tryd.func51 rfl Tryd.ntmps51 rfl ?_; intro off w0
  repeat refine S.seq ?_
  refine S.region ?_
  refine L.box 91 rfl rfl rfl rfl rfl trivial rfl fun b3 => ?_
  (refine L.go (T := tt) tt_ok rfl rfl ?sd132 ?_; (try (case sd132 => (repeat' (first | exact trivial | with_reducible refine zI ?_ ?_)))); try (refine L.nil ?_))
  refine freezeBlk 3 91 rfl rfl rfl ?_
  refine rowsEq (rjR b xw xm xt r) rfl ?_
  ((repeat refine S.seq ?_); refine S.region (L.go (T := tt) tt_ok rfl rfl ?sd118 ?_); (try (case sd118 => (repeat' (first | exact trivial | exact zA | with_reducible refine zI ?_ ?_ | exact zB | exact zC | exact zE)))); try (refine L.nil ?_))
  refine slotAs 22 (.v (.bool (argNoJ a))) rfl (Imp.of_eq rfl) ?_
  ((repeat refine S.seq ?_); refine S.cond rfl (fun h0 => ?_) (fun h0 => ?_) <;> (try first | refine S.skip ?_ | refine S.exit ?_))
  · have e : addJ r a = (false, r) := if_pos h0
    ((repeat refine S.seq ?_); refine S.region (L.go (T := tt) tt_ok rfl rfl ?sd119 ?_); (try (case sd119 => (repeat' (first | exact trivial | with_reducible refine zI ?_ ?_)))); try (refine L.nil ?_))
    ((repeat refine S.seq ?_); refine S.ret ?_)
    rw [e]
    exact E.ret (T := tt) tt_ok rfl rfl (by (repeat' (first | exact trivial | with_reducible refine zI ?_ ?_))) (F' := rjR b xw xm xt r) (Imp.refl _) (List.Sublist.refl _) ⟨xw, xm, xt, rfl, rfl⟩
  have hcl : a.cl = 0 ∨ a.cl = 1 ∨ a.cl = 2 ∨ a.cl = 3 := by
    simp only [argNoJ, Bool.or_eq_false_iff, decide_eq_false_iff_not] at h0
    omega
  have n0 : ¬ argNoJ a = true := by rw [h0]; decide
  ((repeat refine S.seq ?_); refine S.region (L.go (T := tt) tt_ok rfl rfl ?sd120 ?_); (try (case sd120 => (repeat' (first | exact trivial | with_reducible refine zI ?_ ?_)))); try (refine L.nil ?_))
  repeat refine S.seq ?_
  refine S.block ?_
  ((repeat refine S.seq ?_); refine S.region (L.go (T := tt) tt_ok rfl rfl ?sd121 ?_); (try (case sd121 => (repeat' (first | exact trivial | with_reducible refine zI ?_ ?_)))); try (refine L.nil ?_))
  ((repeat refine S.seq ?_); refine S.cond rfl (fun h1 => ?_) (fun h1 => ?_) <;> (try first | refine S.skip ?_ | refine S.exit ?_))
  · have k1 : a.kind = 1 := by simpa using h1
    have e : addJ r a = (!rpubNo r a, rpubS r a) := by rw [addJ, if_neg n0, if_pos k1]
    repeat refine S.seq ?_
    refine S.region ?_
    (refine L.go (T := tt) tt_ok rfl rfl ?sd133 ?_; (try (case sd133 => (repeat' (first | exact trivial | with_reducible refine zI ?_ ?_ | rfl)))); try (refine L.nil ?_))
    refine L.call (G := rjR b xw xm xt r) (H := []) rfl rfl rfl rfl rfl rfl rfl ⟨trivial, by (repeat' (first | exact trivial | with_reducible refine zI ?_ ?_))⟩ rfl (by exact Imps.refl [.ptr 40 b 0, a.av]) (by rw [List.append_nil]) (rpublish_p b xw xm xt r a n ok ao) ?_
    rintro v F' ⟨xw2, xm2, rfl, rfl⟩
    refine rowsEq (rjR b xw2 xm2 xt (rpubS r a)) (List.append_nil _) ?_
    (refine L.go (T := tt) tt_ok rfl rfl ?sd134 ?_; (try (case sd134 => (repeat' (first | exact trivial | with_reducible refine zI ?_ ?_)))); try (refine L.nil ?_))
    ((repeat refine S.seq ?_); refine S.ret ?_)
    rw [e]
    exact E.ret (T := tt) tt_ok rfl rfl (by (repeat' (first | exact trivial | with_reducible refine zI ?_ ?_))) (F' := rjR b xw2 xm2 xt (rpubS r a)) (Imp.refl _) (List.Sublist.refl _) ⟨xw2, xm2, xt, rfl, rfl⟩
  have k1 : ¬ a.kind = 1 := by simpa using h1
  ((repeat refine S.seq ?_); refine S.region (L.go (T := tt) tt_ok rfl rfl ?sd122 ?_); (try (case sd122 => (repeat' (first | exact trivial | with_reducible refine zI ?_ ?_)))); try (refine L.nil ?_))
  ((repeat refine S.seq ?_); refine S.cond rfl (fun h2 => ?_) (fun h2 => ?_) <;> (try first | refine S.skip ?_ | refine S.exit ?_))
  · have k2 : a.kind = 2 := by simpa using h2
    have e : addJ r a = (rAnsB r a, rAnsS r a 1) := by rw [addJ, if_neg n0, if_neg k1, if_pos k2]
    repeat refine S.seq ?_
    refine S.region ?_
    (refine L.go (T := tt) tt_ok rfl rfl ?sd135 ?_; (try (case sd135 => (repeat' (first | exact trivial | with_reducible refine zI ?_ ?_ | rfl)))); try (refine L.nil ?_))
    refine L.call (G := rjR b xw xm xt r) (H := []) rfl rfl rfl rfl rfl rfl rfl ⟨trivial, by (repeat' (first | exact trivial | with_reducible refine zI ?_ ?_))⟩ rfl (by exact Imps.refl [.ptr 40 b 0, a.av, .v (.int .i64 1)]) (by rw [List.append_nil]) (ranswer_p b xw xm xt r a 1 n ok) ?_
    rintro v F' ⟨rfl, rfl⟩
    refine rowsEq (rjR b xw xm xt (rAnsS r a 1)) (List.append_nil _) ?_
    (refine L.go (T := tt) tt_ok rfl rfl ?sd136 ?_; (try (case sd136 => (repeat' (first | exact trivial | with_reducible refine zI ?_ ?_)))); try (refine L.nil ?_))
    ((repeat refine S.seq ?_); refine S.ret ?_)
    rw [e]
    exact E.ret (T := tt) tt_ok rfl rfl (by (repeat' (first | exact trivial | with_reducible refine zI ?_ ?_))) (F' := rjR b xw xm xt (rAnsS r a 1)) (Imp.refl _) (List.Sublist.refl _) ⟨xw, xm, xt, rfl, rfl⟩
  have k2 : ¬ a.kind = 2 := by simpa using h2
  ((repeat refine S.seq ?_); refine S.region (L.go (T := tt) tt_ok rfl rfl ?sd123 ?_); (try (case sd123 => (repeat' (first | exact trivial | with_reducible refine zI ?_ ?_)))); try (refine L.nil ?_))
  ((repeat refine S.seq ?_); refine S.cond rfl (fun h3 => ?_) (fun h3 => ?_) <;> (try first | refine S.skip ?_ | refine S.exit ?_))
  · have k3 : a.kind = 3 := by simpa using h3
    have e : addJ r a = (rAnsB r a, rAnsS r a 2) := by rw [addJ, if_neg n0, if_neg k1, if_neg k2, if_pos k3]
    repeat refine S.seq ?_
    refine S.region ?_
    (refine L.go (T := tt) tt_ok rfl rfl ?sd137 ?_; (try (case sd137 => (repeat' (first | exact trivial | with_reducible refine zI ?_ ?_ | rfl)))); try (refine L.nil ?_))
    refine L.call (G := rjR b xw xm xt r) (H := []) rfl rfl rfl rfl rfl rfl rfl ⟨trivial, by (repeat' (first | exact trivial | with_reducible refine zI ?_ ?_))⟩ rfl (by exact Imps.refl [.ptr 40 b 0, a.av, .v (.int .i64 2)]) (by rw [List.append_nil]) (ranswer_p b xw xm xt r a 2 n ok) ?_
    rintro v F' ⟨rfl, rfl⟩
    refine rowsEq (rjR b xw xm xt (rAnsS r a 2)) (List.append_nil _) ?_
    (refine L.go (T := tt) tt_ok rfl rfl ?sd138 ?_; (try (case sd138 => (repeat' (first | exact trivial | with_reducible refine zI ?_ ?_)))); try (refine L.nil ?_))
    ((repeat refine S.seq ?_); refine S.ret ?_)
    rw [e]
    exact E.ret (T := tt) tt_ok rfl rfl (by (repeat' (first | exact trivial | with_reducible refine zI ?_ ?_))) (F' := rjR b xw xm xt (rAnsS r a 2)) (Imp.refl _) (List.Sublist.refl _) ⟨xw, xm, xt, rfl, rfl⟩
  have k3 : ¬ a.kind = 3 := by simpa using h3
  ((repeat refine S.seq ?_); refine S.region (L.go (T := tt) tt_ok rfl rfl ?sd124 ?_); (try (case sd124 => (repeat' (first | exact trivial | with_reducible refine zI ?_ ?_)))); try (refine L.nil ?_))
  ((repeat refine S.seq ?_); refine S.cond rfl (fun h4 => ?_) (fun h4 => ?_) <;> (try first | refine S.skip ?_ | refine S.exit ?_))
  · have k4 : a.kind = 4 := by simpa using h4
    have e : addJ r a = (rDelB r a, rDelS r a) := by rw [addJ, if_neg n0, if_neg k1, if_neg k2, if_neg k3, if_pos k4]
    repeat refine S.seq ?_
    refine S.region ?_
    (refine L.go (T := tt) tt_ok rfl rfl ?sd139 ?_; (try (case sd139 => (repeat' (first | exact trivial | with_reducible refine zI ?_ ?_ | rfl)))); try (refine L.nil ?_))
    refine L.call (G := rjR b xw xm xt r) (H := []) rfl rfl rfl rfl rfl rfl rfl ⟨trivial, by (repeat' (first | exact trivial | with_reducible refine zI ?_ ?_))⟩ rfl (by exact Imps.refl [.ptr 40 b 0, a.av]) (by rw [List.append_nil]) (rdeliver_p b xw xm xt r a n ok hcl) ?_
    rintro v F' ⟨xt2, rfl, rfl⟩
    refine rowsEq (rjR b xw xm xt2 (rDelS r a)) (List.append_nil _) ?_
    (refine L.go (T := tt) tt_ok rfl rfl ?sd140 ?_; (try (case sd140 => (repeat' (first | exact trivial | with_reducible refine zI ?_ ?_)))); try (refine L.nil ?_))
    ((repeat refine S.seq ?_); refine S.ret ?_)
    rw [e]
    exact E.ret (T := tt) tt_ok rfl rfl (by (repeat' (first | exact trivial | with_reducible refine zI ?_ ?_))) (F' := rjR b xw xm xt2 (rDelS r a)) (Imp.refl _) (List.Sublist.refl _) ⟨xw, xm, xt2, rfl, rfl⟩
  have k4 : ¬ a.kind = 4 := by simpa using h4
  have hset : ∀ (fr to : Int) (_ : addJ r a = (rSetB r a fr, rSetS r a fr to)), True := fun _ _ _ => trivial
  ((repeat refine S.seq ?_); refine S.region (L.go (T := tt) tt_ok rfl rfl ?sd125 ?_); (try (case sd125 => (repeat' (first | exact trivial | with_reducible refine zI ?_ ?_)))); try (refine L.nil ?_))
  ((repeat refine S.seq ?_); refine S.cond rfl (fun h5 => ?_) (fun h5 => ?_) <;> (try first | refine S.skip ?_ | refine S.exit ?_))
  · have k5 : a.kind = 5 := by simpa using h5
    have e : addJ r a = (rSetB r a 0, rSetS r a 0 1) := by rw [addJ, if_neg n0, if_neg k1, if_neg k2, if_neg k3, if_neg k4, if_pos k5]
    repeat refine S.seq ?_
    refine S.region ?_
    (refine L.go (T := tt) tt_ok rfl rfl ?sd141 ?_; (try (case sd141 => (repeat' (first | exact trivial | with_reducible refine zI ?_ ?_ | rfl)))); try (refine L.nil ?_))
    refine L.call (G := rjR b xw xm xt r) (H := []) rfl rfl rfl rfl rfl rfl rfl ⟨trivial, by (repeat' (first | exact trivial | with_reducible refine zI ?_ ?_))⟩ rfl (by exact Imps.refl [.ptr 40 b 0, a.av, .v (.int .i64 0), .v (.int .i64 1)]) (by rw [List.append_nil]) (rsettle_p b xw xm xt r a 0 1 n ok) ?_
    rintro v F' ⟨rfl, rfl⟩
    refine rowsEq (rjR b xw xm xt (rSetS r a 0 1)) (List.append_nil _) ?_
    (refine L.go (T := tt) tt_ok rfl rfl ?sd142 ?_; (try (case sd142 => (repeat' (first | exact trivial | with_reducible refine zI ?_ ?_)))); try (refine L.nil ?_))
    ((repeat refine S.seq ?_); refine S.ret ?_)
    rw [e]
    exact E.ret (T := tt) tt_ok rfl rfl (by (repeat' (first | exact trivial | with_reducible refine zI ?_ ?_))) (F' := rjR b xw xm xt (rSetS r a 0 1)) (Imp.refl _) (List.Sublist.refl _) ⟨xw, xm, xt, rfl, rfl⟩
  have k5 : ¬ a.kind = 5 := by simpa using h5
  ((repeat refine S.seq ?_); refine S.region (L.go (T := tt) tt_ok rfl rfl ?sd126 ?_); (try (case sd126 => (repeat' (first | exact trivial | with_reducible refine zI ?_ ?_)))); try (refine L.nil ?_))
  refine S.cut (ι := Unit) (fun _ => [(0, .ptr 40 b 0), (3, .pel 14 a.cells), (24, .v (.int .i64 a.kind)), (50, .v (.bool (a.kind == 7 || a.kind == 8)))]) (fun _ => rjR b xw xm xt r) ?_ ?_
  · ((repeat refine S.seq ?_); refine S.cond rfl (fun h7 => ?_) (fun h7 => ?_) <;> (try first | refine S.skip ?_ | refine S.exit ?_))
    · refine slotAs 50 (.v (.bool (a.kind == 7 || a.kind == 8))) rfl (Imp.of_eq (by rw [h7]; rfl)) ?_
      exact fun a' w h => ⟨(), h.weak (by (repeat' (first | exact True.intro | exact Imp.refl _ | refine ⟨?_, ?_⟩))) (List.Sublist.refl _)⟩
    ((repeat refine S.seq ?_); refine S.region (L.go (T := tt) tt_ok rfl rfl ?sd127 ?_); (try (case sd127 => (repeat' (first | exact trivial | with_reducible refine zI ?_ ?_)))); try (refine L.nil ?_))
    refine slotAs 50 (.v (.bool (a.kind == 7 || a.kind == 8))) rfl (Imp.of_eq (by rw [h7]; rfl)) ?_
    exact fun a' w h => ⟨(), h.weak (by (repeat' (first | exact True.intro | exact Imp.refl _ | refine ⟨?_, ?_⟩))) (List.Sublist.refl _)⟩
  rintro ⟨⟩
  ((repeat refine S.seq ?_); refine S.cond rfl (fun h7 => ?_) (fun h7 => ?_) <;> (try first | refine S.skip ?_ | refine S.exit ?_))
  · have k7 : a.kind = 7 ∨ a.kind = 8 := by simpa using h7
    have e : addJ r a = (rSetB r a 0, rSetS r a 0 2) := by rw [addJ, if_neg n0, if_neg k1, if_neg k2, if_neg k3, if_neg k4, if_neg k5, if_pos k7]
    repeat refine S.seq ?_
    refine S.region ?_
    (refine L.go (T := tt) tt_ok rfl rfl ?sd143 ?_; (try (case sd143 => (repeat' (first | exact trivial | with_reducible refine zI ?_ ?_ | rfl)))); try (refine L.nil ?_))
    refine L.call (G := rjR b xw xm xt r) (H := []) rfl rfl rfl rfl rfl rfl rfl ⟨trivial, by (repeat' (first | exact trivial | with_reducible refine zI ?_ ?_))⟩ rfl (by exact Imps.refl [.ptr 40 b 0, a.av, .v (.int .i64 0), .v (.int .i64 2)]) (by rw [List.append_nil]) (rsettle_p b xw xm xt r a 0 2 n ok) ?_
    rintro v F' ⟨rfl, rfl⟩
    refine rowsEq (rjR b xw xm xt (rSetS r a 0 2)) (List.append_nil _) ?_
    (refine L.go (T := tt) tt_ok rfl rfl ?sd144 ?_; (try (case sd144 => (repeat' (first | exact trivial | with_reducible refine zI ?_ ?_)))); try (refine L.nil ?_))
    ((repeat refine S.seq ?_); refine S.ret ?_)
    rw [e]
    exact E.ret (T := tt) tt_ok rfl rfl (by (repeat' (first | exact trivial | with_reducible refine zI ?_ ?_))) (F' := rjR b xw xm xt (rSetS r a 0 2)) (Imp.refl _) (List.Sublist.refl _) ⟨xw, xm, xt, rfl, rfl⟩
  have k7 : ¬ (a.kind = 7 ∨ a.kind = 8) := by simpa using h7
  ((repeat refine S.seq ?_); refine S.region (L.go (T := tt) tt_ok rfl rfl ?sd128 ?_); (try (case sd128 => (repeat' (first | exact trivial | with_reducible refine zI ?_ ?_)))); try (refine L.nil ?_))
  ((repeat refine S.seq ?_); refine S.cond rfl (fun h6 => ?_) (fun h6 => ?_) <;> (try first | refine S.skip ?_ | refine S.exit ?_))
  · have k6 : a.kind = 6 := by simpa using h6
    have e : addJ r a = (rSetB r a 1, rSetS r a 1 3) := by rw [addJ, if_neg n0, if_neg k1, if_neg k2, if_neg k3, if_neg k4, if_neg k5, if_neg k7, if_pos k6]
    repeat refine S.seq ?_
    refine S.region ?_
    (refine L.go (T := tt) tt_ok rfl rfl ?sd145 ?_; (try (case sd145 => (repeat' (first | exact trivial | with_reducible refine zI ?_ ?_ | rfl)))); try (refine L.nil ?_))
    refine L.call (G := rjR b xw xm xt r) (H := []) rfl rfl rfl rfl rfl rfl rfl ⟨trivial, by (repeat' (first | exact trivial | with_reducible refine zI ?_ ?_))⟩ rfl (by exact Imps.refl [.ptr 40 b 0, a.av, .v (.int .i64 1), .v (.int .i64 3)]) (by rw [List.append_nil]) (rsettle_p b xw xm xt r a 1 3 n ok) ?_
    rintro v F' ⟨rfl, rfl⟩
    refine rowsEq (rjR b xw xm xt (rSetS r a 1 3)) (List.append_nil _) ?_
    (refine L.go (T := tt) tt_ok rfl rfl ?sd146 ?_; (try (case sd146 => (repeat' (first | exact trivial | with_reducible refine zI ?_ ?_)))); try (refine L.nil ?_))
    ((repeat refine S.seq ?_); refine S.ret ?_)
    rw [e]
    exact E.ret (T := tt) tt_ok rfl rfl (by (repeat' (first | exact trivial | with_reducible refine zI ?_ ?_))) (F' := rjR b xw xm xt (rSetS r a 1 3)) (Imp.refl _) (List.Sublist.refl _) ⟨xw, xm, xt, rfl, rfl⟩
  have k6 : ¬ a.kind = 6 := by simpa using h6
  have e : addJ r a = (a.kind == 9, r) := by rw [addJ, if_neg n0, if_neg k1, if_neg k2, if_neg k3, if_neg k4, if_neg k5, if_neg k7, if_neg k6]
  ((repeat refine S.seq ?_); refine S.region (L.go (T := tt) tt_ok rfl rfl ?sd129 ?_); (try (case sd129 => (repeat' (first | exact trivial | with_reducible refine zI ?_ ?_)))); try (refine L.nil ?_))
  ((repeat refine S.seq ?_); refine S.cond rfl (fun h9 => ?_) (fun h9 => ?_) <;> (try first | refine S.skip ?_ | refine S.exit ?_))
  · have h9' : (a.kind == 9) = true := h9
    ((repeat refine S.seq ?_); refine S.region (L.go (T := tt) tt_ok rfl rfl ?sd130 ?_); (try (case sd130 => (repeat' (first | exact trivial | with_reducible refine zI ?_ ?_)))); try (refine L.nil ?_))
    ((repeat refine S.seq ?_); refine S.ret ?_)
    rw [e, h9']
    exact E.ret (T := tt) tt_ok rfl rfl (by (repeat' (first | exact trivial | with_reducible refine zI ?_ ?_))) (F' := rjR b xw xm xt r) (Imp.refl _) (List.Sublist.refl _) ⟨xw, xm, xt, rfl, rfl⟩
  have h9' : (a.kind == 9) = false := h9
  ((repeat refine S.seq ?_); refine S.region (L.go (T := tt) tt_ok rfl rfl ?sd131 ?_); (try (case sd131 => (repeat' (first | exact trivial | with_reducible refine zI ?_ ?_)))); try (refine L.nil ?_))
  ((repeat refine S.seq ?_); refine S.ret ?_)
  rw [e, h9']
  exact E.ret (T := tt) tt_ok rfl rfl (by (repeat' (first | exact trivial | with_reducible refine zI ?_ ?_))) (F' := rjR b xw xm xt r) (Imp.refl _) (List.Sublist.refl _) ⟨xw, xm, xt, rfl, rfl⟩
end Go.Proofs.YtfdneepgpekmiaaDoor

/- The reference's judge: acts, one by one. -/
namespace Go.Proofs.YtfdneepgpekmiaaDoor
set_option linter.unusedVariables false
set_option linter.unusedSimpArgs false
set_option maxHeartbeats 8000000
open Go.RowKit
set_option maxRecDepth 4000

def hearR (r : RJ) : List ActD → Int → Int × RJ
  | [], _ => (0, r)
  | a :: t, n => if (addJ r a).1 then hearR (addJ r a).2 t (n + 1) else (n + 1, (addJ r a).2)
def rcheckJ (l : List ActD) : Int := (hearR rj0 l 0).1
def isOpenR (r : RJ) (x : SeenD) : Bool := ((r.post x).st == 1 && !x.ack) && !x.fin
def ropenJ (l : List ActD) : List Msg := if (hearR rj0 l 0).1 = 0 then (((hearR rj0 l 0).2.ms.filter (isOpenR (hearR rj0 l 0).2)).map (·.m)) else []

theorem rcheck_p (l : List ActD) (hl : l.length ≤ 900) (ao : ∀ a ∈ l, ActOk a) : PFn Tryd.prog 28 [actsA l] (.v (.int .i64 (rcheckJ l))) := by
  refine FnC.intro Tryd.func28 rfl Tryd.ntmps28 rfl ?_; intro off w0
  ((repeat refine S.seq ?_); refine S.region (L.go (T := tt) tt_ok rfl rfl ?sd147 ?_); (try (case sd147 => (repeat' (first | exact trivial | with_reducible refine zI ?_ ?_)))); try (refine L.nil ?_))
  repeat refine S.seq ?_
  refine S.region ?_
  (refine L.go (T := tt) tt_ok rfl rfl ?sd163 ?_; (try (case sd163 => (repeat' (first | exact trivial | with_reducible refine zI ?_ ?_)))); try (refine L.nil ?_))
  refine L.box 40 rfl rfl rfl rfl rfl trivial rfl fun b6 => ?_
  (refine L.go (T := tt) tt_ok rfl rfl ?sd164 ?_; (try (case sd164 => (repeat' (first | exact trivial | with_reducible refine zI ?_ ?_)))); try (refine L.nil ?_))
  refine nilRow 41 118 6 (gOf PostD.cells []) ?_
  refine nilRow 42 120 11 (gOf SeenD.cells []) ?_
  refine nilRow 43 143 5 (gOf GotD.cells []) ?_
  refine blkAs 40 [.v (.slice none 0 0), .ref 41 (.slice none 0 0), .ref 42 (.slice none 0 0), .v (.int .i64 0), .v (.int .i64 0), .v (.int .i64 0), .v (.int .i64 0), .ref 43 (.slice none 0 0)] rfl ⟨Imp.refl _, Imp.vref rfl, Imp.vref rfl, Imp.refl _, Imp.refl _, Imp.refl _, Imp.refl _, Imp.vref rfl, trivial⟩ ?_
  refine rowsTo (rjR b6 (.slice none 0 0) (.slice none 0 0) (.slice none 0 0) rj0) (by unfold rjR; (repeat (first | exact Sub.refl _ | refine Sub.pick (by first | exact p0 | exact pS p0 | exact pS (pS p0) | exact pS (pS (pS p0)) | exact pS (pS (pS (pS p0))) | exact pS (pS (pS (pS (pS p0))))) ?_))) ?_
  ((repeat refine S.seq ?_); refine S.region (L.go (T := tt) tt_ok rfl rfl ?sd148 ?_); (try (case sd148 => (repeat' (first | exact trivial | with_reducible refine zI ?_ ?_)))); try (refine L.nil ?_))
  repeat refine S.seq ?_
  refine S.block (S.loop (ι := { p : Nat × RJ × Value × Value × Value // p.1 ≤ l.length ∧ RjOk p.2.1 p.1 ∧ hearR rj0 l 0 = hearR p.2.1 (l.drop p.1) p.1 }) (fun p => [(0, actsA l), (3, .ptr 40 b6 0), (4, .v (.int .i64 p.1.1))])
    (fun p => rjR b6 p.1.2.2.1 p.1.2.2.2.1 p.1.2.2.2.2 p.1.2.1) (fun p => l.length - p.1.1) ?_ ?_)
  · exact fun a w h => ⟨⟨(0, rj0, .slice none 0 0, .slice none 0 0, .slice none 0 0), Nat.zero_le _, rj0_ok, rfl⟩, h.weakP (by (repeat' (first | exact True.intro | exact Imp.refl _ | refine ⟨?_, ?_⟩))) (Sub.self _)⟩
  rintro ⟨⟨k, r, xw, xm, xt⟩, hk, ok, hh⟩
  dsimp only at hk ok hh ⊢
  ((repeat refine S.seq ?_); refine S.region (L.go (T := tt) tt_ok rfl rfl ?sd149 ?_); (try (case sd149 => (repeat' (first | exact trivial | with_reducible refine zI ?_ ?_)))); try (refine L.nil ?_))
  ((repeat refine S.seq ?_); refine S.cond rfl (fun hc => ?_) (fun hc => ?_) <;> (try first | refine S.skip ?_ | refine S.exit ?_))
  · have hkl : k < l.length := by have := of_dec hc; omega
    obtain ⟨a, ha⟩ : ∃ a, a = l.getD k default := ⟨_, rfl⟩
    have aok : ActOk a := ao a (by rw [ha, getD_get hkl]; exact List.getElem_mem _)
    rw [drop_at hkl, ← ha] at hh
    have hstep : hearR rj0 l 0 = if (addJ r a).1 then hearR (addJ r a).2 (l.drop (k + 1)) (k + 1) else ((k : Int) + 1, (addJ r a).2) := hh
    repeat refine S.seq ?_
    refine S.block ?_
    repeat refine S.seq ?_
    refine S.region ?_
    (refine L.go (T := tt) tt_ok rfl rfl ?sd165 ?_; (try (case sd165 => (repeat' (first | exact trivial | with_reducible refine zI ?_ ?_ | rfl | omega)))); try (refine L.nil ?_))
    refine L.call (G := rjR b6 xw xm xt r) (H := []) rfl rfl rfl rfl rfl rfl rfl ⟨trivial, by (repeat' (first | exact trivial | with_reducible refine zI ?_ ?_))⟩ rfl (by rw [ha]; exact Imps.refl [.ptr 40 b6 0, (l.getD k default).av]) (by rw [List.append_nil]) (radd_p b6 xw xm xt r a k ok aok) ?_
    rintro v F' ⟨xw2, xm2, xt2, rfl, rfl⟩
    refine rowsEq (rjR b6 xw2 xm2 xt2 (addJ r a).2) (List.append_nil _) ?_
    have ok3 := rjok_add ok (by omega) a
    (refine L.go (T := tt) tt_ok rfl rfl ?sd166 ?_; (try (case sd166 => (repeat' (first | exact trivial | with_reducible refine zI ?_ ?_)))); try (refine L.nil ?_))
    ((repeat refine S.seq ?_); refine S.cond rfl (fun hr => ?_) (fun hr => ?_) <;> (try first | refine S.skip ?_ | refine S.exit ?_))
    · have hrf : (addJ r a).1 = false := by simpa using hr
      rw [if_neg (by rw [hrf]; decide)] at hstep
      ((repeat refine S.seq ?_); refine S.region (L.go (T := tt) tt_ok rfl rfl ?sd150 ?_); (try (case sd150 => (repeat' (first | exact trivial | with_reducible refine zI ?_ ?_ | (unfold fits; omega))))); try (refine L.nil ?_))
      (((repeat refine S.seq ?_); refine S.ret ?_); refine E.retP (T := tt) tt_ok rfl rfl (by (repeat' (first | exact trivial | with_reducible refine zI ?_ ?_))) (Imp.of_eq ?_))
      rw [rcheckJ, hstep]
      rfl
    have hrt : (addJ r a).1 = true := by simpa using hr
    rw [if_pos hrt] at hstep
    ((repeat refine S.seq ?_); refine S.region (L.go (T := tt) tt_ok rfl rfl ?sd151 ?_); (try (case sd151 => (repeat' (first | exact trivial | with_reducible refine zI ?_ ?_ | (unfold fits; omega))))); try (refine L.nil ?_))
    exact fun a' w h => ⟨⟨(k + 1, (addJ r a).2, xw2, xm2, xt2), by show k + 1 ≤ _; omega, ok3, hstep⟩, by show l.length - (k + 1) < l.length - k; omega, h.weakP (by (repeat' (first | exact True.intro | exact Imp.refl _ | refine ⟨?_, ?_⟩))) (Sub.self _)⟩
  have hkl : k = l.length := by have := of_dec' hc; omega
  subst hkl
  rw [List.drop_length] at hh
  have hstep : hearR rj0 l 0 = (0, r) := hh
  ((repeat refine S.seq ?_); refine S.region (L.go (T := tt) tt_ok rfl rfl ?sd152 ?_); (try (case sd152 => (repeat' (first | exact trivial | with_reducible refine zI ?_ ?_)))); try (refine L.nil ?_))
  (((repeat refine S.seq ?_); refine S.ret ?_); refine E.retP (T := tt) tt_ok rfl rfl (by (repeat' (first | exact trivial | with_reducible refine zI ?_ ?_))) (Imp.of_eq ?_))
  rw [rcheckJ, hstep]
  rfl

theorem ropen_p (l : List ActD) (hl : l.length ≤ 900) (ao : ∀ a ∈ l, ActOk a) : FnC Tryd.prog 31 [actsA l] [] (fun r F' => ∃ y, r = .ref 70 y ∧ F' = [(70, .own y 42 5 (ropenJ l).length (gOf Msg.cells (ropenJ l)))]) := by
  refine FnC.intro Tryd.func31 rfl Tryd.ntmps31 rfl ?_; intro off w0
  ((repeat refine S.seq ?_); refine S.region (L.go (T := tt) tt_ok rfl rfl ?sd153 ?_); (try (case sd153 => (repeat' (first | exact trivial | with_reducible refine zI ?_ ?_)))); try (refine L.nil ?_))
  repeat refine S.seq ?_
  refine S.region ?_
  (refine L.go (T := tt) tt_ok rfl rfl ?sd167 ?_; (try (case sd167 => (repeat' (first | exact trivial | with_reducible refine zI ?_ ?_)))); try (refine L.nil ?_))
  refine L.box 40 rfl rfl rfl rfl rfl trivial rfl fun b8 => ?_
  (refine L.go (T := tt) tt_ok rfl rfl ?sd168 ?_; (try (case sd168 => (repeat' (first | exact trivial | with_reducible refine zI ?_ ?_)))); try (refine L.nil ?_))
  refine nilRow 41 118 6 (gOf PostD.cells []) ?_
  refine nilRow 42 120 11 (gOf SeenD.cells []) ?_
  refine nilRow 43 143 5 (gOf GotD.cells []) ?_
  refine blkAs 40 [.v (.slice none 0 0), .ref 41 (.slice none 0 0), .ref 42 (.slice none 0 0), .v (.int .i64 0), .v (.int .i64 0), .v (.int .i64 0), .v (.int .i64 0), .ref 43 (.slice none 0 0)] rfl ⟨Imp.refl _, Imp.vref rfl, Imp.vref rfl, Imp.refl _, Imp.refl _, Imp.refl _, Imp.refl _, Imp.vref rfl, trivial⟩ ?_
  refine rowsTo (rjR b8 (.slice none 0 0) (.slice none 0 0) (.slice none 0 0) rj0) (by unfold rjR; (repeat (first | exact Sub.refl _ | refine Sub.pick (by first | exact p0 | exact pS p0 | exact pS (pS p0) | exact pS (pS (pS p0)) | exact pS (pS (pS (pS p0))) | exact pS (pS (pS (pS (pS p0))))) ?_))) ?_
  ((repeat refine S.seq ?_); refine S.region (L.go (T := tt) tt_ok rfl rfl ?sd154 ?_); (try (case sd154 => (repeat' (first | exact trivial | with_reducible refine zI ?_ ?_)))); try (refine L.nil ?_))
  repeat refine S.seq ?_
  refine S.cut (ι := { p : RJ × Value × Value × Value // RjOk p.1 l.length ∧ hearR rj0 l 0 = (0, p.1) }) (fun p => [(3, .ptr 40 b8 0)]) (fun p => rjR b8 p.1.2.1 p.1.2.2.1 p.1.2.2.2 p.1.1) ?_ ?_
  · repeat refine S.seq ?_
    refine S.block (S.loop (ι := { p : Nat × RJ × Value × Value × Value // p.1 ≤ l.length ∧ RjOk p.2.1 p.1 ∧ hearR rj0 l 0 = hearR p.2.1 (l.drop p.1) p.1 }) (fun p => [(0, actsA l), (3, .ptr 40 b8 0), (4, .v (.int .i64 p.1.1))])
      (fun p => rjR b8 p.1.2.2.1 p.1.2.2.2.1 p.1.2.2.2.2 p.1.2.1) (fun p => l.length - p.1.1) ?_ ?_)
    · exact fun a w h => ⟨⟨(0, rj0, .slice none 0 0, .slice none 0 0, .slice none 0 0), Nat.zero_le _, rj0_ok, rfl⟩, h.weakP (by (repeat' (first | exact True.intro | exact Imp.refl _ | refine ⟨?_, ?_⟩))) (Sub.self _)⟩
    rintro ⟨⟨k, r, xw, xm, xt⟩, hk, ok, hh⟩
    dsimp only at hk ok hh ⊢
    ((repeat refine S.seq ?_); refine S.region (L.go (T := tt) tt_ok rfl rfl ?sd155 ?_); (try (case sd155 => (repeat' (first | exact trivial | with_reducible refine zI ?_ ?_)))); try (refine L.nil ?_))
    ((repeat refine S.seq ?_); refine S.cond rfl (fun hc => ?_) (fun hc => ?_) <;> (try first | refine S.skip ?_ | refine S.exit ?_))
    · have hkl : k < l.length := by have := of_dec hc; omega
      obtain ⟨a, ha⟩ : ∃ a, a = l.getD k default := ⟨_, rfl⟩
      have aok : ActOk a := ao a (by rw [ha, getD_get hkl]; exact List.getElem_mem _)
      rw [drop_at hkl, ← ha] at hh
      have hstep : hearR rj0 l 0 = if (addJ r a).1 then hearR (addJ r a).2 (l.drop (k + 1)) (k + 1) else ((k : Int) + 1, (addJ r a).2) := hh
      repeat refine S.seq ?_
      refine S.block ?_
      repeat refine S.seq ?_
      refine S.region ?_
      (refine L.go (T := tt) tt_ok rfl rfl ?sd169 ?_; (try (case sd169 => (repeat' (first | exact trivial | with_reducible refine zI ?_ ?_ | rfl | omega)))); try (refine L.nil ?_))
      refine L.call (G := rjR b8 xw xm xt r) (H := []) rfl rfl rfl rfl rfl rfl rfl ⟨trivial, by (repeat' (first | exact trivial | with_reducible refine zI ?_ ?_))⟩ rfl (by rw [ha]; exact Imps.refl [.ptr 40 b8 0, (l.getD k default).av]) (by rw [List.append_nil]) (radd_p b8 xw xm xt r a k ok aok) ?_
      rintro v F' ⟨xw2, xm2, xt2, rfl, rfl⟩
      refine rowsEq (rjR b8 xw2 xm2 xt2 (addJ r a).2) (List.append_nil _) ?_
      have ok3 := rjok_add ok (by omega) a
      (refine L.go (T := tt) tt_ok rfl rfl ?sd170 ?_; (try (case sd170 => (repeat' (first | exact trivial | with_reducible refine zI ?_ ?_)))); try (refine L.nil ?_))
      ((repeat refine S.seq ?_); refine S.cond rfl (fun hr => ?_) (fun hr => ?_) <;> (try first | refine S.skip ?_ | refine S.exit ?_))
      · have hrf : (addJ r a).1 = false := by simpa using hr
        rw [if_neg (by rw [hrf]; decide)] at hstep
        have e : ropenJ l = [] := by
          rw [ropenJ, if_neg]
          rw [hstep]
          show ¬ ((k : Int) + 1 = 0)
          omega
        rw [e]
        ((repeat refine S.seq ?_); refine S.region (L.go (T := tt) tt_ok rfl rfl ?sd156 ?_); (try (case sd156 => (repeat' (first | exact trivial | with_reducible refine zI ?_ ?_)))); try (refine L.nil ?_))
        refine nilRow 70 42 5 (gOf Msg.cells []) ?_
        refine slotAs 2 (.ref 70 (.slice none 0 0)) rfl (Imp.vref rfl) ?_
        ((repeat refine S.seq ?_); refine S.ret ?_)
        exact E.ret (T := tt) tt_ok rfl rfl (by (repeat' (first | exact trivial | with_reducible refine zI ?_ ?_))) (F' := [(70, .own (.slice none 0 0) 42 5 0 (gOf Msg.cells []))]) (Imp.refl _) (List.Sublist.cons_cons _ (List.nil_sublist _)) ⟨_, rfl, rfl⟩
      have hrt : (addJ r a).1 = true := by simpa using hr
      rw [if_pos hrt] at hstep
      ((repeat refine S.seq ?_); refine S.region (L.go (T := tt) tt_ok rfl rfl ?sd157 ?_); (try (case sd157 => (repeat' (first | exact trivial | with_reducible refine zI ?_ ?_ | (unfold fits; omega))))); try (refine L.nil ?_))
      exact fun a' w h => ⟨⟨(k + 1, (addJ r a).2, xw2, xm2, xt2), by show k + 1 ≤ _; omega, ok3, hstep⟩, by show l.length - (k + 1) < l.length - k; omega, h.weakP (by (repeat' (first | exact True.intro | exact Imp.refl _ | refine ⟨?_, ?_⟩))) (Sub.self _)⟩
    have hkl : k = l.length := by have := of_dec' hc; omega
    subst hkl
    rw [List.drop_length] at hh
    exact fun a w h => ⟨⟨(r, xw, xm, xt), ok, hh⟩, h.weakP (by (repeat' (first | exact True.intro | exact Imp.refl _ | refine ⟨?_, ?_⟩))) (Sub.self _)⟩
  rintro ⟨⟨r, xw, xm, xt⟩, ok, hh⟩
  dsimp only at ok hh ⊢
  have e : ropenJ l = (r.ms.filter (isOpenR r)).map (·.m) := by
    rw [ropenJ, hh]
    rfl
  obtain ⟨g, hg⟩ : ∃ g : Nat → List Msg, g = fun k => ((r.ms.take k).filter (isOpenR r)).map (·.m) := ⟨_, rfl⟩
  have hgl : ∀ k, (g k).length ≤ k := fun k => by
    rw [hg]
    simp only [List.length_map]
    exact Nat.le_trans (List.length_filter_le _ _) (by rw [List.length_take]; omega)
  have hgs : ∀ k (h : k < r.ms.length), g (k + 1) = if isOpenR r (r.ms.getD k default) then g k ++ [(r.ms.getD k default).m] else g k := fun k h => by
    rw [hg]
    simp only
    rw [List.take_add_one, List.getElem?_eq_getElem h, getD_get h]
    simp only [Option.toList_some, List.filter_append, List.map_append]
    cases hb : isOpenR r r.ms[k] with
    | true => simp [hb]
    | false => simp [hb]
  have ge : g r.ms.length = ropenJ l := by rw [hg, e]; simp only [List.take_length]
  have hml : r.ms.length ≤ 8000 := by have := ok.ml; have := ok.wl; omega
  ((repeat refine S.seq ?_); refine S.region (L.go (T := tt) tt_ok rfl rfl ?sd158 ?_); (try (case sd158 => (repeat' (first | exact trivial | with_reducible refine zI ?_ ?_)))); try (refine L.nil ?_))
  refine nilRow 70 42 5 (gOf Msg.cells (g 0)) ?_
  refine slotAs 5 (.ref 70 (.slice none 0 0)) rfl (Imp.vref rfl) ?_
  ((repeat refine S.seq ?_); refine S.region (L.go (T := tt) tt_ok rfl rfl ?sd159 ?_); (try (case sd159 => (repeat' (first | exact trivial | with_reducible refine zI ?_ ?_)))); try (refine L.nil ?_))
  repeat refine S.seq ?_
  refine S.block (S.loop (ι := { p : Nat × Value // p.1 ≤ r.ms.length }) (fun p => [(3, .ptr 40 b8 0), (5, .ref 70 p.1.2), (6, .v (.int .i64 p.1.1))])
    (fun p => (70, .own p.1.2 42 5 (g p.1.1).length (gOf Msg.cells (g p.1.1))) :: rjR b8 xw xm xt r) (fun p => r.ms.length - p.1.1) ?_ ?_)
  · exact fun a' w h => ⟨⟨(0, .slice none 0 0), Nat.zero_le _⟩, h.weakP (by (repeat' (first | exact True.intro | exact Imp.refl _ | refine ⟨?_, ?_⟩))) (Sub.of _ (by rw [List.append_nil]; exact List.Perm.of_eq (by rw [hg]; rfl)))⟩
  rintro ⟨⟨k, y⟩, hk⟩
  dsimp only at hk ⊢
  unfold rjR
  ((repeat refine S.seq ?_); refine S.region (L.go (T := tt) tt_ok rfl rfl ?sd160 ?_); (try (case sd160 => (repeat' (first | exact trivial | with_reducible refine zI ?_ ?_ | rfl)))); try (refine L.nil ?_))
  ((repeat refine S.seq ?_); refine S.cond rfl (fun hc => ?_) (fun hc => ?_) <;> (try first | refine S.skip ?_ | refine S.exit ?_))
  · have hkl : k < r.ms.length := by have := of_dec hc; omega
    have hgk := hgl k
    have hgsk := hgs k hkl
    obtain ⟨x, hx⟩ : ∃ x, x = r.ms.getD k default := ⟨_, rfl⟩
    have hxb : x.post < r.wait.length := ok.post _ (by rw [hx, getD_get hkl]; exact List.getElem_mem _)
    rw [← hx] at hgsk
    repeat refine S.seq ?_
    refine S.block ?_
    have hxb' : (r.ms.getD k default).post < r.wait.length := by rw [← hx]; exact hxb
    repeat refine S.seq ?_
    refine S.draw [(3, [40]), (7, [40]), (11, [42]), (14, [41]), (20, [40]), (24, [42]), (31, [40]), (35, [42])] mixed ?_
    (refine H.ts (T := tt) [0, 1, 2, 3, 4, 5, 6, 7, 8, 9, 10, 11, 12, 13, 14, 15, 16, 17, 18, 19, 20, 21, 22, 23, 24, 25, 26, 27, 28, 29, 30, 31, 32, 33, 34, 35, 36, 37] tt_ok (by kernel_rfl) (by kernel_rfl) (by kernel_rfl) (by intro ch a a' w h; obtain ⟨_, _, _, _, _, h, _⟩ := h; cases h) rfl ?sd173 ?_; (try (case sd173 => (repeat' (first | exact trivial | exact zA | with_reducible refine zI ?_ ?_ | exact zB | exact zC | rfl | omega | assumption | (simp; done) | (simp; omega) | (simp_all; done))))))
    refine H.done (by kernel_rfl) ?_
    refine slotAs 68 (.v (.bool (isOpenR r x))) rfl (Imp.of_eq (by rw [hx]; rfl)) ?_
    refine S.cut (ι := Value) (fun y => [(3, .ptr 40 b8 0), (5, .ref 70 y), (6, .v (.int .i64 k))])
      (fun y => (70, .own y 42 5 (g (k + 1)).length (gOf Msg.cells (g (k + 1)))) :: rjR b8 xw xm xt r) ?_ ?_
    · ((repeat refine S.seq ?_); refine S.cond rfl (fun ho => ?_) (fun ho => ?_) <;> (try first | refine S.skip ?_ | refine S.exit ?_))
      · rw [if_pos ho] at hgsk
        repeat refine S.seq ?_
        refine S.region ?_
        (refine L.go (T := tt) tt_ok rfl rfl ?sd171 ?_; (try (case sd171 => (repeat' (first | exact trivial | with_reducible refine zI ?_ ?_ | rfl | exact zN rfl | omega)))); try (refine L.nil ?_))
        refine L.buildSlice (T := tt) 95 tt_ok rfl rfl rfl rfl rfl rfl (by decide) (by decide) rfl rfl (by (repeat' (first | exact trivial | with_reducible refine zI ?_ ?_ | rfl | exact zN rfl))) fun x78 => ?_
        refine L.append (T := tt) tt_ok rfl rfl rfl rfl rfl rfl rfl rfl rfl rfl (by (repeat' (first | exact trivial | with_reducible refine zI ?_ ?_ | rfl))) ⟨rfl, by decide, by decide⟩ (by simp; omega) fun y79 => ?_
        (refine L.go (T := tt) tt_ok rfl rfl ?sd172 ?_; (try (case sd172 => (repeat' (first | exact trivial | with_reducible refine zI ?_ ?_)))); try (refine L.nil ?_))
        refine ownAs 70 (gOf Msg.cells (g (k + 1))) rfl (show (g k).length + 1 = (g (k + 1)).length by rw [hgsk]; simp) (fun i hi => by rw [hgsk]; exact app1_h Msg.cells (g k) x.m _ rfl (by rw [hx]; rfl) hi) ?_
        exact fun a' w h => ⟨y79, h.weakP (by (repeat' (first | exact True.intro | exact Imp.refl _ | refine ⟨?_, ?_⟩))) (by first | (unfold rjR; (repeat (first | exact Sub.refl _ | refine Sub.pick (by first | exact p0 | exact pS p0 | exact pS (pS p0) | exact pS (pS (pS p0)) | exact pS (pS (pS (pS p0))) | exact pS (pS (pS (pS (pS p0))))) ?_))) | (repeat (first | exact Sub.refl _ | refine Sub.pick (by first | exact p0 | exact pS p0 | exact pS (pS p0) | exact pS (pS (pS p0)) | exact pS (pS (pS (pS p0))) | exact pS (pS (pS (pS (pS p0))))) ?_)))⟩
      · rw [if_neg (by rw [ho]; decide)] at hgsk
        rw [hgsk]
        exact fun a' w h => ⟨y, h.weakP (by (repeat' (first | exact True.intro | exact Imp.refl _ | refine ⟨?_, ?_⟩))) (by first | (unfold rjR; (repeat (first | exact Sub.refl _ | refine Sub.pick (by first | exact p0 | exact pS p0 | exact pS (pS p0) | exact pS (pS (pS p0)) | exact pS (pS (pS (pS p0))) | exact pS (pS (pS (pS (pS p0))))) ?_))) | (repeat (first | exact Sub.refl _ | refine Sub.pick (by first | exact p0 | exact pS p0 | exact pS (pS p0) | exact pS (pS (pS p0)) | exact pS (pS (pS (pS p0))) | exact pS (pS (pS (pS (pS p0))))) ?_)))⟩
    intro y'
    ((repeat refine S.seq ?_); refine S.region (L.go (T := tt) tt_ok rfl rfl ?sd161 ?_); (try (case sd161 => (repeat' (first | exact trivial | with_reducible refine zI ?_ ?_ | (unfold fits; omega))))); try (refine L.nil ?_))
    exact fun a' w h => ⟨⟨(k + 1, y'), by show k + 1 ≤ _; omega⟩, by show r.ms.length - (k + 1) < r.ms.length - k; omega, h.weakP (by (repeat' (first | exact True.intro | exact Imp.refl _ | refine ⟨?_, ?_⟩))) (Sub.self _)⟩
  have hkl : k = r.ms.length := by have := of_dec' hc; omega
  subst hkl
  rw [ge]
  ((repeat refine S.seq ?_); refine S.region (L.go (T := tt) tt_ok rfl rfl ?sd162 ?_); (try (case sd162 => (repeat' (first | exact trivial | with_reducible refine zI ?_ ?_)))); try (refine L.nil ?_))
  ((repeat refine S.seq ?_); refine S.ret ?_)
  exact E.ret (T := tt) tt_ok rfl rfl (by (repeat' (first | exact trivial | with_reducible refine zI ?_ ?_))) (F' := [(70, .own y 42 5 (ropenJ l).length (gOf Msg.cells (ropenJ l)))]) (Imp.refl _) (by (repeat (first | exact List.nil_sublist _ | refine List.Sublist.cons_cons _ ?_ | refine List.Sublist.cons _ ?_))) ⟨_, rfl, rfl⟩
end Go.Proofs.YtfdneepgpekmiaaDoor
