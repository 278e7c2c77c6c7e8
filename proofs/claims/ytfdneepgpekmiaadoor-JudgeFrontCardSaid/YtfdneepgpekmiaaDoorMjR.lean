/- Texts of this proof, laid together: JrS, JrT, JrU. -/
import Derived.Test.YtfdneepgpekmiaaDoorMjQ
import Derived.Test.YtfdneepgpekmiaaDoorMjL
/- Law 21's Make: acts that the reference's judge takes. -/
namespace Go.Proofs.YtfdneepgpekmiaaDoor
set_option linter.unusedVariables false
set_option linter.unusedSimpArgs false
set_option maxHeartbeats 8000000
open Go.RowKit
set_option maxRecDepth 8000

def deedsA (l : List DeedD) : AV := .lst 6 l.length (gOf DeedD.cells l)
theorem hearR_app : ∀ (l : List ActD) (r r' : RJ) (n : Int) (a : ActD), hearR r l n = (0, r') → 0 ≤ n → (addJ r' a).1 = true → hearR r (l ++ [a]) n = (0, (addJ r' a).2)
  | [], r, r', n, a, h, hn, ha => by
    have e : r = r' := congrArg Prod.snd h
    subst e
    show (if (addJ r a).1 then (0, (addJ r a).2) else _) = _
    rw [if_pos ha]
  | b :: t, r, r', n, a, h, hn, ha => by
    have h' : (if (addJ r b).1 then hearR (addJ r b).2 t (n + 1) else (n + 1, (addJ r b).2)) = (0, r') := h
    show (if (addJ r b).1 then hearR (addJ r b).2 (t ++ [a]) (n + 1) else (n + 1, (addJ r b).2)) = _
    by_cases hb : (addJ r b).1 = true
    · rw [if_pos hb] at h' ⊢
      exact hearR_app t _ _ _ a h' (by omega) ha
    · rw [if_neg hb] at h'
      have : n + 1 = 0 := congrArg Prod.fst h'
      omega
theorem copyG {α : Type} [Inhabited α] (c : α → List AV) (sz : Nat) (l : List α) {i : Nat} (h : i < 0 + l.length) : joinG 0 (rowsOf sz []) (gOf c l) i = gOf c l i := by
  simp only [joinG, Nat.not_lt_zero, if_false, Nat.sub_zero]

theorem make_p (l : List DeedD) (wrong : Bool) (hl : l.length ≤ 80) : FnC Tryd.prog 33 [deedsA l, .v (.bool wrong)] []
    (fun v F' => ∃ (out : List ActD) (y : Value), v = .ref 83 y ∧ (∀ a ∈ out, ActOk a) ∧ out.length ≤ l.length ∧ (wrong = false → rcheckJ out = 0) ∧ F' = [(83, .own y 56 14 out.length (gOf ActD.cells out))]) := by
  refine FnC.intro Tryd.func33 rfl Tryd.ntmps33 rfl ?_; intro off w0
  ((repeat refine S.seq ?_); refine S.region (L.go (T := tt) tt_ok rfl rfl ?sd344 ?_); (try (case sd344 => (repeat' (first | exact trivial | with_reducible refine zI ?_ ?_)))); try (refine L.nil ?_))
  repeat refine S.seq ?_
  refine S.region ?_
  (refine L.go (T := tt) tt_ok rfl rfl ?sd355 ?_; (try (case sd355 => (repeat' (first | exact trivial | with_reducible refine zI ?_ ?_)))); try (refine L.nil ?_))
  refine L.box 40 rfl rfl rfl rfl rfl trivial rfl fun b11 => ?_
  (refine L.go (T := tt) tt_ok rfl rfl ?sd356 ?_; (try (case sd356 => (repeat' (first | exact trivial | with_reducible refine zI ?_ ?_)))); try (refine L.nil ?_))
  refine nilRow 41 118 6 (gOf PostD.cells []) ?_
  refine nilRow 42 120 11 (gOf SeenD.cells []) ?_
  refine nilRow 43 143 5 (gOf GotD.cells []) ?_
  refine blkAs 40 [.v (.slice none 0 0), .ref 41 (.slice none 0 0), .ref 42 (.slice none 0 0), .v (.int .i64 0), .v (.int .i64 0), .v (.int .i64 0), .v (.int .i64 0), .ref 43 (.slice none 0 0)] rfl ⟨Imp.refl _, Imp.vref rfl, Imp.vref rfl, Imp.refl _, Imp.refl _, Imp.refl _, Imp.refl _, Imp.vref rfl, trivial⟩ ?_
  refine rowsTo (rjR b11 (.slice none 0 0) (.slice none 0 0) (.slice none 0 0) rj0) (by unfold rjR; (repeat (first | exact Sub.refl _ | refine Sub.pick (by first | exact p0 | exact pS p0 | exact pS (pS p0) | exact pS (pS (pS p0)) | exact pS (pS (pS (pS p0))) | exact pS (pS (pS (pS (pS p0))))) ?_))) ?_
  ((repeat refine S.seq ?_); refine S.region (L.go (T := tt) tt_ok rfl rfl ?sd345 ?_); (try (case sd345 => (repeat' (first | exact trivial | with_reducible refine zI ?_ ?_)))); try (refine L.nil ?_))
  refine nilRow 83 56 14 (gOf ActD.cells []) ?_
  refine slotAs 6 (.ref 83 (.slice none 0 0)) rfl (Imp.vref rfl) ?_
  ((repeat refine S.seq ?_); refine S.region (L.go (T := tt) tt_ok rfl rfl ?sd346 ?_); (try (case sd346 => (repeat' (first | exact trivial | with_reducible refine zI ?_ ?_)))); try (refine L.nil ?_))
  repeat refine S.seq ?_
  refine S.block (S.loop (ι := { p : Nat × RJ × List ActD × Value × Value × Value × Value // p.1 ≤ l.length ∧ RjOk p.2.1 p.1 ∧ JB p.2.1 p.1 ∧ hearR rj0 p.2.2.1 0 = (0, p.2.1) ∧ p.2.2.1.length ≤ p.1 ∧ (∀ a ∈ p.2.2.1, ActOk a) })
    (fun p => [(0, deedsA l), (1, .v (.bool wrong)), (5, .ptr 40 b11 0), (6, .ref 83 p.1.2.2.2.1), (7, .v (.int .i64 p.1.1))])
    (fun p => (83, .own p.1.2.2.2.1 56 14 p.1.2.2.1.length (gOf ActD.cells p.1.2.2.1)) :: rjR b11 p.1.2.2.2.2.1 p.1.2.2.2.2.2.1 p.1.2.2.2.2.2.2 p.1.2.1) (fun p => l.length - p.1.1) ?_ ?_)
  · exact fun a w h => ⟨⟨(0, rj0, [], .slice none 0 0, .slice none 0 0, .slice none 0 0, .slice none 0 0), Nat.zero_le _, rj0_ok, jb0, rfl, Nat.le_refl _, fun a ha => by cases ha⟩, h.weakP (by (repeat' (first | exact True.intro | exact Imp.refl _ | refine ⟨?_, ?_⟩))) (Sub.self _)⟩
  rintro ⟨⟨k, r, out, y, xw, xm, xt⟩, hk, ok, jb, hh, hol, hao⟩
  dsimp only at hk ok jb hh hol hao ⊢
  have hwl := ok.wl
  have htl := ok.tl
  have hml := ok.ml
  ((repeat refine S.seq ?_); refine S.region (L.go (T := tt) tt_ok rfl rfl ?sd347 ?_); (try (case sd347 => (repeat' (first | exact trivial | with_reducible refine zI ?_ ?_)))); try (refine L.nil ?_))
  ((repeat refine S.seq ?_); refine S.cond rfl (fun hc => ?_) (fun hc => ?_) <;> (try first | refine S.skip ?_ | refine S.exit ?_))
  · have hkl : k < l.length := by have := of_dec hc; omega
    obtain ⟨d, hd⟩ : ∃ d, d = l.getD k default := ⟨_, rfl⟩
    repeat refine S.seq ?_
    refine S.block ?_
    repeat refine S.seq ?_
    refine S.region ?_
    (refine L.go (T := tt) tt_ok rfl rfl ?sd357 ?_; (try (case sd357 => (repeat' (first | exact trivial | with_reducible refine zI ?_ ?_ | rfl | omega)))); try (refine L.nil ?_))
    refine L.call (G := rjR b11 xw xm xt r) (H := [(83, .own y 56 14 out.length (gOf ActD.cells out))]) rfl rfl rfl rfl rfl rfl rfl ⟨trivial, by (repeat' (first | exact trivial | with_reducible refine zI ?_ ?_))⟩ rfl (by rw [hd]; exact Imps.refl [.ptr 40 b11 0, (l.getD k default).av]) (by exact List.perm_append_comm (l₁ := [_])) (next_p b11 xw xm xt r d k ok jb (by omega)) ?_
    rintro v F' ⟨a, rfl, na, rfl⟩
    refine L.alloc (T := tt) 81 tt_ok rfl rfl rfl rfl rfl fun b8 => ?_
    (refine L.store (T := tt) tt_ok rfl rfl rfl rfl rfl rfl ?sd370 ?_; (try (case sd370 => (repeat' (first | exact trivial | with_reducible refine zI ?_ ?_ | rfl | exact zN rfl)))))
    refine L.nil ?_
    refine rowsTo ((81, .blk b8 56 a.cells) :: (83, .own y 56 14 out.length (gOf ActD.cells out)) :: rjR b11 xw xm xt r) (by unfold rjR; (repeat (first | exact Sub.refl _ | refine Sub.pick (by first | exact p0 | exact pS p0 | exact pS (pS p0) | exact pS (pS (pS p0)) | exact pS (pS (pS (pS p0))) | exact pS (pS (pS (pS (pS p0))))) ?_))) ?_
    ((repeat refine S.seq ?_); refine S.region (L.go (T := tt) tt_ok rfl rfl ?sd348 ?_); (try (case sd348 => (repeat' (first | exact trivial | exact zA | with_reducible refine zI ?_ ?_ | exact zB | exact zC | exact zE | (simp; done) | (simp_all; done))))); try (refine L.nil ?_))
    have na5 : NN k 5 a := { na with seq := (by have := na.seq; omega), tag := (by have := na.tag; omega) }
    have tm2 := tmod_bds (l.getD k default).many 2 (by decide)
    have tm3 := tmod_bds (l.getD k default).many 3 (by decide)
    have nseq := na.seq
    have ntag := na.tag
    repeat refine S.seq ?_
    refine S.cut (ι := { a : ActD // NN k 5 a }) (fun p => [(0, deedsA l), (1, .v (.bool wrong)), (5, .ptr 40 b11 0), (6, .ref 83 y), (7, .v (.int .i64 k)), (8, .ptr 81 b8 0)]) (fun p => (81, .blk b8 56 p.1.cells) :: (83, .own y 56 14 out.length (gOf ActD.cells out)) :: rjR b11 xw xm xt r) ?_ ?_
    · ((repeat refine S.seq ?_); refine S.cond rfl (fun h1 => ?_) (fun h1 => ?_) <;> (try first | refine S.skip ?_ | refine S.exit ?_))
      · repeat refine S.seq ?_
        refine S.draw [(1, [81]), (10, [81])] mixed ?_
        (refine H.ts (T := tt) [0, 1, 2, 3, 4, 5, 6, 7, 8, 9, 10, 11, 12, 13, 14, 15, 16, 17, 18] tt_ok (by kernel_rfl) (by kernel_rfl) (by kernel_rfl) (by intro ch a a' w h; obtain ⟨_, _, _, _, _, h, _⟩ := h; cases h) rfl ?sd377 ?_; (try (case sd377 => (repeat' (first | exact trivial | with_reducible refine zI ?_ ?_ | rfl | omega | (unfold fits; simp_all; omega))))))
        (refine H.store (T := tt) 19 rfl (by kernel_rfl) (by kernel_rfl) tt_ok rfl rfl rfl rfl rfl rfl ?sd379 rfl (by kernel_rfl) ?_; (try (case sd379 => (repeat' (first | exact trivial | with_reducible refine zI ?_ ?_ | rfl | exact zN rfl)))))
        (refine H.ts (T := tt) [20] tt_ok (by kernel_rfl) (by kernel_rfl) (by kernel_rfl) (by intro ch a a' w h; obtain ⟨_, _, _, _, _, h, _⟩ := h; cases h) rfl ?sd378 ?_; (try (case sd378 => (repeat' (first | exact trivial | with_reducible refine zI ?_ ?_)))))
        (refine H.store (T := tt) 21 rfl (by kernel_rfl) (by kernel_rfl) tt_ok rfl rfl rfl rfl rfl rfl ?sd380 rfl (by kernel_rfl) ?_; (try (case sd380 => (repeat' (first | exact trivial | with_reducible refine zI ?_ ?_ | rfl | exact zN rfl)))))
        refine H.done (by kernel_rfl) ?_
        ((repeat refine S.seq ?_); refine S.region (L.go (T := tt) tt_ok rfl rfl ?sd349 ?_); (try (case sd349 => (repeat' (first | exact trivial | with_reducible refine zI ?_ ?_ | rfl)))); try (refine L.nil ?_))
        (refine L.store (T := tt) tt_ok rfl rfl rfl rfl rfl rfl ?sd371 ?_; (try (case sd371 => (repeat' (first | exact trivial | with_reducible refine zI ?_ ?_ | rfl | exact zN rfl)))))
        refine L.nil ?_
        refine rowsEq ((81, .blk b8 56 ({ a with tag := a.tag + (l.getD k default).many.tmod 2, seq := a.seq + (l.getD k default).many.tmod 3, m := { a.m with again := !a.m.again } } : ActD).cells) :: (83, .own y 56 14 out.length (gOf ActD.cells out)) :: rjR b11 xw xm xt r) rfl ?_
        exact fun a' w h => ⟨⟨{ a with tag := a.tag + (l.getD k default).many.tmod 2, seq := a.seq + (l.getD k default).many.tmod 3, m := { a.m with again := !a.m.again } }, { na5 with seq := (by show -1 - 5 ≤ a.seq + (l.getD k default).many.tmod 3 ∧ a.seq + (l.getD k default).many.tmod 3 ≤ 12000 + 5; omega), tag := (by show -5 ≤ a.tag + (l.getD k default).many.tmod 2 ∧ a.tag + (l.getD k default).many.tmod 2 ≤ 10 * k + 2 + 5; omega) }⟩, h.weakP (by (repeat' (first | exact True.intro | exact Imp.refl _ | refine ⟨?_, ?_⟩))) (Sub.self _)⟩
      · exact fun a' w h => ⟨⟨a, na5⟩, h.weakP (by (repeat' (first | exact True.intro | exact Imp.refl _ | refine ⟨?_, ?_⟩))) (Sub.self _)⟩
    clear na na5 nseq ntag a
    rintro ⟨a, na⟩
    dsimp only
    have aok : ActOk a := na.ok (by omega) (by decide)
    unfold rjR
    repeat refine S.seq ?_
    refine S.region ?_
    (refine L.go (T := tt) tt_ok rfl rfl ?sd358 ?_; (try (case sd358 => (repeat' (first | exact trivial | with_reducible refine zI ?_ ?_ | rfl | exact zN rfl)))); try (refine L.nil ?_))
    refine L.alloc (T := tt) 82 tt_ok rfl rfl rfl rfl rfl fun b9 => ?_
    (refine L.store (T := tt) tt_ok rfl rfl rfl rfl rfl rfl ?sd372 ?_; (try (case sd372 => (repeat' (first | exact trivial | with_reducible refine zI ?_ ?_ | rfl | exact zN rfl)))))
    refine L.nil ?_
    repeat refine S.seq ?_
    refine S.region ?_
    refine L.buildSlice (T := tt) 44 tt_ok rfl rfl rfl rfl rfl rfl (by decide) (by decide) rfl rfl (by (repeat' (first | exact trivial | with_reducible refine zI ?_ ?_))) fun x63 => ?_
    (refine L.go (T := tt) tt_ok rfl rfl ?sd359 ?_; (try (case sd359 => (repeat' (first | exact trivial | with_reducible refine zI ?_ ?_ | rfl)))); try (refine L.nil ?_))
    refine L.append (T := tt) tt_ok rfl rfl rfl rfl rfl rfl rfl rfl rfl rfl (by (repeat' (first | exact trivial | with_reducible refine zI ?_ ?_ | rfl))) ⟨rfl, by decide, by decide⟩ (by simp; omega) fun y68 => ?_
    refine ownAs 44 (gOf PostD.cells r.wait) rfl (Nat.zero_add _) (fun i hi => copyG _ _ _ hi) ?_
    (refine L.go (T := tt) tt_ok rfl rfl ?sd360 ?_; (try (case sd360 => (repeat' (first | exact trivial | with_reducible refine zI ?_ ?_)))); try (refine L.nil ?_))
    (refine L.store (T := tt) tt_ok rfl rfl rfl rfl rfl rfl ?sd373 ?_; (try (case sd373 => (repeat' (first | exact trivial | with_reducible refine zI ?_ ?_ | rfl | exact zN rfl)))))
    refine L.nil ?_
    repeat refine S.seq ?_
    refine S.region ?_
    refine L.buildSlice (T := tt) 45 tt_ok rfl rfl rfl rfl rfl rfl (by decide) (by decide) rfl rfl (by (repeat' (first | exact trivial | with_reducible refine zI ?_ ?_))) fun x70 => ?_
    (refine L.go (T := tt) tt_ok rfl rfl ?sd361 ?_; (try (case sd361 => (repeat' (first | exact trivial | with_reducible refine zI ?_ ?_ | rfl)))); try (refine L.nil ?_))
    refine L.append (T := tt) tt_ok rfl rfl rfl rfl rfl rfl rfl rfl rfl rfl (by (repeat' (first | exact trivial | with_reducible refine zI ?_ ?_ | rfl))) ⟨rfl, by decide, by decide⟩ (by simp; omega) fun y75 => ?_
    refine ownAs 45 (gOf SeenD.cells r.ms) rfl (Nat.zero_add _) (fun i hi => copyG _ _ _ hi) ?_
    (refine L.go (T := tt) tt_ok rfl rfl ?sd362 ?_; (try (case sd362 => (repeat' (first | exact trivial | with_reducible refine zI ?_ ?_)))); try (refine L.nil ?_))
    (refine L.store (T := tt) tt_ok rfl rfl rfl rfl rfl rfl ?sd374 ?_; (try (case sd374 => (repeat' (first | exact trivial | with_reducible refine zI ?_ ?_ | rfl | exact zN rfl)))))
    refine L.nil ?_
    repeat refine S.seq ?_
    refine S.region ?_
    refine L.buildSlice (T := tt) 46 tt_ok rfl rfl rfl rfl rfl rfl (by decide) (by decide) rfl rfl (by (repeat' (first | exact trivial | with_reducible refine zI ?_ ?_))) fun x77 => ?_
    (refine L.go (T := tt) tt_ok rfl rfl ?sd363 ?_; (try (case sd363 => (repeat' (first | exact trivial | with_reducible refine zI ?_ ?_ | rfl)))); try (refine L.nil ?_))
    refine L.append (T := tt) tt_ok rfl rfl rfl rfl rfl rfl rfl rfl rfl rfl (by (repeat' (first | exact trivial | with_reducible refine zI ?_ ?_ | rfl))) ⟨rfl, by decide, by decide⟩ (by simp; omega) fun y82 => ?_
    refine ownAs 46 (gOf GotD.cells r.tags) rfl (Nat.zero_add _) (fun i hi => copyG _ _ _ hi) ?_
    (refine L.go (T := tt) tt_ok rfl rfl ?sd364 ?_; (try (case sd364 => (repeat' (first | exact trivial | with_reducible refine zI ?_ ?_)))); try (refine L.nil ?_))
    (refine L.store (T := tt) tt_ok rfl rfl rfl rfl rfl rfl ?sd375 ?_; (try (case sd375 => (repeat' (first | exact trivial | with_reducible refine zI ?_ ?_ | rfl | exact zN rfl)))))
    refine L.nil ?_
    repeat refine S.seq ?_
    refine S.region ?_
    (refine L.go (T := tt) tt_ok rfl rfl ?sd365 ?_; (try (case sd365 => (repeat' (first | exact trivial | with_reducible refine zI ?_ ?_ | rfl | exact zN rfl)))); try (refine L.nil ?_))
    refine L.call (G := rjR b11 xw xm xt r) (H := [(46, .own y82 143 5 r.tags.length (gOf GotD.cells r.tags)), (45, .own y75 120 11 r.ms.length (gOf SeenD.cells r.ms)), (44, .own y68 118 6 r.wait.length (gOf PostD.cells r.wait)),
      (82, .blk b9 102 [.v (.slice none 0 0), .ref 44 y68, .ref 45 y75, .v (.int .i64 r.t0), .v (.int .i64 r.t1), .v (.int .i64 r.t2), .v (.int .i64 r.t3), .ref 46 y82]), (81, .blk b8 56 a.cells), (83, .own y 56 14 out.length (gOf ActD.cells out))])
      rfl rfl rfl rfl rfl rfl rfl ⟨trivial, by (repeat' (first | exact trivial | with_reducible refine zI ?_ ?_))⟩ rfl (by exact Imps.refl [.ptr 40 b11 0, a.av]) (by unfold rjR; (repeat (first | exact pick0 | refine pickS (by first | exact p0 | exact pS p0 | exact pS (pS p0) | exact pS (pS (pS p0)) | exact pS (pS (pS (pS p0))) | exact pS (pS (pS (pS (pS p0)))) | exact pS (pS (pS (pS (pS (pS p0)))))) ?_))) (radd_p b11 xw xm xt r a k ok aok) ?_
    rintro v F' ⟨xw2, xm2, xt2, rfl, rfl⟩
    refine L.nil ?_
    refine rowsTo ([(46, .own y82 143 5 r.tags.length (gOf GotD.cells r.tags)), (45, .own y75 120 11 r.ms.length (gOf SeenD.cells r.ms)), (44, .own y68 118 6 r.wait.length (gOf PostD.cells r.wait)),
      (82, .blk b9 102 [.v (.slice none 0 0), .ref 44 y68, .ref 45 y75, .v (.int .i64 r.t0), .v (.int .i64 r.t1), .v (.int .i64 r.t2), .v (.int .i64 r.t3), .ref 46 y82]), (81, .blk b8 56 a.cells), (83, .own y 56 14 out.length (gOf ActD.cells out))] ++ rjR b11 xw2 xm2 xt2 (addJ r a).2) (Sub.of _ (by rw [List.append_nil]; exact List.perm_append_comm)) ?_
    unfold rjR
    refine rowsTo ((83, .own y 56 14 out.length (gOf ActD.cells out)) :: (81, .blk b8 56 a.cells) :: (82, .blk b9 102 [.v (.slice none 0 0), .ref 44 y68, .ref 45 y75, .v (.int .i64 r.t0), .v (.int .i64 r.t1), .v (.int .i64 r.t2), .v (.int .i64 r.t3), .ref 46 y82]) ::
      (44, .own y68 118 6 r.wait.length (gOf PostD.cells r.wait)) :: (45, .own y75 120 11 r.ms.length (gOf SeenD.cells r.ms)) :: (46, .own y82 143 5 r.tags.length (gOf GotD.cells r.tags)) :: rjR b11 xw2 xm2 xt2 (addJ r a).2) (by unfold rjR; (repeat (first | exact Sub.refl _ | refine Sub.pick (by first | exact p0 | exact pS p0 | exact pS (pS p0) | exact pS (pS (pS p0)) | exact pS (pS (pS (pS p0))) | exact pS (pS (pS (pS (pS p0))))) ?_))) ?_
    unfold rjR
    ((repeat refine S.seq ?_); refine S.cond rfl (fun h2 => ?_) (fun h2 => ?_) <;> (try first | refine S.skip ?_ | refine S.exit ?_))
    · have h2n : (addJ r a).1 = true := h2
      repeat refine S.seq ?_
      refine S.region ?_
      (refine L.go (T := tt) tt_ok rfl rfl ?sd366 ?_; (try (case sd366 => (repeat' (first | exact trivial | with_reducible refine zI ?_ ?_ | rfl | exact zN rfl)))); try (refine L.nil ?_))
      refine L.buildSlice (T := tt) 84 tt_ok rfl rfl rfl rfl rfl rfl (by decide) (by decide) rfl rfl (by (repeat' (first | exact trivial | with_reducible refine zI ?_ ?_ | rfl | exact zN rfl))) fun x89 => ?_
      refine L.append (T := tt) tt_ok rfl rfl rfl rfl rfl rfl rfl rfl rfl rfl (by (repeat' (first | exact trivial | with_reducible refine zI ?_ ?_ | rfl))) ⟨rfl, by decide, by decide⟩ (by show (out.length + 1) * 144 ≤ _; omega) fun y90 => ?_
      (refine L.go (T := tt) tt_ok rfl rfl ?sd367 ?_; (try (case sd367 => (repeat' (first | exact trivial | with_reducible refine zI ?_ ?_)))); try (refine L.nil ?_))
      refine ownAs 83 (gOf ActD.cells (out ++ [a])) rfl (show out.length + 1 = (out ++ [a]).length by simp) (fun i hi => app1_h ActD.cells out a _ rfl rfl hi) ?_
      refine rowsTo ((83, .own y90 56 14 (out ++ [a]).length (gOf ActD.cells (out ++ [a]))) :: rjR b11 xw2 xm2 xt2 (addJ r a).2) (by unfold rjR; refine Sub.pick (pS p0) ?_; refine Sub.pick (pS (pS (pS (pS (pS (pS p0)))))) ?_; refine Sub.pick (pS (pS (pS (pS (pS (pS p0)))))) ?_; refine Sub.pick (pS (pS (pS (pS (pS (pS p0)))))) ?_; refine Sub.pick (pS (pS (pS (pS (pS (pS p0)))))) ?_; exact Sub.refl _) ?_
      repeat refine S.seq ?_
      refine S.exit ?_
      ((repeat refine S.seq ?_); refine S.region (L.go (T := tt) tt_ok rfl rfl ?sd350 ?_); (try (case sd350 => (repeat' (first | exact trivial | with_reducible refine zI ?_ ?_ | (unfold fits; omega))))); try (refine L.nil ?_))
      exact fun a' w h => ⟨⟨(k + 1, (addJ r a).2, out ++ [a], y90, xw2, xm2, xt2), by show k + 1 ≤ _; omega, rjok_add ok (by omega) a, jb_add jb ok (by omega) na, hearR_app out rj0 r 0 a hh (Int.le_refl _) h2n, by show (out ++ [a]).length ≤ k + 1; rw [List.length_append]; simp; omega, fun b hb => by
        rcases List.mem_append.1 hb with hb | hb
        · exact hao b hb
        · rw [List.mem_singleton] at hb; subst hb; exact aok⟩, by show l.length - (k + 1) < l.length - k; omega, h.weakP (by (repeat' (first | exact True.intro | exact Imp.refl _ | refine ⟨?_, ?_⟩))) (Sub.self _)⟩
    ((repeat refine S.seq ?_); refine S.region (L.go (T := tt) tt_ok rfl rfl ?sd351 ?_); (try (case sd351 => (repeat' (first | exact trivial | with_reducible refine zI ?_ ?_ | rfl | exact zN rfl)))); try (refine L.nil ?_))
    (refine L.store (T := tt) tt_ok rfl rfl rfl rfl rfl rfl ?sd376 ?_; (try (case sd376 => (repeat' (first | exact trivial | with_reducible refine zI ?_ ?_ | rfl | exact zN rfl)))))
    refine L.nil ?_
    refine blkAs 40 [.v (.slice none 0 0), .ref 41 y68, .ref 42 y75, .v (.int .i64 r.t0), .v (.int .i64 r.t1), .v (.int .i64 r.t2), .v (.int .i64 r.t3), .ref 43 y82] rfl ⟨Imp.refl _, Imp.reref _ _ _, Imp.reref _ _ _, Imp.refl _, Imp.refl _, Imp.refl _, Imp.refl _, Imp.reref _ _ _, trivial⟩ ?_
    refine rowsTo [(83, .own y 56 14 out.length (gOf ActD.cells out)), (81, .blk b8 56 a.cells), (44, .own y68 118 6 r.wait.length (gOf PostD.cells r.wait)), (45, .own y75 120 11 r.ms.length (gOf SeenD.cells r.ms)), (46, .own y82 143 5 r.tags.length (gOf GotD.cells r.tags)),
      (40, .blk b11 102 [.v (.slice none 0 0), .ref 41 y68, .ref 42 y75, .v (.int .i64 r.t0), .v (.int .i64 r.t1), .v (.int .i64 r.t2), .v (.int .i64 r.t3), .ref 43 y82])] (by (repeat (first | exact Sub.refl _ | refine Sub.pick (by first | exact p0 | exact pS p0 | exact pS (pS p0) | exact pS (pS (pS p0)) | exact pS (pS (pS (pS p0))) | exact pS (pS (pS (pS (pS p0))))) ?_))) ?_
    refine rowsPm [(83, .own y 56 14 out.length (gOf ActD.cells out)), (81, .blk b8 56 a.cells), (41, .own y68 118 6 r.wait.length (gOf PostD.cells r.wait)), (42, .own y75 120 11 r.ms.length (gOf SeenD.cells r.ms)), (43, .own y82 143 5 r.tags.length (gOf GotD.cells r.tags)),
      (40, .blk b11 102 [.v (.slice none 0 0), .ref 41 y68, .ref 42 y75, .v (.int .i64 r.t0), .v (.int .i64 r.t1), .v (.int .i64 r.t2), .v (.int .i64 r.t3), .ref 43 y82])] (List.Perm.refl _) ?_
    ((repeat refine S.seq ?_); refine S.region (L.go (T := tt) tt_ok rfl rfl ?sd352 ?_); (try (case sd352 => (repeat' (first | exact trivial | exact zA | with_reducible refine zI ?_ ?_ | exact zB | exact zC | exact zE | (simp; done) | (simp_all; done))))); try (refine L.nil ?_))
    ((repeat refine S.seq ?_); refine S.cond rfl (fun h3 => ?_) (fun h3 => ?_) <;> (try first | refine S.skip ?_ | refine S.exit ?_))
    · have hw : wrong = true := by
        cases wrong with
        | true => rfl
        | false => cases h3
      repeat refine S.seq ?_
      refine S.region ?_
      (refine L.go (T := tt) tt_ok rfl rfl ?sd368 ?_; (try (case sd368 => (repeat' (first | exact trivial | with_reducible refine zI ?_ ?_ | rfl | exact zN rfl)))); try (refine L.nil ?_))
      refine L.buildSlice (T := tt) 84 tt_ok rfl rfl rfl rfl rfl rfl (by decide) (by decide) rfl rfl (by (repeat' (first | exact trivial | with_reducible refine zI ?_ ?_ | rfl | exact zN rfl))) fun x106 => ?_
      refine L.append (T := tt) tt_ok rfl rfl rfl rfl rfl rfl rfl rfl rfl rfl (by (repeat' (first | exact trivial | with_reducible refine zI ?_ ?_ | rfl))) ⟨rfl, by decide, by decide⟩ (by show (out.length + 1) * 144 ≤ _; omega) fun y107 => ?_
      (refine L.go (T := tt) tt_ok rfl rfl ?sd369 ?_; (try (case sd369 => (repeat' (first | exact trivial | with_reducible refine zI ?_ ?_)))); try (refine L.nil ?_))
      refine ownAs 83 (gOf ActD.cells (out ++ [a])) rfl (show out.length + 1 = (out ++ [a]).length by simp) (fun i hi => app1_h ActD.cells out a _ rfl rfl hi) ?_
      have hao2 : ∀ b ∈ out ++ [a], ActOk b := fun b hb => by
        rcases List.mem_append.1 hb with hb | hb
        · exact hao b hb
        · rw [List.mem_singleton] at hb; subst hb; exact aok
      have hol2 : (out ++ [a]).length ≤ l.length := by rw [List.length_append]; simp; omega
      ((repeat refine S.seq ?_); refine S.ret ?_)
      exact E.ret (T := tt) tt_ok rfl rfl (by (repeat' (first | exact trivial | with_reducible refine zI ?_ ?_))) (F' := [(83, .own y107 56 14 (out ++ [a]).length (gOf ActD.cells (out ++ [a])))]) (Imp.refl _) (by (repeat (first | exact List.nil_sublist _ | refine List.Sublist.cons_cons _ ?_ | refine List.Sublist.cons _ ?_))) ⟨out ++ [a], y107, rfl, hao2, hol2, fun e => absurd (hw.symm.trans e) (by decide), rfl⟩
    ((repeat refine S.seq ?_); refine S.region (L.go (T := tt) tt_ok rfl rfl ?sd353 ?_); (try (case sd353 => (repeat' (first | exact trivial | with_reducible refine zI ?_ ?_ | (unfold fits; omega))))); try (refine L.nil ?_))
    exact fun a' w h => ⟨⟨(k + 1, r, out, y, y68, y75, y82), by show k + 1 ≤ _; omega, ok.up (by omega), jb.up, hh, by show out.length ≤ k + 1; omega, hao⟩, by show l.length - (k + 1) < l.length - k; omega, h.weakP (by (repeat' (first | exact True.intro | exact Imp.refl _ | refine ⟨?_, ?_⟩))) (by first | (unfold rjR; (repeat (first | exact Sub.refl _ | refine Sub.pick (by first | exact p0 | exact pS p0 | exact pS (pS p0) | exact pS (pS (pS p0)) | exact pS (pS (pS (pS p0))) | exact pS (pS (pS (pS (pS p0))))) ?_))) | (repeat (first | exact Sub.refl _ | refine Sub.pick (by first | exact p0 | exact pS p0 | exact pS (pS p0) | exact pS (pS (pS p0)) | exact pS (pS (pS (pS p0))) | exact pS (pS (pS (pS (pS p0))))) ?_)))⟩
  have hkl : k = l.length := by have := of_dec' hc; omega
  subst hkl
  ((repeat refine S.seq ?_); refine S.region (L.go (T := tt) tt_ok rfl rfl ?sd354 ?_); (try (case sd354 => (repeat' (first | exact trivial | with_reducible refine zI ?_ ?_)))); try (refine L.nil ?_))
  ((repeat refine S.seq ?_); refine S.ret ?_)
  exact E.ret (T := tt) tt_ok rfl rfl (by (repeat' (first | exact trivial | with_reducible refine zI ?_ ?_))) (F' := [(83, .own y 56 14 out.length (gOf ActD.cells out))]) (Imp.refl _) (by unfold rjR; (repeat (first | exact List.nil_sublist _ | refine List.Sublist.cons_cons _ ?_ | refine List.Sublist.cons _ ?_))) ⟨out, y, rfl, hao, hol, fun _ => by rw [rcheckJ, hh], rfl⟩
end Go.Proofs.YtfdneepgpekmiaaDoor

/- JudgeMakes, JudgeFront. -/
namespace Go.Proofs.YtfdneepgpekmiaaDoor
set_option linter.unusedVariables false
set_option linter.unusedSimpArgs false
set_option maxHeartbeats 8000000
open Go.RowKit
set_option maxRecDepth 8000

theorem hearR_gt : ∀ (l : List ActD) (r : RJ) (n : Int), (hearR r l n).1 = 0 ∨ n < (hearR r l n).1
  | [], r, n => .inl rfl
  | a :: t, r, n => by
    show (if (addJ r a).1 then hearR (addJ r a).2 t (n + 1) else (n + 1, (addJ r a).2)).1 = 0 ∨ n < (if (addJ r a).1 then hearR (addJ r a).2 t (n + 1) else (n + 1, (addJ r a).2)).1
    split
    · have := hearR_gt t (addJ r a).2 (n + 1); omega
    · exact .inr (by show n < n + 1; omega)
theorem hearR_split : ∀ (l m : List ActD) (r : RJ) (n : Int), 0 ≤ n → (hearR r l n).1 = 0 → hearR r (l ++ m) n = hearR (hearR r l n).2 m (n + l.length)
  | [], m, r, n, hn, h => by simp [hearR]
  | a :: t, m, r, n, hn, h => by
    show (if (addJ r a).1 then hearR (addJ r a).2 (t ++ m) (n + 1) else (n + 1, (addJ r a).2)) = hearR (if (addJ r a).1 then hearR (addJ r a).2 t (n + 1) else (n + 1, (addJ r a).2)).2 m (n + ((a :: t).length : Int))
    have h' : (if (addJ r a).1 then hearR (addJ r a).2 t (n + 1) else (n + 1, (addJ r a).2)).1 = 0 := h
    by_cases hb : (addJ r a).1 = true
    · rw [if_pos hb] at h' ⊢
      rw [if_pos hb, hearR_split t m _ _ (by omega) h']
      congr 1
      simp only [List.length_cons]
      omega
    · rw [if_neg hb] at h'
      have : n + 1 = 0 := h'
      omega
theorem hearR_take : ∀ (l : List ActD) (k : Nat) (r : RJ) (n : Int), 0 ≤ n → (hearR r l n).1 = 0 → (hearR r (l.take k) n).1 = 0
  | l, 0, r, n, hn, h => by rw [List.take_zero]; rfl
  | [], k + 1, r, n, hn, h => rfl
  | a :: t, k + 1, r, n, hn, h => by
    have h' : (if (addJ r a).1 then hearR (addJ r a).2 t (n + 1) else (n + 1, (addJ r a).2)).1 = 0 := h
    show (if (addJ r a).1 then hearR (addJ r a).2 (t.take k) (n + 1) else (n + 1, (addJ r a).2)).1 = 0
    by_cases hb : (addJ r a).1 = true
    · rw [if_pos hb] at h' ⊢
      exact hearR_take t k _ _ (by omega) h'
    · rw [if_neg hb] at h'
      have : n + 1 = 0 := h'
      omega
theorem front_law {l m : List ActD} {k : Nat} (hk : k ≤ l.length) (h : checkJ l = 0) : checkJ (l.take k) = 0 ∧ (checkJ (l.take k ++ m) = 0 ∨ (k : Int) < checkJ (l.take k ++ m)) := by
  rw [check_same, rcheckJ] at h
  have h1 := hearR_take l k rj0 0 (Int.le_refl _) h
  refine ⟨by rw [check_same]; exact h1, ?_⟩
  rw [check_same, rcheckJ, hearR_split _ _ _ _ (Int.le_refl _) h1]
  have := hearR_gt m (hearR rj0 (l.take k) 0).2 (0 + (l.take k).length)
  rw [List.length_take, Nat.min_eq_left hk] at this
  rw [List.length_take, Nat.min_eq_left hk]
  omega

theorem check_v {l : List ActD} {z : Int} (hl : l.length ≤ 900) (ao : ∀ a ∈ l, ActOk a) (hz : checkJ l = z) : PFn Tryd.prog 27 [actsA l] (.v (.int .i64 z)) := hz ▸ jcheck_p l hl ao
theorem rcheck_v {l : List ActD} {z : Int} (hl : l.length ≤ 900) (ao : ∀ a ∈ l, ActOk a) (hz : checkJ l = z) : PFn Tryd.prog 28 [actsA l] (.v (.int .i64 z)) := hz ▸ rcheck_eq l hl ao

theorem judgeMakes_p (l : List DeedD) (wrong : Bool) : PFn Tryd.prog 7 [deedsA l, .v (.bool wrong)] (.v (.bool true)) := by
  refine FnC.intro Tryd.func7 rfl Tryd.ntmps7 rfl ?_; intro off w0
  refine lenAt (sz := 6) (n := l.length) (g := gOf DeedD.cells l) 0 rfl fun hn => ?_
  ((repeat refine S.seq ?_); refine S.region (L.go (T := tt) tt_ok rfl rfl ?sd381 ?_); (try (case sd381 => (repeat' (first | exact trivial | with_reducible refine zI ?_ ?_)))); try (refine L.nil ?_))
  ((repeat refine S.seq ?_); refine S.region (L.go (T := tt) tt_ok rfl rfl ?sd382 ?_); (try (case sd382 => (repeat' (first | exact trivial | with_reducible refine zI ?_ ?_)))); try (refine L.nil ?_))
  ((repeat refine S.seq ?_); refine S.cond rfl (fun h0 => ?_) (fun h0 => ?_) <;> (try first | refine S.skip ?_ | refine S.exit ?_))
  · repeat refine S.seq ?_
    refine S.region ?_
    refine L.callP rfl rfl rfl rfl rfl rfl rfl ⟨trivial, by (repeat' (first | exact trivial))⟩ rfl (Imps.refl _) told21_p ?_
    (refine L.go (T := tt) tt_ok rfl rfl ?sd387 ?_; (try (case sd387 => (repeat' (first | exact trivial | with_reducible refine zI ?_ ?_)))); try (refine L.nil ?_))
    (((repeat refine S.seq ?_); refine S.ret ?_); refine E.retP (T := tt) tt_ok rfl rfl (by (repeat' (first | exact trivial | with_reducible refine zI ?_ ?_))) ?_)
    exact Imp.refl _
  have hl : l.length ≤ 80 := by have := of_dec' h0; omega
  repeat refine S.seq ?_
  refine S.region ?_
  (refine L.go (T := tt) tt_ok rfl rfl ?sd388 ?_; (try (case sd388 => (repeat' (first | exact trivial | with_reducible refine zI ?_ ?_)))); try (refine L.nil ?_))
  refine L.call (G := []) (H := []) rfl rfl rfl rfl rfl rfl rfl ⟨trivial, by (repeat' (first | exact trivial | with_reducible refine zI ?_ ?_))⟩ rfl (by exact Imps.refl [deedsA l, .v (.bool wrong)]) (List.Perm.refl _) (make_p l wrong hl) ?_
  rintro v F' ⟨out, y, rfl, hao, hol, hw, rfl⟩
  (refine L.go (T := tt) tt_ok rfl rfl ?sd389 ?_; (try (case sd389 => (repeat' (first | exact trivial | with_reducible refine zI ?_ ?_)))); try (refine L.nil ?_))
  refine freezeSlot 5 83 rfl rfl rfl ?_
  refine slotAs 5 (actsA out) rfl (Imp.refl _) ?_
  have hl9 : out.length ≤ 900 := by omega
  obtain ⟨z, hz⟩ : ∃ z, checkJ out = z := ⟨_, rfl⟩
  have hzw : (wrong || (z == 0)) = true := by
    cases wrong with
    | true => rfl
    | false =>
      have := hw rfl
      rw [← check_same, hz] at this
      rw [this]
      rfl
  repeat refine S.seq ?_
  refine S.region ?_
  (refine L.go (T := tt) tt_ok rfl rfl ?sd390 ?_; (try (case sd390 => (repeat' (first | exact trivial | with_reducible refine zI ?_ ?_)))); try (refine L.nil ?_))
  refine L.callP rfl rfl rfl rfl rfl rfl rfl ⟨trivial, by (repeat' (first | exact trivial | with_reducible refine zI ?_ ?_))⟩ rfl (Imps.refl _) (check_v hl9 hao hz) ?_
  (refine L.go (T := tt) tt_ok rfl rfl ?sd391 ?_; (try (case sd391 => (repeat' (first | exact trivial | with_reducible refine zI ?_ ?_)))); try (refine L.nil ?_))
  repeat refine S.seq ?_
  refine S.region ?_
  refine L.callP rfl rfl rfl rfl rfl rfl rfl ⟨trivial, by (repeat' (first | exact trivial))⟩ rfl (Imps.refl _) told21_p ?_
  (refine L.go (T := tt) tt_ok rfl rfl ?sd392 ?_; (try (case sd392 => (repeat' (first | exact trivial | exact zA | with_reducible refine zI ?_ ?_)))); try (refine L.nil ?_))
  refine L.callG rfl rfl rfl rfl rfl rfl rfl (fun _ => ⟨trivial, by (repeat' (first | exact trivial | with_reducible refine zI ?_ ?_ | rfl))⟩) rfl (Imps.refl _) (fun _ => (rcheck_v hl9 hao hz)) ?_
  (refine L.go (T := tt) tt_ok rfl rfl ?sd393 ?_; (try (case sd393 => (repeat' (first | exact trivial | exact zA | with_reducible refine zI ?_ ?_ | exact zB | exact zD | exact zE | (simp; done))))); try (refine L.nil ?_))
  refine slotAs 30 (.v (.bool true)) rfl (Imp.of_eq (show AV.v (.bool (true && (z == z) && (wrong || (z == 0)))) = AV.v (.bool true) from by rw [hzw, beq_self_eq_true]; rfl)) ?_
  refine L.callT (G := []) (H := []) rfl rfl rfl rfl rfl rfl rfl rfl ⟨trivial, by (repeat' (first | exact trivial | with_reducible refine zI ?_ ?_ | (simp_all; done)))⟩ rfl (by exact Imps.refl [actsA out]) (List.Perm.refl _) (jopen_p out hl9 hao) ?_
  rintro r F' ⟨y, rfl, rfl⟩
  refine freezeSlot 32 70 rfl rfl rfl ?_
  (refine L.go (T := tt) tt_ok rfl rfl ?sd394 ?_; (try (case sd394 => (repeat' (first | exact trivial | exact zA | with_reducible refine zI ?_ ?_)))); try (refine L.nil ?_))
  refine L.callT (G := []) (H := []) rfl rfl rfl rfl rfl rfl rfl rfl ⟨trivial, by (repeat' (first | exact trivial | with_reducible refine zI ?_ ?_ | rfl))⟩ rfl (by exact Imps.refl [actsA out]) (List.Perm.refl _) (ropen_p out hl9 hao) ?_
  rintro r F' ⟨y2, rfl, rfl⟩
  refine freezeSlot 34 70 rfl rfl rfl ?_
  refine slotAs 34 (.lst 5 (openJ out).length (gOf Msg.cells (openJ out))) rfl (Imp.of_eq (by rw [open_same])) ?_
  refine L.callG rfl rfl rfl rfl rfl rfl rfl (fun _ => ⟨trivial, by (repeat' (first | exact trivial | with_reducible refine zI ?_ ?_))⟩) rfl (Imps.refl _) (fun _ => (messages_p (openJ out))) ?_
  (refine L.go (T := tt) tt_ok rfl rfl ?sd395 ?_; (try (case sd395 => (repeat' (first | exact trivial | with_reducible refine zI ?_ ?_ | exact zB)))); try (refine L.nil ?_))
  (((repeat refine S.seq ?_); refine S.ret ?_); refine E.retP (T := tt) tt_ok rfl rfl (by (repeat' (first | exact trivial | with_reducible refine zI ?_ ?_))) ?_)
  exact Imp.of_eq (by simp [oneOf])

theorem take_g (out : List ActD) {k i : Nat} (h : i < k) : gOf ActD.cells out i = gOf ActD.cells (out.take k) i := by
  unfold gOf
  rw [List.getD_eq_getElem?_getD, List.getD_eq_getElem?_getD, List.getElem?_take_of_lt h]
theorem skip_g (out : List ActD) {k : Nat} (hk : k < out.length) (j0 : Nat → List AV) (i : Nat) : joinG (0 + (k : Int).toNat) (joinG 0 j0 (gOf ActD.cells out)) (fun i => gOf ActD.cells out (i + ((k : Int) + 1).toNat)) i = gOf ActD.cells (out.take k ++ out.drop (k + 1)) i := by
  simp only [joinG, Nat.zero_add, Int.toNat_natCast, Nat.not_lt_zero, if_false, Nat.sub_zero, gOf, List.getD_eq_getElem?_getD, List.getElem?_append, List.length_take, Nat.min_eq_left (Nat.le_of_lt hk)]
  split
  · rename_i h
    rw [List.getElem?_take_of_lt h]
  · rw [List.getElem?_drop, show ((k : Int) + 1).toNat = k + 1 by omega, Nat.add_comm (k + 1)]
theorem judgeFront_p (l : List DeedD) (cut : Int) : PFn Tryd.prog 8 [deedsA l, .v (.int .i64 cut)] (.v (.bool true)) := by
  refine FnC.intro Tryd.func8 rfl Tryd.ntmps8 rfl ?_; intro off w0
  refine lenAt (sz := 6) (n := l.length) (g := gOf DeedD.cells l) 0 rfl fun hn => ?_
  ((repeat refine S.seq ?_); refine S.region (L.go (T := tt) tt_ok rfl rfl ?sd383 ?_); (try (case sd383 => (repeat' (first | exact trivial | with_reducible refine zI ?_ ?_)))); try (refine L.nil ?_))
  ((repeat refine S.seq ?_); refine S.region (L.go (T := tt) tt_ok rfl rfl ?sd384 ?_); (try (case sd384 => (repeat' (first | exact trivial | with_reducible refine zI ?_ ?_)))); try (refine L.nil ?_))
  ((repeat refine S.seq ?_); refine S.cond rfl (fun h0 => ?_) (fun h0 => ?_) <;> (try first | refine S.skip ?_ | refine S.exit ?_))
  · repeat refine S.seq ?_
    refine S.region ?_
    refine L.callP rfl rfl rfl rfl rfl rfl rfl ⟨trivial, by (repeat' (first | exact trivial))⟩ rfl (Imps.refl _) told21_p ?_
    (refine L.go (T := tt) tt_ok rfl rfl ?sd396 ?_; (try (case sd396 => (repeat' (first | exact trivial | with_reducible refine zI ?_ ?_)))); try (refine L.nil ?_))
    (((repeat refine S.seq ?_); refine S.ret ?_); refine E.retP (T := tt) tt_ok rfl rfl (by (repeat' (first | exact trivial | with_reducible refine zI ?_ ?_))) ?_)
    exact Imp.refl _
  have hl : l.length ≤ 60 := by have := of_dec' h0; omega
  repeat refine S.seq ?_
  refine S.region ?_
  (refine L.go (T := tt) tt_ok rfl rfl ?sd397 ?_; (try (case sd397 => (repeat' (first | exact trivial | with_reducible refine zI ?_ ?_)))); try (refine L.nil ?_))
  refine L.call (G := []) (H := []) rfl rfl rfl rfl rfl rfl rfl ⟨trivial, by (repeat' (first | exact trivial | with_reducible refine zI ?_ ?_))⟩ rfl (by exact Imps.refl [deedsA l, .v (.bool false)]) (List.Perm.refl _) (make_p l false (by omega)) ?_
  rintro v F' ⟨out, y, rfl, hao, hol, hw, rfl⟩
  (refine L.go (T := tt) tt_ok rfl rfl ?sd398 ?_; (try (case sd398 => (repeat' (first | exact trivial | with_reducible refine zI ?_ ?_)))); try (refine L.nil ?_))
  refine freezeSlot 5 83 rfl rfl rfl ?_
  refine slotAs 5 (actsA out) rfl (Imp.refl _) ?_
  have hl9 : out.length ≤ 900 := by omega
  have hz : checkJ out = 0 := by rw [check_same]; exact hw rfl
  obtain ⟨k, hk, hke⟩ := umod cut ((out.length : Int) + 1) (by omega) (by omega)
  have hww : IntKind.u64.wrap ((out.length : Int) + 1) = (out.length : Int) + 1 := by
    have := uwrap (n := out.length + 1) (by omega)
    simpa using this
  have hkl : k ≤ out.length := by omega
  ((repeat refine S.seq ?_); refine S.region (L.go (T := tt) tt_ok rfl rfl ?sd385 ?_); (try (case sd385 => (repeat' (first | exact trivial | with_reducible refine zI ?_ ?_ | omega | (unfold fits; omega))))); try (refine L.nil ?_))
  refine slotAs 6 (.v (.int .i64 k)) rfl (Imp.of_eq (by rw [hww, ← hke])) ?_
  repeat refine S.seq ?_
  refine S.region ?_
  (refine L.go (T := tt) tt_ok rfl rfl ?sd399 ?_; (try (case sd399 => (repeat' (first | exact trivial | with_reducible refine zI ?_ ?_)))); try (refine L.nil ?_))
  refine L.callP rfl rfl rfl rfl rfl rfl rfl ⟨trivial, by (repeat' (first | exact trivial | with_reducible refine zI ?_ ?_))⟩ rfl (Imps.refl _) (check_v hl9 hao hz) ?_
  (refine L.go (T := tt) tt_ok rfl rfl ?sd400 ?_; (try (case sd400 => (repeat' (first | exact trivial | exact zA | with_reducible refine zI ?_ ?_ | (simp; omega))))); try (refine L.nil ?_))
  refine L.callG rfl rfl rfl rfl rfl rfl rfl (fun _ => ⟨trivial, by (repeat' (first | exact trivial | with_reducible refine zI ?_ ?_ | rfl))⟩) rfl ?q1 (fun _ => check_v (l := out.take k) (by rw [List.length_take]; omega) (fun a ha => hao a (List.mem_of_mem_take ha)) (front_law (m := []) hkl hz).1) ?_
  case q1 => exact ⟨Imp.lst (by rw [List.length_take]; omega) (fun i hi => take_g out (by omega)), trivial⟩
  (refine L.go (T := tt) tt_ok rfl rfl ?sd401 ?_; (try (case sd401 => (repeat' (first | exact trivial | with_reducible refine zI ?_ ?_ | exact zB | exact zE)))); try (refine L.nil ?_))
  ((repeat refine S.seq ?_); refine S.cond rfl (fun h1 => ?_) (fun h1 => ?_) <;> (try first | refine S.skip ?_ | refine S.exit ?_))
  · cases h1
  ((repeat refine S.seq ?_); refine S.region (L.go (T := tt) tt_ok rfl rfl ?sd386 ?_); (try (case sd386 => (repeat' (first | exact trivial | with_reducible refine zI ?_ ?_)))); try (refine L.nil ?_))
  ((repeat refine S.seq ?_); refine S.cond rfl (fun h2 => ?_) (fun h2 => ?_) <;> (try first | refine S.skip ?_ | refine S.exit ?_))
  · repeat refine S.seq ?_
    refine S.region ?_
    refine L.callP rfl rfl rfl rfl rfl rfl rfl ⟨trivial, by (repeat' (first | exact trivial))⟩ rfl (Imps.refl _) told21_p ?_
    (refine L.go (T := tt) tt_ok rfl rfl ?sd402 ?_; (try (case sd402 => (repeat' (first | exact trivial | with_reducible refine zI ?_ ?_)))); try (refine L.nil ?_))
    (((repeat refine S.seq ?_); refine S.ret ?_); refine E.retP (T := tt) tt_ok rfl rfl (by (repeat' (first | exact trivial | with_reducible refine zI ?_ ?_))) ?_)
    exact Imp.refl _
  have h2n : k < out.length := by
    have h2' : ((k : Int) == (out.length : Int)) = false := h2
    rw [beq_eq_false_iff_ne] at h2'
    omega
  obtain ⟨X, hX⟩ : ∃ X, X = out.take k ++ out.drop (k + 1) := ⟨_, rfl⟩
  have hXl : X.length = k + (out.length - (k + 1)) := by rw [hX, List.length_append, List.length_take, List.length_drop]; omega
  have hXo : ∀ a ∈ X, ActOk a := fun a ha => by
    rw [hX] at ha
    rcases List.mem_append.1 ha with ha | ha
    · exact hao a (List.mem_of_mem_take ha)
    · exact hao a (List.mem_of_mem_drop ha)
  have hX9 : X.length ≤ 900 := by omega
  obtain ⟨z, hzX⟩ : ∃ z, checkJ X = z := ⟨_, rfl⟩
  have hzk : z = 0 ∨ (k : Int) < z := by
    have := (front_law (m := out.drop (k + 1)) hkl hz).2
    rw [← hX, hzX] at this
    exact this
  have hzk2 : ((z == 0) || decide (z > (k : Int))) = true := by
    rcases hzk with h | h
    · rw [h]; rfl
    · rw [decide_eq_true (show z > (k : Int) from h), Bool.or_true]
  repeat refine S.seq ?_
  refine S.draw [] mixed ?_
  (refine H.ts (T := tt) [1, 2, 3, 5, 6, 7, 8] tt_ok (by kernel_rfl) (by kernel_rfl) (by kernel_rfl) (by intro ch a a' w h; obtain ⟨_, _, _, _, _, h, _⟩ := h; cases h) rfl ?sd408 ?_; (try (case sd408 => (repeat' (first | exact trivial | with_reducible refine zI ?_ ?_ | omega | (unfold fits; omega))))))
  refine H.o1 0 rfl (by kernel_rfl) (by kernel_rfl) (O.buildSlice (T := tt) 84 tt_ok rfl rfl rfl rfl rfl rfl (by decide) (by decide) rfl rfl (by (repeat' (first | exact trivial | with_reducible refine zI ?_ ?_)))) (.inr rfl) rfl fun x37 => ?_
  refine H.o1 4 rfl (by kernel_rfl) (by kernel_rfl) (O.append (T := tt) tt_ok rfl rfl rfl rfl rfl rfl rfl rfl rfl rfl (by (repeat' (first | exact trivial | with_reducible refine zI ?_ ?_ | rfl))) ⟨rfl, by decide, by decide⟩ (by simp; omega)) (.inl (by kernel_rfl)) (by kernel_rfl) fun y41 => ?_
  refine H.o1 9 rfl (by kernel_rfl) (by kernel_rfl) (O.append (T := tt) tt_ok rfl rfl rfl rfl rfl rfl rfl rfl rfl rfl (by (repeat' (first | exact trivial | with_reducible refine zI ?_ ?_ | rfl))) ⟨rfl, by decide, by decide⟩ (by simp; omega)) (.inl (by kernel_rfl)) (by kernel_rfl) fun y46 => ?_
  (refine H.ts (T := tt) [10] tt_ok (by kernel_rfl) (by kernel_rfl) (by kernel_rfl) (by intro ch a a' w h; obtain ⟨_, _, _, _, _, h, _⟩ := h; cases h) rfl ?sd409 ?_; (try (case sd409 => (repeat' (first | exact trivial | with_reducible refine zI ?_ ?_)))))
  refine H.done (by kernel_rfl) ?_
  refine ownAs 84 (gOf ActD.cells X) rfl (show 0 + (k : Int).toNat + (out.length - ((k : Int) + 1).toNat) = X.length by omega) (fun i hi => ?_) ?_
  · rw [hX]
    exact skip_g out h2n _ i
  refine freezeSlot 7 84 rfl rfl rfl ?_
  refine slotAs 7 (actsA X) rfl (Imp.refl _) ?_
  repeat refine S.seq ?_
  refine S.region ?_
  refine L.callP rfl rfl rfl rfl rfl rfl rfl ⟨trivial, by (repeat' (first | exact trivial))⟩ rfl (Imps.refl _) told21_p ?_
  (refine L.go (T := tt) tt_ok rfl rfl ?sd403 ?_; (try (case sd403 => (repeat' (first | exact trivial | exact zA | with_reducible refine zI ?_ ?_)))); try (refine L.nil ?_))
  refine L.callG rfl rfl rfl rfl rfl rfl rfl (fun _ => ⟨trivial, by (repeat' (first | exact trivial | with_reducible refine zI ?_ ?_ | rfl))⟩) rfl (Imps.refl _) (fun _ => (check_v hX9 hXo hzX)) ?_
  (refine L.go (T := tt) tt_ok rfl rfl ?sd404 ?_; (try (case sd404 => (repeat' (first | exact trivial | exact zA | with_reducible refine zI ?_ ?_)))); try (refine L.nil ?_))
  refine L.callG rfl rfl rfl rfl rfl rfl rfl (fun _ => ⟨trivial, by (repeat' (first | exact trivial | with_reducible refine zI ?_ ?_ | rfl))⟩) rfl (Imps.refl _) (fun _ => (rcheck_v hX9 hXo hzX)) ?_
  (refine L.go (T := tt) tt_ok rfl rfl ?sd405 ?_; (try (case sd405 => (repeat' (first | exact trivial | exact zA | with_reducible refine zI ?_ ?_ | exact zB | exact zD)))); try (refine L.nil ?_))
  refine L.callG rfl rfl rfl rfl rfl rfl rfl (fun _ => ⟨trivial, by (repeat' (first | exact trivial | with_reducible refine zI ?_ ?_ | omega))⟩) rfl (Imps.refl _) (fun _ => (check_v hX9 hXo hzX)) ?_
  (refine L.go (T := tt) tt_ok rfl rfl ?sd406 ?_; (try (case sd406 => (repeat' (first | exact trivial | exact zA | with_reducible refine zI ?_ ?_ | exact zE)))); try (refine L.nil ?_))
  refine L.callG rfl rfl rfl rfl rfl rfl rfl (fun _ => ⟨trivial, by (repeat' (first | exact trivial | with_reducible refine zI ?_ ?_ | omega))⟩) rfl (Imps.refl _) (fun _ => (check_v hX9 hXo hzX)) ?_
  (refine L.go (T := tt) tt_ok rfl rfl ?sd407 ?_; (try (case sd407 => (repeat' (first | exact trivial | exact zA | with_reducible refine zI ?_ ?_ | exact zB | exact zD | (simp; done))))); try (refine L.nil ?_))
  (((repeat refine S.seq ?_); refine S.ret ?_); refine E.retP (T := tt) tt_ok rfl rfl (by (repeat' (first | exact trivial | with_reducible refine zI ?_ ?_))) ?_)
  exact Imp.of_eq (show AV.v (.bool (true && (z == z) && ((z == 0) || decide (z > (k : Int))))) = AV.v (.bool true) from by rw [hzk2, beq_self_eq_true]; rfl)
end Go.Proofs.YtfdneepgpekmiaaDoor

/- Deeds that come in. -/
namespace Go.Proofs.YtfdneepgpekmiaaDoor
set_option linter.unusedVariables false
set_option linter.unusedSimpArgs false
set_option maxHeartbeats 8000000
open Go.RowKit

theorem rd_deed : RdP Tryd.prog 123 DeedD.cells DeedD.ok :=
  (rd_struct (T := tt) tt_ok rfl rfl rfl (rdf_cons r_int (rdf_cons r_int (rdf_cons r_int (rdf_cons r_int (rdf_cons r_int (rdf_cons r_int rdf_nil))))))).map
    (fun d => ⟨d.1, d.2.1, d.2.2.1, d.2.2.2.1, d.2.2.2.2.1, d.2.2.2.2.2.1⟩) (fun _ => rfl) fun d h => ⟨h.1, h.2.1, h.2.2.1, h.2.2.2.1, h.2.2.2.2.1, h.2.2.2.2.2.1⟩
theorem rd_deeds : RdP Tryd.prog 60 (fun l : List DeedD => [deedsA l]) (fun l => l.length ≤ maxLen ∧ ∀ m ∈ l, m.ok) := rd_slice (sz := 6) (by kernel_rfl) (by kernel_rfl) (fun _ => rfl) rd_deed
end Go.Proofs.YtfdneepgpekmiaaDoor
