/- Of a key and a publisher messages come in their order: the walk. -/
import Derived.Test.YtgnklbdbglnmaaaOrderLawM
import Derived.Test.YtgnklbdbglnmaaaSymArrM
namespace Go.Proofs.Ytgnklbdbglnmaaa
set_option linter.unusedVariables false
set_option linter.unusedSimpArgs false
set_option maxHeartbeats 8000000
open Go.RowKit
set_option maxRecDepth 4000

structure OSt where
  k : Nat
  s : Shard
  D : Nat → Int
  H : Nat → Int
  B : Nat → Msg
theorem upd_c (D : Nat → Int) (k : Nat) (v : Int) (i : Nat) : (if i = k then [AV.v (.int .i64 v)] else intC (D i)) = intC (upd D k v i) := by
  unfold upd; split <;> rfl
theorem upd_m (D : Nat → Msg) (k : Nat) (v : Msg) (i : Nat) : (if i = k then v.cells else (D i).cells) = (upd D k v i).cells := by
  unfold upd; split <;> rfl
theorem name_ne {i q : Nat} (hi : i < 6) (hq : q < 6) : (nameK (i : Int) = nameK (q : Int)) ↔ i = q := ⟨nameK_inj i hi q hq, fun e => by rw [e]⟩

theorem shardOrder_p (l : List OpD) : PFn Try.prog 4 [opsA l] (.v (.bool true)) := by
  refine FnC.intro Try.func4 rfl Try.ntmps4 rfl ?_; intro off w0
  ((repeat refine S.seq ?_); refine S.region (L.go (T := tt) tt_ok rfl rfl ?sd1 ?_); (try (case sd1 => (repeat' (first | exact trivial | exact zA | with_reducible refine zI ?_ ?_ | exact zB | exact zC | exact zD | exact zE | rfl | exact zN rfl | omega | assumption | (simp; done) | (simp [splice]; done) | (simp; omega) | (unfold fits; omega) | (unfold fits; simp_all; omega) | (simp_all; omega) | (simp_all; done) | intro _)))); try (refine L.nil ?_))
  ((repeat refine S.seq ?_); refine S.region (L.go (T := tt) tt_ok rfl rfl ?sd2 ?_); (try (case sd2 => (repeat' (first | exact trivial | exact zA | with_reducible refine zI ?_ ?_ | exact zB | exact zC | exact zD | exact zE | rfl | exact zN rfl | omega | assumption | (simp; done) | (simp [splice]; done) | (simp; omega) | (unfold fits; omega) | (unfold fits; simp_all; omega) | (simp_all; omega) | (simp_all; done) | intro _)))); try (refine L.nil ?_))
  ((repeat refine S.seq ?_); refine S.cond rfl (fun h1 => ?_) (fun h1 => ?_) <;> (try first | refine S.skip ?_ | refine S.exit ?_))
  · skip
    repeat refine S.seq ?_
    refine S.region ?_
    refine L.callP rfl rfl rfl rfl rfl rfl rfl ⟨trivial, by (repeat' (first | exact trivial | exact zA | with_reducible refine zI ?_ ?_ | exact zB | exact zC | exact zD | exact zE | rfl | exact zN rfl | omega | assumption | (simp; done) | (simp [splice]; done) | (simp; omega) | (unfold fits; omega) | (unfold fits; simp_all; omega) | (simp_all; omega) | (simp_all; done) | intro _))⟩ rfl (Imps.refl _) told12_p ?_
    (refine L.go (T := tt) tt_ok rfl rfl ?sd38 ?_; (try (case sd38 => (repeat' (first | exact trivial | exact zA | with_reducible refine zI ?_ ?_ | exact zB | exact zC | exact zD | exact zE | rfl | exact zN rfl | omega | assumption | (simp; done) | (simp [splice]; done) | (simp; omega) | (unfold fits; omega) | (unfold fits; simp_all; omega) | (simp_all; omega) | (simp_all; done) | intro _)))); try (refine L.nil ?_))
    (((repeat refine S.seq ?_); refine S.ret ?_); refine E.retP (T := tt) tt_ok rfl rfl (by (repeat' (first | exact trivial | exact zA | with_reducible refine zI ?_ ?_ | exact zB | exact zC | exact zD | exact zE | rfl | exact zN rfl | omega | assumption | (simp; done) | (simp [splice]; done) | (simp; omega) | (unfold fits; omega) | (unfold fits; simp_all; omega) | (simp_all; omega) | (simp_all; done) | intro _))) (Imp.of_eq ?_))
    rfl
  have h1 := of_dec' h1
  repeat refine S.seq ?_
  refine S.region ?_
  refine L.callP rfl rfl rfl rfl rfl rfl rfl ⟨trivial, by (repeat' (first | exact trivial | exact zA | with_reducible refine zI ?_ ?_ | exact zB | exact zC | exact zD | exact zE | rfl | exact zN rfl | omega | assumption | (simp; done) | (simp [splice]; done) | (simp; omega) | (unfold fits; omega) | (unfold fits; simp_all; omega) | (simp_all; omega) | (simp_all; done) | intro _))⟩ rfl (Imps.refl _) new_p ?_
  refine L.alloc (T := tt) 3 tt_ok rfl rfl rfl rfl rfl fun b3 => ?_
  (refine L.store (T := tt) tt_ok rfl rfl rfl rfl rfl rfl ?sd48 ?_; (try (case sd48 => (repeat' (first | exact trivial | exact zA | with_reducible refine zI ?_ ?_ | exact zB | exact zC | exact zD | exact zE | rfl | exact zN rfl | omega | assumption | (simp; done) | (simp [splice]; done) | (simp; omega) | (unfold fits; omega) | (unfold fits; simp_all; omega) | (simp_all; omega) | (simp_all; done) | intro _)))))
  refine L.nil ?_
  repeat refine S.seq ?_
  refine S.region ?_
  refine L.alloc (T := tt) 4 tt_ok rfl rfl rfl rfl rfl fun b4 => ?_
  refine L.nil ?_
  repeat refine S.seq ?_
  refine S.region ?_
  refine L.alloc (T := tt) 5 tt_ok rfl rfl rfl rfl rfl fun b5 => ?_
  refine L.nil ?_
  ((repeat refine S.seq ?_); refine S.region (L.go (T := tt) tt_ok rfl rfl ?sd3 ?_); (try (case sd3 => (repeat' (first | exact trivial | exact zA | with_reducible refine zI ?_ ?_ | exact zB | exact zC | exact zD | exact zE | rfl | exact zN rfl | omega | assumption | (simp; done) | (simp [splice]; done) | (simp; omega) | (unfold fits; omega) | (unfold fits; simp_all; omega) | (simp_all; omega) | (simp_all; done) | intro _)))); try (refine L.nil ?_))
  refine L.alloc (T := tt) 6 tt_ok rfl rfl rfl rfl rfl fun b6 => ?_
  (refine L.store (T := tt) tt_ok rfl rfl rfl rfl rfl rfl ?sd49 ?_; (try (case sd49 => (repeat' (first | exact trivial | exact zA | with_reducible refine zI ?_ ?_ | exact zB | exact zC | exact zD | exact zE | rfl | exact zN rfl | omega | assumption | (simp; done) | (simp [splice]; done) | (simp; omega) | (unfold fits; omega) | (unfold fits; simp_all; omega) | (simp_all; omega) | (simp_all; done) | intro _)))))
  refine L.nil ?_
  refine arrRow 4 4 1 24 (fun _ => intC 0) rfl rfl rfl rfl (by decide) (fun i hi => ⟨rfl, fun j A h => by
    have : i = 0 ∨ i = 1 ∨ i = 2 ∨ i = 3 ∨ i = 4 ∨ i = 5 ∨ i = 6 ∨ i = 7 ∨ i = 8 ∨ i = 9 ∨ i = 10 ∨ i = 11 ∨ i = 12 ∨ i = 13 ∨ i = 14 ∨ i = 15 ∨ i = 16 ∨ i = 17 ∨ i = 18 ∨ i = 19 ∨ i = 20 ∨ i = 21 ∨ i = 22 ∨ i = 23 := by omega
    rcases this with rfl | rfl | rfl | rfl | rfl | rfl | rfl | rfl | rfl | rfl | rfl | rfl | rfl | rfl | rfl | rfl | rfl | rfl | rfl | rfl | rfl | rfl | rfl | rfl <;> rcases j with _ | j <;> first | exact h | cases h⟩) ?_
  refine arrRow 5 5 1 6 (fun _ => intC 0) rfl rfl rfl rfl (by decide) (fun i hi => ⟨rfl, fun j A h => by
    have : i = 0 ∨ i = 1 ∨ i = 2 ∨ i = 3 ∨ i = 4 ∨ i = 5 := by omega
    rcases this with rfl | rfl | rfl | rfl | rfl | rfl <;> rcases j with _ | j <;> first | exact h | cases h⟩) ?_
  refine arrRow 6 6 5 6 (fun _ => Msg.cells default) rfl rfl rfl rfl (by decide) (fun i hi => ⟨rfl, fun j A h => by
    have : i = 0 ∨ i = 1 ∨ i = 2 ∨ i = 3 ∨ i = 4 ∨ i = 5 := by omega
    rcases this with rfl | rfl | rfl | rfl | rfl | rfl <;> rcases j with _ | _ | _ | _ | _ | j <;> first | exact h | cases h⟩) ?_
  ((repeat refine S.seq ?_); refine S.region (L.go (T := tt) tt_ok rfl rfl ?sd4 ?_); (try (case sd4 => (repeat' (first | exact trivial | exact zA | with_reducible refine zI ?_ ?_ | exact zB | exact zC | exact zD | exact zE | rfl | exact zN rfl | omega | assumption | (simp; done) | (simp [splice]; done) | (simp; omega) | (unfold fits; omega) | (unfold fits; simp_all; omega) | (simp_all; omega) | (simp_all; done) | intro _)))); try (refine L.nil ?_))
  repeat refine S.seq ?_
  refine S.block (S.loop (ι := { t : OSt // t.k ≤ l.length ∧ Ord t.s t.D t.H t.B t.k }) (fun t => [(0, opsA l), (3, .ptr 3 b3 0), (4, .eptr 4 (arrV b4 24) 1 0 0), (5, .eptr 5 (arrV b5 6) 1 0 0), (6, .eptr 6 (arrV b6 6) 5 0 0), (7, .v (.int .i64 t.1.k))])
    (fun t => [(6, .own (arrV b6 6) 47 5 6 (fun i => (t.1.B i).cells)), (5, .own (arrV b5 6) 43 1 6 (fun i => intC (t.1.H i))), (4, .own (arrV b4 24) 44 1 24 (fun i => intC (t.1.D i))), (3, .blk b3 35 t.1.s.cells)]) (fun t => l.length - t.1.k) ?_ ?_)
  · exact fun a w h => ⟨⟨⟨0, t0, fun _ => 0, fun _ => 0, fun _ => default⟩, Nat.zero_le _, ord_new⟩, h.weakP (by (repeat' (first | exact True.intro | exact Imp.refl _ | refine ⟨?_, ?_⟩))) (by (repeat (first | exact Sub.refl _ | refine Sub.pick (by first | exact p0 | exact pS p0 | exact pS (pS p0) | exact pS (pS (pS p0)) | exact pS (pS (pS (pS p0))) | exact pS (pS (pS (pS (pS p0))))) ?_)))⟩
  rintro ⟨⟨k, s, D, Hh, B⟩, hk, hO⟩
  dsimp only at hk hO ⊢
  ((repeat refine S.seq ?_); refine S.region (L.go (T := tt) tt_ok rfl rfl ?sd5 ?_); (try (case sd5 => (repeat' (first | exact trivial | exact zA | with_reducible refine zI ?_ ?_ | exact zB | exact zC | exact zD | exact zE | rfl | exact zN rfl | omega | assumption | (simp; done) | (simp [splice]; done) | (simp; omega) | (unfold fits; omega) | (unfold fits; simp_all; omega) | (simp_all; omega) | (simp_all; done) | intro _)))); try (refine L.nil ?_))
  ((repeat refine S.seq ?_); refine S.cond rfl (fun h2 => ?_) (fun h2 => ?_) <;> (try first | refine S.skip ?_ | refine S.exit ?_))
  · have h2 := of_dec h2
    have hk120 : k ≤ 120 := by omega
    have hkd := tmod_bd (l.getD k default).kind 8 (by decide)
    have hlo := low_last hO.may hO.low (by omega) (uM (l.getD k default).pub 4) (nameK (uM (l.getD k default).key 6))
    have hlb := last_bound hO.may (uM (l.getD k default).pub 4) (nameK (uM (l.getD k default).key 6))
    have hall := hO.may.all
    repeat refine S.seq ?_
    refine S.block ?_
    ((repeat refine S.seq ?_); refine S.region (L.go (T := tt) tt_ok rfl rfl ?sd6 ?_); (try (case sd6 => (repeat' (first | exact trivial | exact zA | with_reducible refine zI ?_ ?_ | exact zB | exact zC | exact zD | exact zE | rfl | exact zN rfl | omega | assumption | (simp; done) | (simp [splice]; done) | (simp; omega) | (unfold fits; omega) | (unfold fits; simp_all; omega) | (simp_all; omega) | (simp_all; done) | intro _)))); try (refine L.nil ?_))
    refine L.alloc (T := tt) 8 tt_ok rfl rfl rfl rfl rfl fun b8 => ?_
    (refine L.store (T := tt) tt_ok rfl rfl rfl rfl rfl rfl ?sd50 ?_; (try (case sd50 => (repeat' (first | exact trivial | exact zA | with_reducible refine zI ?_ ?_ | exact zB | exact zC | exact zD | exact zE | rfl | exact zN rfl | omega | assumption | (simp; done) | (simp [splice]; done) | (simp; omega) | (unfold fits; omega) | (unfold fits; simp_all; omega) | (simp_all; omega) | (simp_all; done) | intro _)))))
    refine L.nil ?_
    ((repeat refine S.seq ?_); refine S.region (L.go (T := tt) tt_ok rfl rfl ?sd7 ?_); (try (case sd7 => (repeat' (first | exact trivial | exact zA | with_reducible refine zI ?_ ?_ | exact zB | exact zC | exact zD | exact zE | rfl | exact zN rfl | omega | assumption | (simp; done) | (simp [splice]; done) | (simp; omega) | (unfold fits; omega) | (unfold fits; simp_all; omega) | (simp_all; omega) | (simp_all; done) | intro _)))); try (refine L.nil ?_))
    repeat refine S.seq ?_
    refine S.block ?_
    ((repeat refine S.seq ?_); refine S.region (L.go (T := tt) tt_ok rfl rfl ?sd8 ?_); (try (case sd8 => (repeat' (first | exact trivial | exact zA | with_reducible refine zI ?_ ?_ | exact zB | exact zC | exact zD | exact zE | rfl | exact zN rfl | omega | assumption | (simp; done) | (simp [splice]; done) | (simp; omega) | (unfold fits; omega) | (unfold fits; simp_all; omega) | (simp_all; omega) | (simp_all; done) | intro _)))); try (refine L.nil ?_))
    refine S.cut (ι := { t : OSt // Ord t.s t.D t.H t.B (k + 1) }) (fun _ => [(0, opsA l), (3, .ptr 3 b3 0), (4, .eptr 4 (arrV b4 24) 1 0 0), (5, .eptr 5 (arrV b5 6) 1 0 0), (6, .eptr 6 (arrV b6 6) 5 0 0), (7, .v (.int .i64 k))]) (fun t => [(6, .own (arrV b6 6) 47 5 6 (fun i => (t.1.B i).cells)), (5, .own (arrV b5 6) 43 1 6 (fun i => intC (t.1.H i))), (4, .own (arrV b4 24) 44 1 24 (fun i => intC (t.1.D i))), (3, .blk b3 35 t.1.s.cells)]) ?_ ?_
    · ((repeat refine S.seq ?_); refine S.cond rfl (fun h3 => ?_) (fun h3 => ?_) <;> (try first | refine S.skip ?_ | refine S.exit ?_))
      · obtain ⟨he, hO'⟩ := hO.put hk120 (l.getD k default)
        repeat refine S.seq ?_
        apply S.cut (ι := Nat)
        · refine S.draw [(0, [3]), (1, [3]), (2, [8])] mixed ?_
          (refine H.ts (T := tt) [0, 1, 2] tt_ok (by kernel_rfl) (by kernel_rfl) (by kernel_rfl) (by intro ch a a' w h; obtain ⟨_, _, _, _, _, h, _⟩ := h; cases h) rfl ?sd64 ?_; (try (case sd64 => (repeat' (first | exact trivial | exact zA | with_reducible refine zI ?_ ?_ | exact zB | exact zC | exact zD | exact zE | rfl | exact zN rfl | omega | assumption | (simp; done) | (simp [splice]; done) | (simp; omega) | (unfold fits; omega) | (unfold fits; simp_all; omega) | (simp_all; omega) | (simp_all; done) | intro _)))))
          refine H.o2 3 8 rfl rfl (by kernel_rfl) (by kernel_rfl) (O.callP rfl rfl rfl rfl rfl rfl rfl ⟨trivial, by (repeat' (first | exact trivial | exact zA | with_reducible refine zI ?_ ?_ | exact zB | exact zC | exact zD | exact zE | rfl | exact zN rfl | omega | assumption | (simp; done) | (simp [splice]; done) | (simp; omega) | (unfold fits; omega) | (unfold fits; simp_all; omega) | (simp_all; omega) | (simp_all; done) | intro _))⟩ rfl (by exact Imps.refl _) (next_p s (l.getD k default) ⟨by omega, by omega⟩)) (O.alloc (T := tt) 10 tt_ok rfl rfl rfl rfl rfl) (.inr rfl) (.inr rfl) rfl rfl (fun _ => ?_) (fun b10 => ?_)
          · refine H.rebase ?_
            refine H.o2 4 8 rfl rfl (by kernel_rfl) (by kernel_rfl) (O.callP rfl rfl rfl rfl rfl rfl rfl ⟨trivial, by (repeat' (first | exact trivial | exact zA | with_reducible refine zI ?_ ?_ | exact zB | exact zC | exact zD | exact zE | rfl | exact zN rfl | omega | assumption | (simp; done) | (simp [splice]; done) | (simp; omega) | (unfold fits; omega) | (unfold fits; simp_all; omega) | (simp_all; omega) | (simp_all; done) | intro _))⟩ rfl (by exact Imps.refl _) (putR_p s (nextL s (l.getD k default)) hO.may.fine)) (O.alloc (T := tt) 10 tt_ok rfl rfl rfl rfl rfl) (.inr rfl) (.inr rfl) rfl rfl (fun _ => ?_) (fun b10 => ?_)
            · refine H.rebase ?_
              (refine H.ts (T := tt) [5, 6, 7] tt_ok (by kernel_rfl) (by kernel_rfl) (by kernel_rfl) (by intro ch a a' w h; obtain ⟨_, _, _, _, _, h, _⟩ := h; cases h) rfl ?sd65 ?_; (try (case sd65 => (repeat' (first | exact trivial | exact zA | with_reducible refine zI ?_ ?_ | exact zB | exact zC | exact zD | exact zE | rfl | exact zN rfl | omega | assumption | (simp; done) | (simp [splice]; done) | (simp; omega) | (unfold fits; omega) | (unfold fits; simp_all; omega) | (simp_all; omega) | (simp_all; done) | intro _)))))
              refine H.o1 8 rfl (by kernel_rfl) (by kernel_rfl) (O.alloc (T := tt) 10 tt_ok rfl rfl rfl rfl rfl) (.inr rfl) rfl fun b10 => ?_
              (refine H.store (T := tt) 9 rfl (by kernel_rfl) (by kernel_rfl) tt_ok rfl rfl rfl rfl rfl rfl ?sd79 rfl (by kernel_rfl) ?_; (try (case sd79 => (repeat' (first | exact trivial | exact zA | with_reducible refine zI ?_ ?_ | exact zB | exact zC | exact zD | exact zE | rfl | exact zN rfl | omega | assumption | (simp; done) | (simp [splice]; done) | (simp; omega) | (unfold fits; omega) | (unfold fits; simp_all; omega) | (simp_all; omega) | (simp_all; done) | intro _)))))
              (refine H.ts (T := tt) [10] tt_ok (by kernel_rfl) (by kernel_rfl) (by kernel_rfl) (by intro ch a a' w h; obtain ⟨_, _, _, _, _, h, _⟩ := h; cases h) rfl ?sd66 ?_; (try (case sd66 => (repeat' (first | exact trivial | exact zA | with_reducible refine zI ?_ ?_ | exact zB | exact zC | exact zD | exact zE | rfl | exact zN rfl | omega | assumption | (simp; done) | (simp [splice]; done) | (simp; omega) | (unfold fits; omega) | (unfold fits; simp_all; omega) | (simp_all; omega) | (simp_all; done) | intro _)))))
              refine H.done (by kernel_rfl) ?_
              exact fun a w hR => ⟨b10, hR.weak (σ' := [(0, _), (3, _), (4, _), (5, _), (6, _), (7, _), (10, _), (11, _)]) (by (repeat' (first | exact True.intro | exact Imp.refl _ | refine ⟨?_, ?_⟩))) (List.Sublist.refl _)⟩
            · skip
              refine H.callP 4 rfl (by kernel_rfl) (by kernel_rfl) rfl rfl rfl rfl rfl rfl rfl ⟨trivial, by (repeat' (first | exact trivial | exact zA | with_reducible refine zI ?_ ?_ | exact zB | exact zC | exact zD | exact zE | rfl | exact zN rfl | omega | assumption | (simp; done) | (simp [splice]; done) | (simp; omega) | (unfold fits; omega) | (unfold fits; simp_all; omega) | (simp_all; omega) | (simp_all; done) | intro _))⟩ rfl (by exact Imps.refl _) (putR_p s (nextL s (l.getD k default)) hO.may.fine) ?_
              refine H.rebase ?_
              (refine H.ts (T := tt) [5, 6, 7] tt_ok (by kernel_rfl) (by kernel_rfl) (by kernel_rfl) (by intro ch a a' w h; obtain ⟨_, _, _, _, _, h, _⟩ := h; cases h) rfl ?sd67 ?_; (try (case sd67 => (repeat' (first | exact trivial | exact zA | with_reducible refine zI ?_ ?_ | exact zB | exact zC | exact zD | exact zE | rfl | exact zN rfl | omega | assumption | (simp; done) | (simp [splice]; done) | (simp; omega) | (unfold fits; omega) | (unfold fits; simp_all; omega) | (simp_all; omega) | (simp_all; done) | intro _)))))
              (refine H.store (T := tt) 9 rfl (by kernel_rfl) (by kernel_rfl) tt_ok rfl rfl rfl rfl rfl rfl ?sd80 rfl (by kernel_rfl) ?_; (try (case sd80 => (repeat' (first | exact trivial | exact zA | with_reducible refine zI ?_ ?_ | exact zB | exact zC | exact zD | exact zE | rfl | exact zN rfl | omega | assumption | (simp; done) | (simp [splice]; done) | (simp; omega) | (unfold fits; omega) | (unfold fits; simp_all; omega) | (simp_all; omega) | (simp_all; done) | intro _)))))
              (refine H.ts (T := tt) [10] tt_ok (by kernel_rfl) (by kernel_rfl) (by kernel_rfl) (by intro ch a a' w h; obtain ⟨_, _, _, _, _, h, _⟩ := h; cases h) rfl ?sd68 ?_; (try (case sd68 => (repeat' (first | exact trivial | exact zA | with_reducible refine zI ?_ ?_ | exact zB | exact zC | exact zD | exact zE | rfl | exact zN rfl | omega | assumption | (simp; done) | (simp [splice]; done) | (simp; omega) | (unfold fits; omega) | (unfold fits; simp_all; omega) | (simp_all; omega) | (simp_all; done) | intro _)))))
              refine H.done (by kernel_rfl) ?_
              exact fun a w hR => ⟨b10, hR.weakP (by (repeat' (first | exact True.intro | exact Imp.refl _ | refine ⟨?_, ?_⟩))) (by (repeat (first | exact Sub.refl _ | refine Sub.pick (by first | exact p0 | exact pS p0 | exact pS (pS p0) | exact pS (pS (pS p0)) | exact pS (pS (pS (pS p0))) | exact pS (pS (pS (pS (pS p0))))) ?_)))⟩
          · skip
            refine H.callP 3 rfl (by kernel_rfl) (by kernel_rfl) rfl rfl rfl rfl rfl rfl rfl ⟨trivial, by (repeat' (first | exact trivial | exact zA | with_reducible refine zI ?_ ?_ | exact zB | exact zC | exact zD | exact zE | rfl | exact zN rfl | omega | assumption | (simp; done) | (simp [splice]; done) | (simp; omega) | (unfold fits; omega) | (unfold fits; simp_all; omega) | (simp_all; omega) | (simp_all; done) | intro _))⟩ rfl (by exact Imps.refl _) (next_p s (l.getD k default) ⟨by omega, by omega⟩) ?_
            refine H.rebase ?_
            refine H.callP 4 rfl (by kernel_rfl) (by kernel_rfl) rfl rfl rfl rfl rfl rfl rfl ⟨trivial, by (repeat' (first | exact trivial | exact zA | with_reducible refine zI ?_ ?_ | exact zB | exact zC | exact zD | exact zE | rfl | exact zN rfl | omega | assumption | (simp; done) | (simp [splice]; done) | (simp; omega) | (unfold fits; omega) | (unfold fits; simp_all; omega) | (simp_all; omega) | (simp_all; done) | intro _))⟩ rfl (by exact Imps.refl _) (putR_p s (nextL s (l.getD k default)) hO.may.fine) ?_
            refine H.rebase ?_
            (refine H.ts (T := tt) [5, 6, 7] tt_ok (by kernel_rfl) (by kernel_rfl) (by kernel_rfl) (by intro ch a a' w h; obtain ⟨_, _, _, _, _, h, _⟩ := h; cases h) rfl ?sd69 ?_; (try (case sd69 => (repeat' (first | exact trivial | exact zA | with_reducible refine zI ?_ ?_ | exact zB | exact zC | exact zD | exact zE | rfl | exact zN rfl | omega | assumption | (simp; done) | (simp [splice]; done) | (simp; omega) | (unfold fits; omega) | (unfold fits; simp_all; omega) | (simp_all; omega) | (simp_all; done) | intro _)))))
            (refine H.store (T := tt) 9 rfl (by kernel_rfl) (by kernel_rfl) tt_ok rfl rfl rfl rfl rfl rfl ?sd81 rfl (by kernel_rfl) ?_; (try (case sd81 => (repeat' (first | exact trivial | exact zA | with_reducible refine zI ?_ ?_ | exact zB | exact zC | exact zD | exact zE | rfl | exact zN rfl | omega | assumption | (simp; done) | (simp [splice]; done) | (simp; omega) | (unfold fits; omega) | (unfold fits; simp_all; omega) | (simp_all; omega) | (simp_all; done) | intro _)))))
            (refine H.ts (T := tt) [10] tt_ok (by kernel_rfl) (by kernel_rfl) (by kernel_rfl) (by intro ch a a' w h; obtain ⟨_, _, _, _, _, h, _⟩ := h; cases h) rfl ?sd70 ?_; (try (case sd70 => (repeat' (first | exact trivial | exact zA | with_reducible refine zI ?_ ?_ | exact zB | exact zC | exact zD | exact zE | rfl | exact zN rfl | omega | assumption | (simp; done) | (simp [splice]; done) | (simp; omega) | (unfold fits; omega) | (unfold fits; simp_all; omega) | (simp_all; omega) | (simp_all; done) | intro _)))))
            refine H.done (by kernel_rfl) ?_
            exact fun a w hR => ⟨b10, hR.weakP (by (repeat' (first | exact True.intro | exact Imp.refl _ | refine ⟨?_, ?_⟩))) (by (repeat (first | exact Sub.refl _ | refine Sub.pick (by first | exact p0 | exact pS p0 | exact pS (pS p0) | exact pS (pS (pS p0)) | exact pS (pS (pS (pS p0))) | exact pS (pS (pS (pS (pS p0))))) ?_)))⟩
        intro b10
        try dsimp only
        ((repeat refine S.seq ?_); refine S.region (L.go (T := tt) tt_ok rfl rfl ?sd9 ?_); (try (case sd9 => (repeat' (first | exact trivial | exact zA | with_reducible refine zI ?_ ?_ | exact zB | exact zC | exact zD | exact zE | rfl | exact zN rfl | omega | assumption | (simp; done) | (simp [splice]; done) | (simp; omega) | (unfold fits; omega) | (unfold fits; simp_all; omega) | (simp_all; omega) | (simp_all; done) | intro _)))); try (refine L.nil ?_))
        ((repeat refine S.seq ?_); refine S.cond rfl (fun h4 => ?_) (fun h4 => ?_) <;> (try first | refine S.skip ?_ | refine S.exit ?_))
        · skip
          ((repeat refine S.seq ?_); refine S.region (L.go (T := tt) tt_ok rfl rfl ?sd10 ?_); (try (case sd10 => (repeat' (first | exact trivial | exact zA | with_reducible refine zI ?_ ?_ | exact zB | exact zC | exact zD | exact zE | rfl | exact zN rfl | omega | assumption | (simp; done) | (simp [splice]; done) | (simp; omega) | (unfold fits; omega) | (unfold fits; simp_all; omega) | (simp_all; omega) | (simp_all; done) | intro _)))); try (refine L.nil ?_))
          exfalso
          rcases he with e | e <;> rw [e] at h4 <;> simp at h4
        ((repeat refine S.seq ?_); refine S.region (L.go (T := tt) tt_ok rfl rfl ?sd11 ?_); (try (case sd11 => (repeat' (first | exact trivial | exact zA | with_reducible refine zI ?_ ?_ | exact zB | exact zC | exact zD | exact zE | rfl | exact zN rfl | omega | assumption | (simp; done) | (simp [splice]; done) | (simp; omega) | (unfold fits; omega) | (unfold fits; simp_all; omega) | (simp_all; omega) | (simp_all; done) | intro _)))); try (refine L.nil ?_))
        (refine L.store (T := tt) tt_ok rfl rfl rfl rfl rfl rfl ?sd51 ?_; (try (case sd51 => (repeat' (first | exact trivial | exact zA | with_reducible refine zI ?_ ?_ | exact zB | exact zC | exact zD | exact zE | rfl | exact zN rfl | omega | assumption | (simp; done) | (simp [splice]; done) | (simp; omega) | (unfold fits; omega) | (unfold fits; simp_all; omega) | (simp_all; omega) | (simp_all; done) | intro _)))))
        refine L.nil ?_
        exact fun a w hR => ⟨⟨⟨k, (putR s (nextL s (l.getD k default))).1, D, Hh, B⟩, hO'⟩, hR.weakP (by (repeat' (first | exact True.intro | exact Imp.refl _ | refine ⟨?_, ?_⟩))) (by (repeat (first | exact Sub.refl _ | refine Sub.pick (by first | exact p0 | exact pS p0 | exact pS (pS p0) | exact pS (pS (pS p0)) | exact pS (pS (pS (pS p0))) | exact pS (pS (pS (pS (pS p0))))) ?_)))⟩
      · skip
        ((repeat refine S.seq ?_); refine S.region (L.go (T := tt) tt_ok rfl rfl ?sd12 ?_); (try (case sd12 => (repeat' (first | exact trivial | exact zA | with_reducible refine zI ?_ ?_ | exact zB | exact zC | exact zD | exact zE | rfl | exact zN rfl | omega | assumption | (simp; done) | (simp [splice]; done) | (simp; omega) | (unfold fits; omega) | (unfold fits; simp_all; omega) | (simp_all; omega) | (simp_all; done) | intro _)))); try (refine L.nil ?_))
        ((repeat refine S.seq ?_); refine S.cond rfl (fun h5 => ?_) (fun h5 => ?_) <;> (try first | refine S.skip ?_ | refine S.exit ?_))
        · skip
          ((repeat refine S.seq ?_); refine S.region (L.go (T := tt) tt_ok rfl rfl ?sd13 ?_); (try (case sd13 => (repeat' (first | exact trivial | exact zA | with_reducible refine zI ?_ ?_ | exact zB | exact zC | exact zD | exact zE | rfl | exact zN rfl | omega | assumption | (simp; done) | (simp [splice]; done) | (simp; omega) | (unfold fits; omega) | (unfold fits; simp_all; omega) | (simp_all; omega) | (simp_all; done) | intro _)))); try (refine L.nil ?_))
          refine L.callP rfl rfl rfl rfl rfl rfl rfl ⟨trivial, by (repeat' (first | exact trivial | exact zA | with_reducible refine zI ?_ ?_ | exact zB | exact zC | exact zD | exact zE | rfl | exact zN rfl | omega | assumption | (simp; done) | (simp [splice]; done) | (simp; omega) | (unfold fits; omega) | (unfold fits; simp_all; omega) | (simp_all; omega) | (simp_all; done) | intro _))⟩ rfl (Imps.refl _) (getR_p s hO.may.fine) ?_
          (refine L.go (T := tt) tt_ok rfl rfl ?sd39 ?_; (try (case sd39 => (repeat' (first | exact trivial | exact zA | with_reducible refine zI ?_ ?_ | exact zB | exact zC | exact zD | exact zE | rfl | exact zN rfl | omega | assumption | (simp; done) | (simp [splice]; done) | (simp; omega) | (unfold fits; omega) | (unfold fits; simp_all; omega) | (simp_all; omega) | (simp_all; done) | intro _)))); try (refine L.nil ?_))
          refine L.alloc (T := tt) 12 tt_ok rfl rfl rfl rfl rfl fun b12 => ?_
          refine L.alloc (T := tt) 13 tt_ok rfl rfl rfl rfl rfl fun b13 => ?_
          (refine L.store (T := tt) tt_ok rfl rfl rfl rfl rfl rfl ?sd52 ?_; (try (case sd52 => (repeat' (first | exact trivial | exact zA | with_reducible refine zI ?_ ?_ | exact zB | exact zC | exact zD | exact zE | rfl | exact zN rfl | omega | assumption | (simp; done) | (simp [splice]; done) | (simp; omega) | (unfold fits; omega) | (unfold fits; simp_all; omega) | (simp_all; omega) | (simp_all; done) | intro _)))))
          (refine L.store (T := tt) tt_ok rfl rfl rfl rfl rfl rfl ?sd53 ?_; (try (case sd53 => (repeat' (first | exact trivial | exact zA | with_reducible refine zI ?_ ?_ | exact zB | exact zC | exact zD | exact zE | rfl | exact zN rfl | omega | assumption | (simp; done) | (simp [splice]; done) | (simp; omega) | (unfold fits; omega) | (unfold fits; simp_all; omega) | (simp_all; omega) | (simp_all; done) | intro _)))))
          (refine L.go (T := tt) tt_ok rfl rfl ?sd40 ?_; (try (case sd40 => (repeat' (first | exact trivial | exact zA | with_reducible refine zI ?_ ?_ | exact zB | exact zC | exact zD | exact zE | rfl | exact zN rfl | omega | assumption | (simp; done) | (simp [splice]; done) | (simp; omega) | (unfold fits; omega) | (unfold fits; simp_all; omega) | (simp_all; omega) | (simp_all; done) | intro _)))); try (refine L.nil ?_))
          ((repeat refine S.seq ?_); refine S.region (L.go (T := tt) tt_ok rfl rfl ?sd14 ?_); (try (case sd14 => (repeat' (first | exact trivial | exact zA | with_reducible refine zI ?_ ?_ | exact zB | exact zC | exact zD | exact zE | rfl | exact zN rfl | omega | assumption | (simp; done) | (simp [splice]; done) | (simp; omega) | (unfold fits; omega) | (unfold fits; simp_all; omega) | (simp_all; omega) | (simp_all; done) | intro _)))); try (refine L.nil ?_))
          ((repeat refine S.seq ?_); refine S.cond rfl (fun h6 => ?_) (fun h6 => ?_) <;> (try first | refine S.skip ?_ | refine S.exit ?_))
          · skip
            ((repeat refine S.seq ?_); refine S.region (L.go (T := tt) tt_ok rfl rfl ?sd15 ?_); (try (case sd15 => (repeat' (first | exact trivial | exact zA | with_reducible refine zI ?_ ?_ | exact zB | exact zC | exact zD | exact zE | rfl | exact zN rfl | omega | assumption | (simp; done) | (simp [splice]; done) | (simp; omega) | (unfold fits; omega) | (unfold fits; simp_all; omega) | (simp_all; omega) | (simp_all; done) | intro _)))); try (refine L.nil ?_))
            exact fun a w hR => ⟨⟨⟨k + 1, s, D, Hh, B⟩, by show k + 1 ≤ _; omega, hO.skip⟩, by show l.length - (k + 1) < l.length - k; omega, hR.weakP (by (repeat' (first | exact True.intro | exact Imp.refl _ | refine ⟨?_, ?_⟩))) (by (repeat (first | exact Sub.refl _ | refine Sub.pick (by first | exact p0 | exact pS p0 | exact pS (pS p0) | exact pS (pS (pS p0)) | exact pS (pS (pS (pS p0))) | exact pS (pS (pS (pS (pS p0))))) ?_)))⟩
          have h6n : (getR s).2.2 ≠ 3 := by simpa using h6
          rcases hO.get hk120 with e3 | ⟨e0, q, G, hz, hO'⟩
          · exact absurd e3 h6n
          have hq6 := G.lt
          have hpb := G.pub
          ((repeat refine S.seq ?_); refine S.region (L.go (T := tt) tt_ok rfl rfl ?sd16 ?_); (try (case sd16 => (repeat' (first | exact trivial | exact zA | with_reducible refine zI ?_ ?_ | exact zB | exact zC | exact zD | exact zE | rfl | exact zN rfl | omega | assumption | (simp; done) | (simp [splice]; done) | (simp; omega) | (unfold fits; omega) | (unfold fits; simp_all; omega) | (simp_all; omega) | (simp_all; done) | intro _)))); try (refine L.nil ?_))
          repeat refine S.seq ?_
          refine S.block (S.loop (ι := { j : Nat // j ≤ q }) (fun j => [(0, opsA l), (3, .ptr 3 b3 0), (4, .eptr 4 (arrV b4 24) 1 0 0), (5, .eptr 5 (arrV b5 6) 1 0 0), (6, .eptr 6 (arrV b6 6) 5 0 0), (7, .v (.int .i64 k)), (12, .ptr 12 b12 0), (13, .ptr 13 b13 0), (14, .v (.int .i64 (getR s).2.2)), (15, .v (.int .i64 j.1))])
            (fun j => [(13, .blk b13 53 (getR s).2.1.cells), (12, .blk b12 35 (getR s).1.cells), (6, .own (arrV b6 6) 47 5 6 (fun i => (B i).cells)), (5, .own (arrV b5 6) 43 1 6 (fun i => intC (Hh i))), (4, .own (arrV b4 24) 44 1 24 (fun i => intC (D i))), (3, .blk b3 35 s.cells)]) (fun j => q - j.1) ?_ ?_)
          · exact fun a w h => ⟨⟨0, Nat.zero_le _⟩, h.weak (by (repeat' (first | exact True.intro | exact Imp.refl _ | refine ⟨?_, ?_⟩))) (by (repeat (first | exact List.nil_sublist _ | refine List.Sublist.cons_cons _ ?_ | refine List.Sublist.cons _ ?_)))⟩
          rintro ⟨j, hj⟩
          dsimp only
          repeat refine S.seq ?_
          refine S.draw [(7, [13])] mixed ?_
          (refine H.ts (T := tt) [0, 1, 2, 3, 5, 6, 7] tt_ok (by kernel_rfl) (by kernel_rfl) (by kernel_rfl) (by intro ch a a' w h; obtain ⟨_, _, _, _, _, h, _⟩ := h; cases h) rfl ?sd71 ?_; (try (case sd71 => (repeat' (first | exact trivial | exact zA | with_reducible refine zI ?_ ?_ | exact zB | exact zC | exact zD | exact zE | rfl | exact zN rfl | omega | assumption | (simp; done) | (simp [splice]; done) | (simp; omega) | (unfold fits; omega) | (unfold fits; simp_all; omega) | (simp_all; omega) | (simp_all; done) | intro _)))))
          refine H.callG 4 rfl (by kernel_rfl) (by kernel_rfl) rfl rfl rfl rfl rfl rfl rfl (fun _ => ⟨trivial, by (repeat' (first | exact trivial | exact zA | with_reducible refine zI ?_ ?_ | exact zB | exact zC | exact zD | exact zE | rfl | exact zN rfl | omega | assumption | (simp; done) | (simp [splice]; done) | (simp; omega) | (unfold fits; omega) | (unfold fits; simp_all; omega) | (simp_all; omega) | (simp_all; done) | intro _))⟩) rfl (by exact Imps.refl _) (fun _ => name_p (j : Int) (by omega) (by omega)) ?_
          refine H.rebase ?_
          (refine H.ts (T := tt) [8, 9] tt_ok (by kernel_rfl) (by kernel_rfl) (by kernel_rfl) (by intro ch a a' w h; obtain ⟨_, _, _, _, _, h, _⟩ := h; cases h) rfl ?sd72 ?_; (try (case sd72 => (repeat' (first | exact trivial | exact zA | with_reducible refine zI ?_ ?_ | exact zB | exact zC | exact zD | exact zE | rfl | exact zN rfl | omega | assumption | (simp; done) | (simp [splice]; done) | (simp; omega) | (unfold fits; omega) | (unfold fits; simp_all; omega) | (simp_all; omega) | (simp_all; done) | intro _)))))
          refine H.done (by kernel_rfl) ?_
          ((repeat refine S.seq ?_); refine S.cond rfl (fun h7 => ?_) (fun h7 => ?_) <;> (try first | refine S.skip ?_ | refine S.exit ?_))
          · have hjn : j ≠ q := by
              rintro rfl
              rw [G.key] at h7
              simp at h7
            repeat refine S.seq ?_
            refine S.block ?_
            ((repeat refine S.seq ?_); refine S.region (L.go (T := tt) tt_ok rfl rfl ?sd17 ?_); (try (case sd17 => (repeat' (first | exact trivial | exact zA | with_reducible refine zI ?_ ?_ | exact zB | exact zC | exact zD | exact zE | rfl | exact zN rfl | omega | assumption | (simp; done) | (simp [splice]; done) | (simp; omega) | (unfold fits; omega) | (unfold fits; simp_all; omega) | (simp_all; omega) | (simp_all; done) | intro _)))); try (refine L.nil ?_))
            exact fun a w hR => ⟨⟨j + 1, by omega⟩, by simp only; omega, hR.weak (by (repeat' (first | exact True.intro | exact Imp.refl _ | refine ⟨?_, ?_⟩))) (by (repeat (first | exact List.nil_sublist _ | refine List.Sublist.cons_cons _ ?_ | refine List.Sublist.cons _ ?_)))⟩
          · skip
            have hjq : j = q := by
              rcases Nat.lt_or_ge j q with hl | hl
              · exfalso
                have hne : nameK (j : Int) ≠ nameK (q : Int) := fun e => absurd ((name_ne (by omega) hq6).1 e) (by omega)
                rw [G.key] at h7
                simp [hne] at h7
                omega
              · omega
            subst hjq
            repeat refine S.seq ?_
            refine S.draw [(9, [5]), (15, [13]), (19, [6])] mixed ?_
            (refine H.ts (T := tt) [0, 1, 2, 3, 4, 5, 6, 7, 8, 9, 10, 11, 12, 13, 14, 15, 16, 17, 18, 19, 20, 21, 22] tt_ok (by kernel_rfl) (by kernel_rfl) (by kernel_rfl) (by intro ch a a' w h; obtain ⟨_, _, _, _, _, h, _⟩ := h; cases h) rfl ?sd73 ?_; (try (case sd73 => (repeat' (first | exact trivial | exact zA | with_reducible refine zI ?_ ?_ | exact zB | exact zC | exact zD | exact zE | rfl | exact zN rfl | omega | assumption | (simp; done) | (simp [splice]; done) | (simp; omega) | (unfold fits; omega) | (unfold fits; simp_all; omega) | (simp_all; omega) | (simp_all; done) | intro _)))))
            refine H.done (by kernel_rfl) ?_
            ((repeat refine S.seq ?_); refine S.cond rfl (fun h8 => ?_) (fun h8 => ?_) <;> (try first | refine S.skip ?_ | refine S.exit ?_))
            · skip
              ((repeat refine S.seq ?_); refine S.region (L.go (T := tt) tt_ok rfl rfl ?sd18 ?_); (try (case sd18 => (repeat' (first | exact trivial | exact zA | with_reducible refine zI ?_ ?_ | exact zB | exact zC | exact zD | exact zE | rfl | exact zN rfl | omega | assumption | (simp; done) | (simp [splice]; done) | (simp; omega) | (unfold fits; omega) | (unfold fits; simp_all; omega) | (simp_all; omega) | (simp_all; done) | intro _)))); try (refine L.nil ?_))
              exfalso
              simp [e0, hz, G.again] at h8
              omega
            have hDb : 0 ≤ D ((j : Int).toNat + ((getR s).2.1.m.pub.toNat * 6 + 0)) ∧ D ((j : Int).toNat + ((getR s).2.1.m.pub.toNat * 6 + 0)) ≤ 1073741824 := hO.bd G.lt (show (getR s).2.1.m.pub.toNat < 4 by omega)
            ((repeat refine S.seq ?_); refine S.region (L.go (T := tt) tt_ok rfl rfl ?sd19 ?_); (try (case sd19 => (repeat' (first | exact trivial | exact zA | with_reducible refine zI ?_ ?_ | exact zB | exact zC | exact zD | exact zE | rfl | exact zN rfl | omega | assumption | (simp; done) | (simp [splice]; done) | (simp; omega) | (unfold fits; omega) | (unfold fits; simp_all; omega) | (simp_all; omega) | (simp_all; done) | intro _)))); try (refine L.nil ?_))
            refine L.alloc (T := tt) 16 tt_ok rfl rfl rfl rfl rfl fun b16 => ?_
            (refine L.store (T := tt) tt_ok rfl rfl rfl rfl rfl rfl ?sd54 ?_; (try (case sd54 => (repeat' (first | exact trivial | exact zA | with_reducible refine zI ?_ ?_ | exact zB | exact zC | exact zD | exact zE | rfl | exact zN rfl | omega | assumption | (simp; done) | (simp [splice]; done) | (simp; omega) | (unfold fits; omega) | (unfold fits; simp_all; omega) | (simp_all; omega) | (simp_all; done) | intro _)))))
            refine L.nil ?_
            ((repeat refine S.seq ?_); refine S.region (L.go (T := tt) tt_ok rfl rfl ?sd20 ?_); (try (case sd20 => (repeat' (first | exact trivial | exact zA | with_reducible refine zI ?_ ?_ | exact zB | exact zC | exact zD | exact zE | rfl | exact zN rfl | omega | assumption | (simp; done) | (simp [splice]; done) | (simp; omega) | (unfold fits; omega) | (unfold fits; simp_all; omega) | (simp_all; omega) | (simp_all; done) | intro _)))); try (refine L.nil ?_))
            (refine L.store (T := tt) tt_ok rfl rfl rfl rfl rfl rfl ?sd55 ?_; (try (case sd55 => (repeat' (first | exact trivial | exact zA | with_reducible refine zI ?_ ?_ | exact zB | exact zC | exact zD | exact zE | rfl | exact zN rfl | omega | assumption | (simp; done) | (simp [splice]; done) | (simp; omega) | (unfold fits; omega) | (unfold fits; simp_all; omega) | (simp_all; omega) | (simp_all; done) | intro _)))))
            refine L.nil ?_
            repeat refine S.seq ?_
            refine S.draw [(3, [6]), (7, [13]), (8, [16]), (15, [6]), (20, [13]), (23, [13]), (27, [4])] mixed ?_
            (refine H.ts (T := tt) [0, 1, 2, 3, 4, 5, 6, 7, 8, 9, 10, 11, 12, 13, 14, 15, 16, 17, 18, 19, 20, 21, 22, 23, 24, 25, 26, 27, 28, 29, 30, 31] tt_ok (by kernel_rfl) (by kernel_rfl) (by kernel_rfl) (by intro ch a a' w h; obtain ⟨_, _, _, _, _, h, _⟩ := h; cases h) rfl ?sd74 ?_; (try (case sd74 => (repeat' (first | exact trivial | exact zA | with_reducible refine zI ?_ ?_ | exact zB | exact zC | exact zD | exact zE | rfl | exact zN rfl | omega | assumption | (simp; done) | (simp [splice]; done) | (simp; omega) | (unfold fits; omega) | (unfold fits; simp_all; omega) | (simp_all; omega) | (simp_all; done) | intro _)))))
            refine H.done (by kernel_rfl) ?_
            ((repeat refine S.seq ?_); refine S.cond rfl (fun h9 => ?_) (fun h9 => ?_) <;> (try first | refine S.skip ?_ | refine S.exit ?_))
            · skip
              ((repeat refine S.seq ?_); refine S.region (L.go (T := tt) tt_ok rfl rfl ?sd21 ?_); (try (case sd21 => (repeat' (first | exact trivial | exact zA | with_reducible refine zI ?_ ?_ | exact zB | exact zC | exact zD | exact zE | rfl | exact zN rfl | omega | assumption | (simp; done) | (simp [splice]; done) | (simp; omega) | (unfold fits; omega) | (unfold fits; simp_all; omega) | (simp_all; omega) | (simp_all; done) | intro _)))); try (refine L.nil ?_))
              exfalso
              simp [G.again] at h9
              rcases Int.lt_or_le 0 (B j).seq with hB | hB
              · have := G.old hB
                simp_all
                omega
              · have hB0 : (B j).seq = 0 := by have := hO.back j G.lt; omega
                have := G.new hB0
                simp_all
            ((repeat refine S.seq ?_); refine S.region (L.go (T := tt) tt_ok rfl rfl ?sd22 ?_); (try (case sd22 => (repeat' (first | exact trivial | exact zA | with_reducible refine zI ?_ ?_ | exact zB | exact zC | exact zD | exact zE | rfl | exact zN rfl | omega | assumption | (simp; done) | (simp [splice]; done) | (simp; omega) | (unfold fits; omega) | (unfold fits; simp_all; omega) | (simp_all; omega) | (simp_all; done) | intro _)))); try (refine L.nil ?_))
            refine S.cut (ι := Unit) (fun _ => [(0, opsA l), (3, .ptr 3 b3 0), (4, .eptr 4 (arrV b4 24) 1 0 0), (5, .eptr 5 (arrV b5 6) 1 0 0), (6, .eptr 6 (arrV b6 6) 5 0 0), (7, .v (.int .i64 k)), (12, .ptr 12 b12 0), (13, .ptr 13 b13 0), (15, .v (.int .i64 j))]) (fun _ => [(13, .blk b13 53 (getR s).2.1.cells), (12, .blk b12 35 (getR s).1.cells), (6, .own (arrV b6 6) 47 5 6 (fun i => (B i).cells)), (5, .own (arrV b5 6) 43 1 6 (fun i => intC (Hh i))), (4, .own (arrV b4 24) 44 1 24 (fun i => intC ((if (B j).seq = 0 then upd D (j + (getR s).2.1.m.pub.toNat * 6) (D (j + (getR s).2.1.m.pub.toNat * 6) + 1) else D) i))), (3, .blk b3 35 s.cells)]) ?_ ?_
            · ((repeat refine S.seq ?_); refine S.cond rfl (fun h10 => ?_) (fun h10 => ?_) <;> (try first | refine S.skip ?_ | refine S.exit ?_))
              · skip
                repeat refine S.seq ?_
                refine S.draw [(2, [13]), (6, [4])] mixed ?_
                (refine H.ts (T := tt) [0, 1, 2, 3, 4, 5, 6, 7, 8, 9] tt_ok (by kernel_rfl) (by kernel_rfl) (by kernel_rfl) (by intro ch a a' w h; obtain ⟨_, _, _, _, _, h, _⟩ := h; cases h) rfl ?sd75 ?_; (try (case sd75 => (repeat' (first | exact trivial | exact zA | with_reducible refine zI ?_ ?_ | exact zB | exact zC | exact zD | exact zE | rfl | exact zN rfl | omega | assumption | (simp; done) | (simp [splice]; done) | (simp; omega) | (unfold fits; omega) | (unfold fits; simp_all; omega) | (simp_all; omega) | (simp_all; done) | intro _)))))
                (refine H.store (T := tt) 10 rfl (by kernel_rfl) (by kernel_rfl) tt_ok rfl rfl rfl rfl rfl rfl ?sd82 rfl (by kernel_rfl) ?_; (try (case sd82 => (repeat' (first | exact trivial | exact zA | with_reducible refine zI ?_ ?_ | exact zB | exact zC | exact zD | exact zE | rfl | exact zN rfl | omega | assumption | (simp; done) | (simp [splice]; done) | (simp; omega) | (unfold fits; omega) | (unfold fits; simp_all; omega) | (simp_all; omega) | (simp_all; done) | intro _)))))
                refine H.done (by kernel_rfl) ?_
                have h10n : (B j).seq = 0 := by simpa using h10
                refine ownAs 4 (fun i => intC ((if (B j).seq = 0 then upd D (j + (getR s).2.1.m.pub.toNat * 6) (D (j + (getR s).2.1.m.pub.toNat * 6) + 1) else D) i)) rfl rfl (fun i hi => ?_) ?_
                · rw [if_pos h10n]
                  exact upd_c D _ _ i
                exact fun a w hR => ⟨(), hR.weakP (by (repeat' (first | exact True.intro | exact Imp.refl _ | refine ⟨?_, ?_⟩))) (by (repeat (first | exact Sub.refl _ | refine Sub.pick (by first | exact p0 | exact pS p0 | exact pS (pS p0) | exact pS (pS (pS p0)) | exact pS (pS (pS (pS p0))) | exact pS (pS (pS (pS (pS p0))))) ?_)))⟩
              · skip
                have h10n : ¬ (B j).seq = 0 := by simpa using h10
                refine ownAs 4 (fun i => intC ((if (B j).seq = 0 then upd D (j + (getR s).2.1.m.pub.toNat * 6) (D (j + (getR s).2.1.m.pub.toNat * 6) + 1) else D) i)) rfl rfl (fun i hi => by rw [if_neg h10n]) ?_
                exact fun a w hR => ⟨(), hR.weakP (by (repeat' (first | exact True.intro | exact Imp.refl _ | refine ⟨?_, ?_⟩))) (by (repeat (first | exact Sub.refl _ | refine Sub.pick (by first | exact p0 | exact pS p0 | exact pS (pS p0) | exact pS (pS (pS p0)) | exact pS (pS (pS (pS p0))) | exact pS (pS (pS (pS (pS p0))))) ?_)))⟩
            rintro ⟨⟩
            ((repeat refine S.seq ?_); refine S.region (L.go (T := tt) tt_ok rfl rfl ?sd23 ?_); (try (case sd23 => (repeat' (first | exact trivial | exact zA | with_reducible refine zI ?_ ?_ | exact zB | exact zC | exact zD | exact zE | rfl | exact zN rfl | omega | assumption | (simp; done) | (simp [splice]; done) | (simp; omega) | (unfold fits; omega) | (unfold fits; simp_all; omega) | (simp_all; omega) | (simp_all; done) | intro _)))); try (refine L.nil ?_))
            (refine L.store (T := tt) tt_ok rfl rfl rfl rfl rfl rfl ?sd56 ?_; (try (case sd56 => (repeat' (first | exact trivial | exact zA | with_reducible refine zI ?_ ?_ | exact zB | exact zC | exact zD | exact zE | rfl | exact zN rfl | omega | assumption | (simp; done) | (simp [splice]; done) | (simp; omega) | (unfold fits; omega) | (unfold fits; simp_all; omega) | (simp_all; omega) | (simp_all; done) | intro _)))))
            refine L.nil ?_
            ((repeat refine S.seq ?_); refine S.region (L.go (T := tt) tt_ok rfl rfl ?sd24 ?_); (try (case sd24 => (repeat' (first | exact trivial | exact zA | with_reducible refine zI ?_ ?_ | exact zB | exact zC | exact zD | exact zE | rfl | exact zN rfl | omega | assumption | (simp; done) | (simp [splice]; done) | (simp; omega) | (unfold fits; omega) | (unfold fits; simp_all; omega) | (simp_all; omega) | (simp_all; done) | intro _)))); try (refine L.nil ?_))
            (refine L.store (T := tt) tt_ok rfl rfl rfl rfl rfl rfl ?sd57 ?_; (try (case sd57 => (repeat' (first | exact trivial | exact zA | with_reducible refine zI ?_ ?_ | exact zB | exact zC | exact zD | exact zE | rfl | exact zN rfl | omega | assumption | (simp; done) | (simp [splice]; done) | (simp; omega) | (unfold fits; omega) | (unfold fits; simp_all; omega) | (simp_all; omega) | (simp_all; done) | intro _)))))
            refine L.nil ?_
            refine ownAs 5 (fun i => intC (upd Hh j (getR s).2.1.tag i)) rfl rfl (fun i hi => upd_c Hh _ _ i) ?_
            exact fun a w hR => ⟨⟨⟨k, (getR s).1, (if (B j).seq = 0 then upd D (j + (getR s).2.1.m.pub.toNat * 6) (D (j + (getR s).2.1.m.pub.toNat * 6) + 1) else D), (upd Hh j (getR s).2.1.tag), B⟩, hO'⟩, hR.weakP (by (repeat' (first | exact True.intro | exact Imp.refl _ | refine ⟨?_, ?_⟩))) (by (repeat (first | exact Sub.refl _ | refine Sub.pick (by first | exact p0 | exact pS p0 | exact pS (pS p0) | exact pS (pS (pS p0)) | exact pS (pS (pS (pS p0))) | exact pS (pS (pS (pS (pS p0))))) ?_)))⟩
        · skip
          ((repeat refine S.seq ?_); refine S.region (L.go (T := tt) tt_ok rfl rfl ?sd25 ?_); (try (case sd25 => (repeat' (first | exact trivial | exact zA | with_reducible refine zI ?_ ?_ | exact zB | exact zC | exact zD | exact zE | rfl | exact zN rfl | omega | assumption | (simp; done) | (simp [splice]; done) | (simp; omega) | (unfold fits; omega) | (unfold fits; simp_all; omega) | (simp_all; omega) | (simp_all; done) | intro _)))); try (refine L.nil ?_))
          ((repeat refine S.seq ?_); refine S.cond rfl (fun h11 => ?_) (fun h11 => ?_) <;> (try first | refine S.skip ?_ | refine S.exit ?_))
          · skip
            ((repeat refine S.seq ?_); refine S.region (L.go (T := tt) tt_ok rfl rfl ?sd26 ?_); (try (case sd26 => (repeat' (first | exact trivial | exact zA | with_reducible refine zI ?_ ?_ | exact zB | exact zC | exact zD | exact zE | rfl | exact zN rfl | omega | assumption | (simp; done) | (simp [splice]; done) | (simp; omega) | (unfold fits; omega) | (unfold fits; simp_all; omega) | (simp_all; omega) | (simp_all; done) | intro _)))); try (refine L.nil ?_))
            exact fun a w hR => ⟨⟨⟨k + 1, s, D, Hh, B⟩, by show k + 1 ≤ _; omega, hO.skip⟩, by show l.length - (k + 1) < l.length - k; omega, hR.weakP (by (repeat' (first | exact True.intro | exact Imp.refl _ | refine ⟨?_, ?_⟩))) (by (repeat (first | exact Sub.refl _ | refine Sub.pick (by first | exact p0 | exact pS p0 | exact pS (pS p0) | exact pS (pS (pS p0)) | exact pS (pS (pS (pS p0))) | exact pS (pS (pS (pS (pS p0))))) ?_)))⟩
          have h11n : 0 < s.held.length := by
            have : s.held.length ≠ 0 := by simpa using h11
            omega
          have hwl : IntKind.u64.wrap (s.held.length : Int) = s.held.length := by simp [IntKind.wrap, IntKind.signed, IntKind.bits]; omega
          have hidx := uM_lt (l.getD k default).n s.held.length (by omega) (by omega)
          obtain ⟨K, hK⟩ : ∃ K : Nat, uM (l.getD k default).n s.held.length = K := ⟨(uM (l.getD k default).n s.held.length).toNat, by omega⟩
          have hKl : K < s.held.length := by omega
          obtain ⟨q, hq6, hqk, ea, oa, en, on⟩ := hO.settle hKl
          rw [← getD_get hKl] at hqk ea oa en on
          unfold uM at hidx hK
          repeat refine S.seq ?_
          refine S.draw [(1, [3]), (3, [8]), (6, [3])] mixed ?_
          (refine H.ts (T := tt) [0, 1, 2, 3, 4, 5, 6, 7, 8, 9, 10, 11, 12] tt_ok (by kernel_rfl) (by kernel_rfl) (by kernel_rfl) (by intro ch a a' w h; obtain ⟨_, _, _, _, _, h, _⟩ := h; cases h) rfl ?sd76 ?_; (try (case sd76 => (repeat' (first | exact trivial | exact zA | with_reducible refine zI ?_ ?_ | exact zB | exact zC | exact zD | exact zE | rfl | exact zN rfl | omega | assumption | (simp; done) | (simp [splice]; done) | (simp; omega) | (unfold fits; omega) | (unfold fits; simp_all; omega) | (simp_all; omega) | (simp_all; done) | intro _)))))
          refine H.o1 13 rfl (by kernel_rfl) (by kernel_rfl) (O.alloc (T := tt) 17 tt_ok rfl rfl rfl rfl rfl) (.inr rfl) rfl fun b17 => ?_
          (refine H.store (T := tt) 14 rfl (by kernel_rfl) (by kernel_rfl) tt_ok rfl rfl rfl rfl rfl rfl ?sd83 rfl (by kernel_rfl) ?_; (try (case sd83 => (repeat' (first | exact trivial | exact zA | with_reducible refine zI ?_ ?_ | exact zB | exact zC | exact zD | exact zE | rfl | exact zN rfl | omega | assumption | (simp; done) | (simp [splice]; done) | (simp; omega) | (unfold fits; omega) | (unfold fits; simp_all; omega) | (simp_all; omega) | (simp_all; done) | intro _)))))
          refine H.done (by kernel_rfl) ?_
          have hKe : (IntKind.i64.wrap ((IntKind.u64.wrap (l.getD (k : Int).toNat default).n).tmod (IntKind.u64.wrap (s.held.length : Int)))).toNat = K := by
            rw [hwl]
            show (IntKind.i64.wrap ((IntKind.u64.wrap (l.getD k default).n).tmod _)).toNat = K
            rw [hK]; rfl
          refine blkAs 17 (s.held.getD K default).cells rfl (by
            show Imps (gOf Held.cells s.held _) _
            rw [hKe]
            exact Imps.refl _) ?_
          ((repeat refine S.seq ?_); refine S.region (L.go (T := tt) tt_ok rfl rfl ?sd27 ?_); (try (case sd27 => (repeat' (first | exact trivial | exact zA | with_reducible refine zI ?_ ?_ | exact zB | exact zC | exact zD | exact zE | rfl | exact zN rfl | omega | assumption | (simp; done) | (simp [splice]; done) | (simp; omega) | (unfold fits; omega) | (unfold fits; simp_all; omega) | (simp_all; omega) | (simp_all; done) | intro _)))); try (refine L.nil ?_))
          repeat refine S.seq ?_
          refine S.block (S.loop (ι := { j : Nat // j ≤ q }) (fun j => [(0, opsA l), (3, .ptr 3 b3 0), (4, .eptr 4 (arrV b4 24) 1 0 0), (5, .eptr 5 (arrV b5 6) 1 0 0), (6, .eptr 6 (arrV b6 6) 5 0 0), (7, .v (.int .i64 k)), (9, .v (.int .i64 (((l.getD k default).kind.tmod 8 + 8).tmod 8))), (17, .ptr 17 b17 0), (18, .v (.int .i64 j.1))])
            (fun j => [(17, .blk b17 53 (s.held.getD K default).cells), (6, .own (arrV b6 6) 47 5 6 (fun i => (B i).cells)), (5, .own (arrV b5 6) 43 1 6 (fun i => intC (Hh i))), (4, .own (arrV b4 24) 44 1 24 (fun i => intC (D i))), (3, .blk b3 35 s.cells)]) (fun j => q - j.1) ?_ ?_)
          · exact fun a w h => ⟨⟨0, Nat.zero_le _⟩, h.weak (by (repeat' (first | exact True.intro | exact Imp.refl _ | refine ⟨?_, ?_⟩))) (by (repeat (first | exact List.nil_sublist _ | refine List.Sublist.cons_cons _ ?_ | refine List.Sublist.cons _ ?_)))⟩
          rintro ⟨j, hj⟩
          dsimp only
          repeat refine S.seq ?_
          refine S.draw [(7, [17])] mixed ?_
          (refine H.ts (T := tt) [0, 1, 2, 3, 5, 6, 7] tt_ok (by kernel_rfl) (by kernel_rfl) (by kernel_rfl) (by intro ch a a' w h; obtain ⟨_, _, _, _, _, h, _⟩ := h; cases h) rfl ?sd77 ?_; (try (case sd77 => (repeat' (first | exact trivial | exact zA | with_reducible refine zI ?_ ?_ | exact zB | exact zC | exact zD | exact zE | rfl | exact zN rfl | omega | assumption | (simp; done) | (simp [splice]; done) | (simp; omega) | (unfold fits; omega) | (unfold fits; simp_all; omega) | (simp_all; omega) | (simp_all; done) | intro _)))))
          refine H.callG 4 rfl (by kernel_rfl) (by kernel_rfl) rfl rfl rfl rfl rfl rfl rfl (fun _ => ⟨trivial, by (repeat' (first | exact trivial | exact zA | with_reducible refine zI ?_ ?_ | exact zB | exact zC | exact zD | exact zE | rfl | exact zN rfl | omega | assumption | (simp; done) | (simp [splice]; done) | (simp; omega) | (unfold fits; omega) | (unfold fits; simp_all; omega) | (simp_all; omega) | (simp_all; done) | intro _))⟩) rfl (by exact Imps.refl _) (fun _ => name_p (j : Int) (by omega) (by omega)) ?_
          refine H.rebase ?_
          (refine H.ts (T := tt) [8, 9] tt_ok (by kernel_rfl) (by kernel_rfl) (by kernel_rfl) (by intro ch a a' w h; obtain ⟨_, _, _, _, _, h, _⟩ := h; cases h) rfl ?sd78 ?_; (try (case sd78 => (repeat' (first | exact trivial | exact zA | with_reducible refine zI ?_ ?_ | exact zB | exact zC | exact zD | exact zE | rfl | exact zN rfl | omega | assumption | (simp; done) | (simp [splice]; done) | (simp; omega) | (unfold fits; omega) | (unfold fits; simp_all; omega) | (simp_all; omega) | (simp_all; done) | intro _)))))
          refine H.done (by kernel_rfl) ?_
          ((repeat refine S.seq ?_); refine S.cond rfl (fun h12 => ?_) (fun h12 => ?_) <;> (try first | refine S.skip ?_ | refine S.exit ?_))
          · have hjn : j ≠ q := by
              rintro rfl
              rw [hqk] at h12
              simp at h12
            repeat refine S.seq ?_
            refine S.block ?_
            ((repeat refine S.seq ?_); refine S.region (L.go (T := tt) tt_ok rfl rfl ?sd28 ?_); (try (case sd28 => (repeat' (first | exact trivial | exact zA | with_reducible refine zI ?_ ?_ | exact zB | exact zC | exact zD | exact zE | rfl | exact zN rfl | omega | assumption | (simp; done) | (simp [splice]; done) | (simp; omega) | (unfold fits; omega) | (unfold fits; simp_all; omega) | (simp_all; omega) | (simp_all; done) | intro _)))); try (refine L.nil ?_))
            exact fun a w hR => ⟨⟨j + 1, by omega⟩, by simp only; omega, hR.weak (by (repeat' (first | exact True.intro | exact Imp.refl _ | refine ⟨?_, ?_⟩))) (by (repeat (first | exact List.nil_sublist _ | refine List.Sublist.cons_cons _ ?_ | refine List.Sublist.cons _ ?_)))⟩
          · skip
            have hjq : j = q := by
              rcases Nat.lt_or_ge j q with hl | hl
              · exfalso
                have hne : nameK (j : Int) ≠ nameK (q : Int) := fun e => absurd ((name_ne (by omega) hq6).1 e) (by omega)
                rw [hqk] at h12
                simp [hne] at h12
                omega
              · omega
            subst hjq
            ((repeat refine S.seq ?_); refine S.region (L.go (T := tt) tt_ok rfl rfl ?sd29 ?_); (try (case sd29 => (repeat' (first | exact trivial | exact zA | with_reducible refine zI ?_ ?_ | exact zB | exact zC | exact zD | exact zE | rfl | exact zN rfl | omega | assumption | (simp; done) | (simp [splice]; done) | (simp; omega) | (unfold fits; omega) | (unfold fits; simp_all; omega) | (simp_all; omega) | (simp_all; done) | intro _)))); try (refine L.nil ?_))
            (refine L.store (T := tt) tt_ok rfl rfl rfl rfl rfl rfl ?sd58 ?_; (try (case sd58 => (repeat' (first | exact trivial | exact zA | with_reducible refine zI ?_ ?_ | exact zB | exact zC | exact zD | exact zE | rfl | exact zN rfl | omega | assumption | (simp; done) | (simp [splice]; done) | (simp; omega) | (unfold fits; omega) | (unfold fits; simp_all; omega) | (simp_all; omega) | (simp_all; done) | intro _)))))
            (refine L.go (T := tt) tt_ok rfl rfl ?sd41 ?_; (try (case sd41 => (repeat' (first | exact trivial | exact zA | with_reducible refine zI ?_ ?_ | exact zB | exact zC | exact zD | exact zE | rfl | exact zN rfl | omega | assumption | (simp; done) | (simp [splice]; done) | (simp; omega) | (unfold fits; omega) | (unfold fits; simp_all; omega) | (simp_all; omega) | (simp_all; done) | intro _)))); try (refine L.nil ?_))
            (refine L.store (T := tt) tt_ok rfl rfl rfl rfl rfl rfl ?sd59 ?_; (try (case sd59 => (repeat' (first | exact trivial | exact zA | with_reducible refine zI ?_ ?_ | exact zB | exact zC | exact zD | exact zE | rfl | exact zN rfl | omega | assumption | (simp; done) | (simp [splice]; done) | (simp; omega) | (unfold fits; omega) | (unfold fits; simp_all; omega) | (simp_all; omega) | (simp_all; done) | intro _)))))
            refine L.nil ?_
            refine ownAs 5 (fun i => intC (upd Hh j 0 i)) rfl rfl (fun i hi => upd_c Hh _ _ i) ?_
            refine ownAs 6 (fun i => (upd B j default i).cells) rfl rfl (fun i hi => upd_m B _ default i) ?_
            ((repeat refine S.seq ?_); refine S.region (L.go (T := tt) tt_ok rfl rfl ?sd30 ?_); (try (case sd30 => (repeat' (first | exact trivial | exact zA | with_reducible refine zI ?_ ?_ | exact zB | exact zC | exact zD | exact zE | rfl | exact zN rfl | omega | assumption | (simp; done) | (simp [splice]; done) | (simp; omega) | (unfold fits; omega) | (unfold fits; simp_all; omega) | (simp_all; omega) | (simp_all; done) | intro _)))); try (refine L.nil ?_))
            refine L.callP rfl rfl rfl rfl rfl rfl rfl ⟨trivial, by (repeat' (first | exact trivial | exact zA | with_reducible refine zI ?_ ?_ | exact zB | exact zC | exact zD | exact zE | rfl | exact zN rfl | omega | assumption | (simp; done) | (simp [splice]; done) | (simp; omega) | (unfold fits; omega) | (unfold fits; simp_all; omega) | (simp_all; omega) | (simp_all; done) | intro _))⟩ rfl (Imps.refl _) (ackR_p s (s.held.getD K default).tag hO.may.fine) ?_
            (refine L.go (T := tt) tt_ok rfl rfl ?sd42 ?_; (try (case sd42 => (repeat' (first | exact trivial | exact zA | with_reducible refine zI ?_ ?_ | exact zB | exact zC | exact zD | exact zE | rfl | exact zN rfl | omega | assumption | (simp; done) | (simp [splice]; done) | (simp; omega) | (unfold fits; omega) | (unfold fits; simp_all; omega) | (simp_all; omega) | (simp_all; done) | intro _)))); try (refine L.nil ?_))
            refine L.alloc (T := tt) 19 tt_ok rfl rfl rfl rfl rfl fun b19 => ?_
            (refine L.store (T := tt) tt_ok rfl rfl rfl rfl rfl rfl ?sd60 ?_; (try (case sd60 => (repeat' (first | exact trivial | exact zA | with_reducible refine zI ?_ ?_ | exact zB | exact zC | exact zD | exact zE | rfl | exact zN rfl | omega | assumption | (simp; done) | (simp [splice]; done) | (simp; omega) | (unfold fits; omega) | (unfold fits; simp_all; omega) | (simp_all; omega) | (simp_all; done) | intro _)))))
            (refine L.go (T := tt) tt_ok rfl rfl ?sd43 ?_; (try (case sd43 => (repeat' (first | exact trivial | exact zA | with_reducible refine zI ?_ ?_ | exact zB | exact zC | exact zD | exact zE | rfl | exact zN rfl | omega | assumption | (simp; done) | (simp [splice]; done) | (simp; omega) | (unfold fits; omega) | (unfold fits; simp_all; omega) | (simp_all; omega) | (simp_all; done) | intro _)))); try (refine L.nil ?_))
            ((repeat refine S.seq ?_); refine S.region (L.go (T := tt) tt_ok rfl rfl ?sd31 ?_); (try (case sd31 => (repeat' (first | exact trivial | exact zA | with_reducible refine zI ?_ ?_ | exact zB | exact zC | exact zD | exact zE | rfl | exact zN rfl | omega | assumption | (simp; done) | (simp [splice]; done) | (simp; omega) | (unfold fits; omega) | (unfold fits; simp_all; omega) | (simp_all; omega) | (simp_all; done) | intro _)))); try (refine L.nil ?_))
            refine S.cut (ι := { t : Shard × Int × (Nat → Msg) // t.2.1 = 0 ∧ Ord t.1 D (upd Hh j 0) t.2.2 (k + 1) }) (fun t => [(0, opsA l), (3, .ptr 3 b3 0), (4, .eptr 4 (arrV b4 24) 1 0 0), (5, .eptr 5 (arrV b5 6) 1 0 0), (6, .eptr 6 (arrV b6 6) 5 0 0), (7, .v (.int .i64 k)), (19, .ptr 19 b19 0), (20, .v (.int .i64 t.1.2.1))]) (fun t => [(19, .blk b19 35 t.1.1.cells), (6, .own (arrV b6 6) 47 5 6 (fun i => (t.1.2.2 i).cells)), (5, .own (arrV b5 6) 43 1 6 (fun i => intC ((upd Hh j 0) i))), (4, .own (arrV b4 24) 44 1 24 (fun i => intC (D i))), (3, .blk b3 35 s.cells)]) ?_ ?_
            · ((repeat refine S.seq ?_); refine S.cond rfl (fun h13 => ?_) (fun h13 => ?_) <;> (try first | refine S.skip ?_ | refine S.exit ?_))
              · skip
                ((repeat refine S.seq ?_); refine S.region (L.go (T := tt) tt_ok rfl rfl ?sd32 ?_); (try (case sd32 => (repeat' (first | exact trivial | exact zA | with_reducible refine zI ?_ ?_ | exact zB | exact zC | exact zD | exact zE | rfl | exact zN rfl | omega | assumption | (simp; done) | (simp [splice]; done) | (simp; omega) | (unfold fits; omega) | (unfold fits; simp_all; omega) | (simp_all; omega) | (simp_all; done) | intro _)))); try (refine L.nil ?_))
                refine L.callP rfl rfl rfl rfl rfl rfl rfl ⟨trivial, by (repeat' (first | exact trivial | exact zA | with_reducible refine zI ?_ ?_ | exact zB | exact zC | exact zD | exact zE | rfl | exact zN rfl | omega | assumption | (simp; done) | (simp [splice]; done) | (simp; omega) | (unfold fits; omega) | (unfold fits; simp_all; omega) | (simp_all; omega) | (simp_all; done) | intro _))⟩ rfl (Imps.refl _) (nackR_p s (s.held.getD K default).tag hO.may.fine) ?_
                (refine L.go (T := tt) tt_ok rfl rfl ?sd44 ?_; (try (case sd44 => (repeat' (first | exact trivial | exact zA | with_reducible refine zI ?_ ?_ | exact zB | exact zC | exact zD | exact zE | rfl | exact zN rfl | omega | assumption | (simp; done) | (simp [splice]; done) | (simp; omega) | (unfold fits; omega) | (unfold fits; simp_all; omega) | (simp_all; omega) | (simp_all; done) | intro _)))); try (refine L.nil ?_))
                (refine L.store (T := tt) tt_ok rfl rfl rfl rfl rfl rfl ?sd61 ?_; (try (case sd61 => (repeat' (first | exact trivial | exact zA | with_reducible refine zI ?_ ?_ | exact zB | exact zC | exact zD | exact zE | rfl | exact zN rfl | omega | assumption | (simp; done) | (simp [splice]; done) | (simp; omega) | (unfold fits; omega) | (unfold fits; simp_all; omega) | (simp_all; omega) | (simp_all; done) | intro _)))))
                (refine L.go (T := tt) tt_ok rfl rfl ?sd45 ?_; (try (case sd45 => (repeat' (first | exact trivial | exact zA | with_reducible refine zI ?_ ?_ | exact zB | exact zC | exact zD | exact zE | rfl | exact zN rfl | omega | assumption | (simp; done) | (simp [splice]; done) | (simp; omega) | (unfold fits; omega) | (unfold fits; simp_all; omega) | (simp_all; omega) | (simp_all; done) | intro _)))); try (refine L.nil ?_))
                ((repeat refine S.seq ?_); refine S.region (L.go (T := tt) tt_ok rfl rfl ?sd33 ?_); (try (case sd33 => (repeat' (first | exact trivial | exact zA | with_reducible refine zI ?_ ?_ | exact zB | exact zC | exact zD | exact zE | rfl | exact zN rfl | omega | assumption | (simp; done) | (simp [splice]; done) | (simp; omega) | (unfold fits; omega) | (unfold fits; simp_all; omega) | (simp_all; omega) | (simp_all; done) | intro _)))); try (refine L.nil ?_))
                (refine L.store (T := tt) tt_ok rfl rfl rfl rfl rfl rfl ?sd62 ?_; (try (case sd62 => (repeat' (first | exact trivial | exact zA | with_reducible refine zI ?_ ?_ | exact zB | exact zC | exact zD | exact zE | rfl | exact zN rfl | omega | assumption | (simp; done) | (simp [splice]; done) | (simp; omega) | (unfold fits; omega) | (unfold fits; simp_all; omega) | (simp_all; omega) | (simp_all; done) | intro _)))))
                refine L.nil ?_
                refine ownAs 6 (fun i => (upd B j (s.held.getD K default).m i).cells) rfl rfl (fun i hi => (by
                  show (if i = j then (s.held.getD K default).m.cells else (upd B j default i).cells) = _
                  unfold upd
                  by_cases e : i = j
                  · rw [if_pos e, if_pos e]
                  · rw [if_neg e, if_neg e, if_neg e])) ?_
                exact fun a w hR => ⟨⟨((nackS s (s.held.getD K default).tag).1, (nackS s (s.held.getD K default).tag).2, upd B j (s.held.getD K default).m), en, on⟩, hR.weakP (by (repeat' (first | exact True.intro | exact Imp.refl _ | refine ⟨?_, ?_⟩))) (by (repeat (first | exact Sub.refl _ | refine Sub.pick (by first | exact p0 | exact pS p0 | exact pS (pS p0) | exact pS (pS (pS p0)) | exact pS (pS (pS (pS p0))) | exact pS (pS (pS (pS (pS p0))))) ?_)))⟩
              · skip
                exact fun a w hR => ⟨⟨((ackS s (s.held.getD K default).tag).1, (ackS s (s.held.getD K default).tag).2, upd B j default), ea, oa⟩, hR.weakP (by (repeat' (first | exact True.intro | exact Imp.refl _ | refine ⟨?_, ?_⟩))) (by (repeat (first | exact Sub.refl _ | refine Sub.pick (by first | exact p0 | exact pS p0 | exact pS (pS p0) | exact pS (pS (pS p0)) | exact pS (pS (pS (pS p0))) | exact pS (pS (pS (pS (pS p0))))) ?_)))⟩
            rintro ⟨⟨s2, e2, B2⟩, ht0, ht1⟩
            dsimp only at ht0 ht1 ⊢
            ((repeat refine S.seq ?_); refine S.region (L.go (T := tt) tt_ok rfl rfl ?sd34 ?_); (try (case sd34 => (repeat' (first | exact trivial | exact zA | with_reducible refine zI ?_ ?_ | exact zB | exact zC | exact zD | exact zE | rfl | exact zN rfl | omega | assumption | (simp; done) | (simp [splice]; done) | (simp; omega) | (unfold fits; omega) | (unfold fits; simp_all; omega) | (simp_all; omega) | (simp_all; done) | intro _)))); try (refine L.nil ?_))
            ((repeat refine S.seq ?_); refine S.cond rfl (fun h14 => ?_) (fun h14 => ?_) <;> (try first | refine S.skip ?_ | refine S.exit ?_))
            · skip
              ((repeat refine S.seq ?_); refine S.region (L.go (T := tt) tt_ok rfl rfl ?sd35 ?_); (try (case sd35 => (repeat' (first | exact trivial | exact zA | with_reducible refine zI ?_ ?_ | exact zB | exact zC | exact zD | exact zE | rfl | exact zN rfl | omega | assumption | (simp; done) | (simp [splice]; done) | (simp; omega) | (unfold fits; omega) | (unfold fits; simp_all; omega) | (simp_all; omega) | (simp_all; done) | intro _)))); try (refine L.nil ?_))
              exfalso
              rw [ht0] at h14
              simp at h14
            ((repeat refine S.seq ?_); refine S.region (L.go (T := tt) tt_ok rfl rfl ?sd36 ?_); (try (case sd36 => (repeat' (first | exact trivial | exact zA | with_reducible refine zI ?_ ?_ | exact zB | exact zC | exact zD | exact zE | rfl | exact zN rfl | omega | assumption | (simp; done) | (simp [splice]; done) | (simp; omega) | (unfold fits; omega) | (unfold fits; simp_all; omega) | (simp_all; omega) | (simp_all; done) | intro _)))); try (refine L.nil ?_))
            (refine L.store (T := tt) tt_ok rfl rfl rfl rfl rfl rfl ?sd63 ?_; (try (case sd63 => (repeat' (first | exact trivial | exact zA | with_reducible refine zI ?_ ?_ | exact zB | exact zC | exact zD | exact zE | rfl | exact zN rfl | omega | assumption | (simp; done) | (simp [splice]; done) | (simp; omega) | (unfold fits; omega) | (unfold fits; simp_all; omega) | (simp_all; omega) | (simp_all; done) | intro _)))))
            refine L.nil ?_
            exact fun a w hR => ⟨⟨⟨k, s2, D, (upd Hh j 0), B2⟩, ht1⟩, hR.weakP (by (repeat' (first | exact True.intro | exact Imp.refl _ | refine ⟨?_, ?_⟩))) (by (repeat (first | exact Sub.refl _ | refine Sub.pick (by first | exact p0 | exact pS p0 | exact pS (pS p0) | exact pS (pS (pS p0)) | exact pS (pS (pS (pS p0))) | exact pS (pS (pS (pS (pS p0))))) ?_)))⟩
    rintro ⟨t, hOt⟩
    dsimp only
    ((repeat refine S.seq ?_); refine S.region (L.go (T := tt) tt_ok rfl rfl ?sd37 ?_); (try (case sd37 => (repeat' (first | exact trivial | exact zA | with_reducible refine zI ?_ ?_ | exact zB | exact zC | exact zD | exact zE | rfl | exact zN rfl | omega | assumption | (simp; done) | (simp [splice]; done) | (simp; omega) | (unfold fits; omega) | (unfold fits; simp_all; omega) | (simp_all; omega) | (simp_all; done) | intro _)))); try (refine L.nil ?_))
    exact fun a w hR => ⟨⟨⟨k + 1, t.s, t.D, t.H, t.B⟩, by show k + 1 ≤ _; omega, hOt⟩, by show l.length - (k + 1) < l.length - k; omega, hR.weakP (by (repeat' (first | exact True.intro | exact Imp.refl _ | refine ⟨?_, ?_⟩))) (by (repeat (first | exact Sub.refl _ | refine Sub.pick (by first | exact p0 | exact pS p0 | exact pS (pS p0) | exact pS (pS (pS p0)) | exact pS (pS (pS (pS p0))) | exact pS (pS (pS (pS (pS p0))))) ?_)))⟩
  · have h2 := of_dec' h2
    repeat refine S.seq ?_
    refine S.region ?_
    refine L.callP rfl rfl rfl rfl rfl rfl rfl ⟨trivial, by (repeat' (first | exact trivial | exact zA | with_reducible refine zI ?_ ?_ | exact zB | exact zC | exact zD | exact zE | rfl | exact zN rfl | omega | assumption | (simp; done) | (simp [splice]; done) | (simp; omega) | (unfold fits; omega) | (unfold fits; simp_all; omega) | (simp_all; omega) | (simp_all; done) | intro _))⟩ rfl (Imps.refl _) told12_p ?_
    (refine L.go (T := tt) tt_ok rfl rfl ?sd46 ?_; (try (case sd46 => (repeat' (first | exact trivial | exact zA | with_reducible refine zI ?_ ?_ | exact zB | exact zC | exact zD | exact zE | rfl | exact zN rfl | omega | assumption | (simp; done) | (simp [splice]; done) | (simp; omega) | (unfold fits; omega) | (unfold fits; simp_all; omega) | (simp_all; omega) | (simp_all; done) | intro _)))); try (refine L.nil ?_))
    refine L.callG rfl rfl rfl rfl rfl rfl rfl (fun _ => ⟨trivial, by (repeat' (first | exact trivial | exact zA | with_reducible refine zI ?_ ?_ | exact zB | exact zC | exact zD | exact zE | rfl | exact zN rfl | omega | assumption | (simp; done) | (simp [splice]; done) | (simp; omega) | (unfold fits; omega) | (unfold fits; simp_all; omega) | (simp_all; omega) | (simp_all; done) | intro _))⟩) rfl (Imps.refl _) (fun _ => (mayR_p s hO.may.fine)) ?_
    (refine L.go (T := tt) tt_ok rfl rfl ?sd47 ?_; (try (case sd47 => (repeat' (first | exact trivial | exact zA | with_reducible refine zI ?_ ?_ | exact zB | exact zC | exact zD | exact zE | rfl | exact zN rfl | omega | assumption | (simp; done) | (simp [splice]; done) | (simp; omega) | (unfold fits; omega) | (unfold fits; simp_all; omega) | (simp_all; omega) | (simp_all; done) | intro _)))); try (refine L.nil ?_))
    (((repeat refine S.seq ?_); refine S.ret ?_); refine E.retP (T := tt) tt_ok rfl rfl (by (repeat' (first | exact trivial | exact zA | with_reducible refine zI ?_ ?_ | exact zB | exact zC | exact zD | exact zE | rfl | exact zN rfl | omega | assumption | (simp; done) | (simp [splice]; done) | (simp; omega) | (unfold fits; omega) | (unfold fits; simp_all; omega) | (simp_all; omega) | (simp_all; done) | intro _))) ?_)
    exact Imp.of_eq (by rw [(may_iff s).2 hO.may]; rfl)

end Go.Proofs.Ytgnklbdbglnmaaa
