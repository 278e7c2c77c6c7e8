/- RingScans: who owns a point is who has the arc whose way to it is the shortest. -/
import Derived.Test.YtlgdjmmjconbfaaDoorRgB2M
namespace Go.Proofs.YtlgdjmmjconbfaaDoor
set_option linter.unusedVariables false
set_option linter.unusedSimpArgs false
set_option maxHeartbeats 8000000
open Go.RowKit
set_option maxRecDepth 4000

theorem ringScans_p (l : List Arc) (p : Int) (hr : inR32 l) (hp0 : 0 ≤ p) (hp1 : p < 4294967296) : PFn Tryd.prog 7 [arcs l, .v (.int .u32 p)] (.v (.bool true)) := by
  refine FnC.intro Tryd.func7 rfl Tryd.ntmps7 rfl ?_; intro off w0
  ((repeat refine S.seq ?_); refine S.region (L.go (T := tt) tt_ok rfl rfl ?sd40 ?_); (try (case sd40 => (repeat' ((first | first | exact trivial | exact zA | with_reducible refine zI ?_ ?_ | exact zB | exact zC | exact zD | exact zE | rfl | exact zN rfl | omega | assumption | (simp; done) | (simp [splice]; done) | (simp; omega) | (unfold fits; omega) | (unfold fits; simp_all; omega) | (simp_all; omega) | (simp_all; done) | intro _ | exact zI ?_ ?_ | intro _))))); try (refine L.nil ?_))
  repeat refine S.seq ?_
  refine S.region ?_
  (refine L.go (T := tt) tt_ok rfl rfl ?sd46 ?_; (try (case sd46 => (repeat' ((first | first | exact trivial | exact zA | with_reducible refine zI ?_ ?_ | exact zB | exact zC | exact zD | exact zE | rfl | exact zN rfl | omega | assumption | (simp; done) | (simp [splice]; done) | (simp; omega) | (unfold fits; omega) | (unfold fits; simp_all; omega) | (simp_all; omega) | (simp_all; done) | intro _ | exact zI ?_ ?_ | intro _))))); try (refine L.nil ?_))
  refine L.callP rfl rfl rfl rfl rfl rfl rfl ⟨trivial, by (repeat' ((first | first | exact trivial | exact zA | with_reducible refine zI ?_ ?_ | exact zB | exact zC | exact zD | exact zE | rfl | exact zN rfl | omega | assumption | (simp; done) | (simp [splice]; done) | (simp; omega) | (unfold fits; omega) | (unfold fits; simp_all; omega) | (simp_all; omega) | (simp_all; done) | intro _ | exact zI ?_ ?_ | intro _)))⟩ rfl (Imps.refl _) (few_p l) ?_
  (refine L.go (T := tt) tt_ok rfl rfl ?sd47 ?_; (try (case sd47 => (repeat' ((first | first | exact trivial | exact zA | with_reducible refine zI ?_ ?_ | exact zB | exact zC | exact zD | exact zE | rfl | exact zN rfl | omega | assumption | (simp; done) | (simp [splice]; done) | (simp; omega) | (unfold fits; omega) | (unfold fits; simp_all; omega) | (simp_all; omega) | (simp_all; done) | intro _ | exact zI ?_ ?_ | intro _))))); try (refine L.nil ?_))
  refine L.callG rfl rfl rfl rfl rfl rfl rfl (fun _ => ⟨trivial, by (repeat' ((first | first | exact trivial | exact zA | with_reducible refine zI ?_ ?_ | exact zB | exact zC | exact zD | exact zE | rfl | exact zN rfl | omega | assumption | (simp; done) | (simp [splice]; done) | (simp; omega) | (unfold fits; omega) | (unfold fits; simp_all; omega) | (simp_all; omega) | (simp_all; done) | intro _ | exact zI ?_ ?_ | intro _)))⟩) rfl (Imps.refl _) (fun _ => ringmay_p l) ?_
  (refine L.go (T := tt) tt_ok rfl rfl ?sd48 ?_; (try (case sd48 => (repeat' ((first | first | exact trivial | exact zA | with_reducible refine zI ?_ ?_ | exact zB | exact zC | exact zD | exact zE | rfl | exact zN rfl | omega | assumption | (simp; done) | (simp [splice]; done) | (simp; omega) | (unfold fits; omega) | (unfold fits; simp_all; omega) | (simp_all; omega) | (simp_all; done) | intro _ | exact zI ?_ ?_ | intro _))))); try (refine L.nil ?_))
  ((repeat refine S.seq ?_); refine S.cond rfl (fun h1 => ?_) (fun h1 => ?_) <;> (try first | refine S.skip ?_ | refine S.exit ?_))
  · repeat refine S.seq ?_
    refine S.region ?_
    refine L.callP rfl rfl rfl rfl rfl rfl rfl ⟨trivial, by (repeat' ((first | first | exact trivial | exact zA | with_reducible refine zI ?_ ?_ | exact zB | exact zC | exact zD | exact zE | rfl | exact zN rfl | omega | assumption | (simp; done) | (simp [splice]; done) | (simp; omega) | (unfold fits; omega) | (unfold fits; simp_all; omega) | (simp_all; omega) | (simp_all; done) | intro _ | exact zI ?_ ?_ | intro _)))⟩ rfl (Imps.refl _) told9_p ?_
    (refine L.go (T := tt) tt_ok rfl rfl ?sd49 ?_; (try (case sd49 => (repeat' ((first | first | exact trivial | exact zA | with_reducible refine zI ?_ ?_ | exact zB | exact zC | exact zD | exact zE | rfl | exact zN rfl | omega | assumption | (simp; done) | (simp [splice]; done) | (simp; omega) | (unfold fits; omega) | (unfold fits; simp_all; omega) | (simp_all; omega) | (simp_all; done) | intro _ | exact zI ?_ ?_ | intro _))))); try (refine L.nil ?_))
    (((repeat refine S.seq ?_); refine S.ret ?_); refine E.retP (T := tt) tt_ok rfl rfl (by (repeat' ((first | first | exact trivial | exact zA | with_reducible refine zI ?_ ?_ | exact zB | exact zC | exact zD | exact zE | rfl | exact zN rfl | omega | assumption | (simp; done) | (simp [splice]; done) | (simp; omega) | (unfold fits; omega) | (unfold fits; simp_all; omega) | (simp_all; omega) | (simp_all; done) | intro _ | exact zI ?_ ?_ | intro _)))) (Imp.of_eq ?_))
    rfl
  rw [Bool.or_eq_false_iff, Bool.not_eq_false', decide_eq_true_eq, Bool.not_eq_false'] at h1
  have hf := fit_of h1.2 hr
  have hm := h1.2
  have hone := hf.may.one
  ((repeat refine S.seq ?_); refine S.region (L.go (T := tt) tt_ok rfl rfl ?sd41 ?_); (try (case sd41 => (repeat' ((first | first | exact trivial | exact zA | with_reducible refine zI ?_ ?_ | exact zB | exact zC | exact zD | exact zE | rfl | exact zN rfl | omega | assumption | (simp; done) | (simp [splice]; done) | (simp; omega) | (unfold fits; omega) | (unfold fits; simp_all; omega) | (simp_all; omega) | (simp_all; done) | intro _ | exact zI ?_ ?_ | intro _))))); try (refine L.nil ?_))
  ((repeat refine S.seq ?_); refine S.region (L.go (T := tt) tt_ok rfl rfl ?sd42 ?_); (try (case sd42 => (repeat' ((first | first | exact trivial | exact zA | with_reducible refine zI ?_ ?_ | exact zB | exact zC | exact zD | exact zE | rfl | exact zN rfl | omega | assumption | (simp; done) | (simp [splice]; done) | (simp; omega) | (unfold fits; omega) | (unfold fits; simp_all; omega) | (simp_all; omega) | (simp_all; done) | intro _ | exact zI ?_ ?_ | intro _))))); try (refine L.nil ?_))
  repeat refine S.seq ?_
  refine S.cut (ι := Unit) (fun _ => [(0, arcs l), (1, .v (.int .u32 p)), (5, .v (.int .i64 (bestTo l p l.length)))]) (fun _ => []) ?_ ?_
  · refine S.block (S.loop (ι := { k : Nat // k ≤ l.length }) (fun k => [(0, arcs l), (1, .v (.int .u32 p)), (5, .v (.int .i64 (bestTo l p k.1))), (6, .v (.int .i64 k.1))]) (fun _ => []) (fun k => l.length - k.1) ?_ ?_)
    · exact fun a w h => ⟨⟨0, Nat.zero_le _⟩, h.weakP (by (repeat' (first | exact True.intro | exact Imp.refl _ | refine ⟨?_, ?_⟩))) (by (repeat (first | exact Sub.refl _ | refine Sub.pick (by first | exact p0 | exact pS p0 | exact pS (pS p0) | exact pS (pS (pS p0)) | exact pS (pS (pS (pS p0))) | exact pS (pS (pS (pS (pS p0))))) ?_)))⟩
    rintro ⟨k, hk⟩
    dsimp only
    ((repeat refine S.seq ?_); refine S.region (L.go (T := tt) tt_ok rfl rfl ?sd43 ?_); (try (case sd43 => (repeat' ((first | first | exact trivial | exact zA | with_reducible refine zI ?_ ?_ | exact zB | exact zC | exact zD | exact zE | rfl | exact zN rfl | omega | assumption | (simp; done) | (simp [splice]; done) | (simp; omega) | (unfold fits; omega) | (unfold fits; simp_all; omega) | (simp_all; omega) | (simp_all; done) | intro _ | exact zI ?_ ?_ | intro _))))); try (refine L.nil ?_))
    ((repeat refine S.seq ?_); refine S.cond rfl (fun hc => ?_) (fun hc => ?_) <;> (try first | refine S.skip ?_ | refine S.exit ?_))
    · have hk' : k < l.length := by have := of_dec hc; omega
      have hbl := (bestTo_lt l p k).1
      obtain ⟨b, hb⟩ : ∃ b, b = bestTo l p k := ⟨_, rfl⟩
      rw [← hb] at hbl ⊢
      repeat refine S.seq ?_
      refine S.block ?_
      repeat refine S.seq ?_
      refine S.draw [] mixed ?_
      (refine H.ts (T := tt) [0, 1, 2, 3, 4, 5, 6, 7, 8, 9, 10, 11, 12, 13, 14] tt_ok (by kernel_rfl) (by kernel_rfl) (by kernel_rfl) (by intro ch a a' w h; obtain ⟨_, _, _, _, _, h, _⟩ := h; cases h) rfl ?sd50 ?_; (try (case sd50 => (repeat' ((first | first | exact trivial | exact zA | with_reducible refine zI ?_ ?_ | exact zB | exact zC | exact zD | exact zE | rfl | exact zN rfl | omega | assumption | (simp; done) | (simp [splice]; done) | (simp; omega) | (unfold fits; omega) | (unfold fits; simp_all; omega) | (simp_all; omega) | (simp_all; done) | intro _ | exact zI ?_ ?_ | intro _))))))
      refine H.done (by kernel_rfl) ?_
      refine S.cut (ι := Unit) (fun _ => [(0, arcs l), (1, .v (.int .u32 p)), (5, .v (.int .i64 (bestTo l p (k + 1)))), (6, .v (.int .i64 k))]) (fun _ => []) ?_ ?_
      · ((repeat refine S.seq ?_); refine S.cond rfl (fun h2 => ?_) (fun h2 => ?_) <;> (try first | refine S.skip ?_ | refine S.exit ?_))
        · have h2 : dst p (l.getD k default) < dst p (l.getD b default) := of_dec h2
          ((repeat refine S.seq ?_); refine S.region (L.go (T := tt) tt_ok rfl rfl ?sd44 ?_); (try (case sd44 => (repeat' ((first | first | exact trivial | exact zA | with_reducible refine zI ?_ ?_ | exact zB | exact zC | exact zD | exact zE | rfl | exact zN rfl | omega | assumption | (simp; done) | (simp [splice]; done) | (simp; omega) | (unfold fits; omega) | (unfold fits; simp_all; omega) | (simp_all; omega) | (simp_all; done) | intro _ | exact zI ?_ ?_ | intro _))))); try (refine L.nil ?_))
          refine slotAs 5 (.v (.int .i64 (bestTo l p (k + 1)))) rfl (Imp.of_eq (by rw [bestTo, ← hb, if_pos h2])) ?_
          exact fun a w hR => ⟨(), hR.weakP (by (repeat' (first | exact True.intro | exact Imp.refl _ | refine ⟨?_, ?_⟩))) (by (repeat (first | exact Sub.refl _ | refine Sub.pick (by first | exact p0 | exact pS p0 | exact pS (pS p0) | exact pS (pS (pS p0)) | exact pS (pS (pS (pS p0))) | exact pS (pS (pS (pS (pS p0))))) ?_)))⟩
        · have h2 : ¬ dst p (l.getD k default) < dst p (l.getD b default) := of_dec' h2
          refine slotAs 5 (.v (.int .i64 (bestTo l p (k + 1)))) rfl (Imp.of_eq (by rw [bestTo, ← hb, if_neg h2])) ?_
          exact fun a w hR => ⟨(), hR.weakP (by (repeat' (first | exact True.intro | exact Imp.refl _ | refine ⟨?_, ?_⟩))) (by (repeat (first | exact Sub.refl _ | refine Sub.pick (by first | exact p0 | exact pS p0 | exact pS (pS p0) | exact pS (pS (pS p0)) | exact pS (pS (pS (pS p0))) | exact pS (pS (pS (pS (pS p0))))) ?_)))⟩
      intro _
      ((repeat refine S.seq ?_); refine S.region (L.go (T := tt) tt_ok rfl rfl ?sd45 ?_); (try (case sd45 => (repeat' ((first | first | exact trivial | exact zA | with_reducible refine zI ?_ ?_ | exact zB | exact zC | exact zD | exact zE | rfl | exact zN rfl | omega | assumption | (simp; done) | (simp [splice]; done) | (simp; omega) | (unfold fits; omega) | (unfold fits; simp_all; omega) | (simp_all; omega) | (simp_all; done) | intro _ | exact zI ?_ ?_ | intro _))))); try (refine L.nil ?_))
      exact fun a w hR => ⟨⟨k + 1, hk'⟩, by show l.length - (k + 1) < l.length - k; omega, hR.weakP (by (repeat' (first | exact True.intro | exact Imp.refl _ | refine ⟨?_, ?_⟩))) (by (repeat (first | exact Sub.refl _ | refine Sub.pick (by first | exact p0 | exact pS p0 | exact pS (pS p0) | exact pS (pS (pS p0)) | exact pS (pS (pS (pS p0))) | exact pS (pS (pS (pS (pS p0))))) ?_)))⟩
    have hk' : k = l.length := by have := of_dec' hc; omega
    subst hk'
    exact fun a w hR => ⟨(), hR.weakP (by (repeat' (first | exact True.intro | exact Imp.refl _ | refine ⟨?_, ?_⟩))) (by (repeat (first | exact Sub.refl _ | refine Sub.pick (by first | exact p0 | exact pS p0 | exact pS (pS p0) | exact pS (pS (pS p0)) | exact pS (pS (pS (pS p0))) | exact pS (pS (pS (pS (pS p0))))) ?_)))⟩
  intro _
  rw [best_place hf hp0 hp1]
  have hpl := place_lt hone p
  have how := owner_at hf p
  have hdw := dst_wid hf hp0 hp1
  obtain ⟨b, hb⟩ : ∃ b, b = placeA l p := ⟨_, rfl⟩
  rw [← hb] at hpl how hdw ⊢
  repeat refine S.seq ?_
  refine S.draw [] mixed ?_
  refine H.callP 0 rfl (by kernel_rfl) (by kernel_rfl) rfl rfl rfl rfl rfl rfl rfl ⟨trivial, by (repeat' ((first | first | exact trivial | exact zA | with_reducible refine zI ?_ ?_ | exact zB | exact zC | exact zD | exact zE | rfl | exact zN rfl | omega | assumption | (simp; done) | (simp [splice]; done) | (simp; omega) | (unfold fits; omega) | (unfold fits; simp_all; omega) | (simp_all; omega) | (simp_all; done) | intro _ | exact zI ?_ ?_ | intro _)))⟩ rfl (by exact Imps.refl _) (told9_p) ?_
  (refine H.ts (T := tt) [1, 2, 3, 5, 6, 7, 8, 9] tt_ok (by kernel_rfl) (by kernel_rfl) (by kernel_rfl) (by intro ch a a' w h; obtain ⟨_, _, _, _, _, h, _⟩ := h; cases h) rfl ?sd51 ?_; (try (case sd51 => (repeat' ((first | first | exact trivial | exact zA | with_reducible refine zI ?_ ?_ | exact zB | exact zC | exact zD | exact zE | rfl | exact zN rfl | omega | assumption | (simp; done) | (simp [splice]; done) | (simp; omega) | (unfold fits; omega) | (unfold fits; simp_all; omega) | (simp_all; omega) | (simp_all; done) | intro _ | exact zI ?_ ?_ | intro _))))))
  refine H.callG 4 rfl (by kernel_rfl) (by kernel_rfl) rfl rfl rfl rfl rfl rfl rfl (fun _ => ⟨trivial, by (repeat' ((first | first | exact trivial | exact zA | with_reducible refine zI ?_ ?_ | exact zB | exact zC | exact zD | exact zE | rfl | exact zN rfl | omega | assumption | (simp; done) | (simp [splice]; done) | (simp; omega) | (unfold fits; omega) | (unfold fits; simp_all; omega) | (simp_all; omega) | (simp_all; done) | intro _ | exact zI ?_ ?_ | intro _)))⟩) rfl (by exact Imps.refl _) (fun _ => owner_p l p) ?_
  (refine H.ts (T := tt) [10, 11, 12, 13, 14, 15, 16, 17, 18, 19, 20, 21, 22] tt_ok (by kernel_rfl) (by kernel_rfl) (by kernel_rfl) (by intro ch a a' w h; obtain ⟨_, _, _, _, _, h, _⟩ := h; cases h) rfl ?sd52 ?_; (try (case sd52 => (repeat' ((first | first | exact trivial | exact zA | with_reducible refine zI ?_ ?_ | exact zB | exact zC | exact zD | exact zE | rfl | exact zN rfl | omega | assumption | (simp; done) | (simp [splice]; done) | (simp; omega) | (unfold fits; omega) | (unfold fits; simp_all; omega) | (simp_all; omega) | (simp_all; done) | intro _ | exact zI ?_ ?_ | intro _))))))
  refine H.callG 23 rfl (by kernel_rfl) (by kernel_rfl) rfl rfl rfl rfl rfl rfl rfl (fun _ => ⟨trivial, by (repeat' ((first | first | exact trivial | exact zA | with_reducible refine zI ?_ ?_ | exact zB | exact zC | exact zD | exact zE | rfl | exact zN rfl | omega | assumption | (simp; done) | (simp [splice]; done) | (simp; omega) | (unfold fits; omega) | (unfold fits; simp_all; omega) | (simp_all; omega) | (simp_all; done) | intro _ | exact zI ?_ ?_ | intro _)))⟩) rfl (by exact Imps.refl _) (fun _ => bigwidth_p l b) ?_
  rw [widthA_in hm hpl]
  (refine H.ts (T := tt) [24, 25, 26] tt_ok (by kernel_rfl) (by kernel_rfl) (by kernel_rfl) (by intro ch a a' w h; obtain ⟨_, _, _, _, _, h, _⟩ := h; cases h) rfl ?sd53 ?_; (try (case sd53 => (repeat' ((first | first | exact trivial | exact zA | with_reducible refine zI ?_ ?_ | exact zB | exact zC | exact zD | exact zE | rfl | exact zN rfl | omega | assumption | (simp; done) | (simp [splice]; done) | (simp; omega) | (unfold fits; omega) | (unfold fits; simp_all; omega) | (simp_all; omega) | (simp_all; done) | intro _ | exact zI ?_ ?_ | intro _))))))
  refine H.done (by kernel_rfl) ?_
  (((repeat refine S.seq ?_); refine S.ret ?_); refine E.retP (T := tt) tt_ok rfl rfl (by (repeat' ((first | first | exact trivial | exact zA | with_reducible refine zI ?_ ?_ | exact zB | exact zC | exact zD | exact zE | rfl | exact zN rfl | omega | assumption | (simp; done) | (simp [splice]; done) | (simp; omega) | (unfold fits; omega) | (unfold fits; simp_all; omega) | (simp_all; omega) | (simp_all; done) | intro _ | exact zI ?_ ?_ | intro _)))) (Imp.of_eq ?_))
  rw [how]
  have e1 : IntKind.u64.wrap (IntKind.u32.wrap (p - (l.getD b default).at0)) = dst p (l.getD b default) := by
    have e2 : IntKind.u32.wrap (p - (l.getD b default).at0) = dst p (l.getD b default) := rfl
    rw [e2]
    unfold dst
    exact u64_id (by omega) (by omega)
  have ebn : (b : Int).toNat = b := Int.toNat_natCast b
  simp only [ebn, e1, hdw, decide_true, Bool.and_true, Bool.true_and, Bool.and_self, beq_self_eq_true]
  rfl
end Go.Proofs.YtlgdjmmjconbfaaDoor
