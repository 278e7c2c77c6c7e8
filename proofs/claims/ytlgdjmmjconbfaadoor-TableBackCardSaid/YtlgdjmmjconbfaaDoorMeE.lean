/- Texts of this proof, laid together: ApiEq, EqArcs, RgY, RgZ, RgR, RgS, RgH, RgI, RgJ. -/
import Derived.Test.YtlgdjmmjconbfaaDoorMeD
import Derived.Test.YtlgdjmmjconbfaaDoorMeC
/- Equality of arcs, as the code tells it. -/
namespace Go.Proofs.YtlgdjmmjconbfaaDoor
set_option linter.unusedVariables false
set_option linter.unusedSimpArgs false
set_option maxHeartbeats 8000000
open Go.RowKit

instance : DecidableEq Arc := fun a b => if h : a.at0 = b.at0 ∧ a.shard = b.shard then .isTrue (by cases a; cases b; simpa using h) else .isFalse fun e => h (by rw [e]; exact ⟨rfl, rfl⟩)
theorem eqArc (a b : Arc) : (a.at0 == b.at0 && (a.shard == b.shard && true)) = decide (a = b) := by
  rw [Bool.eq_iff_iff]
  cases a; cases b
  simp
theorem eqArc_of {a b : Arc} (h : (!(a.at0 == b.at0 && (a.shard == b.shard && true))) = false) : a = b := by
  rw [eqArc] at h
  simpa using h

/-- Two lists agree so far. -/
def eqTo {α : Type} [DecidableEq α] [Inhabited α] (l m : List α) (k : Nat) : Bool := (List.range k).all fun i => decide (l.getD i default = m.getD i default)
theorem eqTo_succ {α : Type} [DecidableEq α] [Inhabited α] (l m : List α) (k : Nat) : eqTo l m (k + 1) = (eqTo l m k && decide (l.getD k default = m.getD k default)) := by simp [eqTo, List.range_succ]
theorem eqTo_eq {α : Type} [DecidableEq α] [Inhabited α] {l m : List α} (hl : l.length = m.length) (h : eqTo l m l.length = true) : l = m := by
  apply List.ext_getElem hl
  intro i h1 h2
  have := List.all_eq_true.1 h i (by simpa using h1)
  simp only [decide_eq_true_eq, List.getD_eq_getElem?_getD, List.getElem?_eq_getElem h1, List.getElem?_eq_getElem h2, Option.getD_some] at this
  exact this

end Go.Proofs.YtlgdjmmjconbfaaDoor

/- slices.Equal, as a contract. -/
namespace Go.Proofs.YtlgdjmmjconbfaaDoor
set_option linter.unusedVariables false
set_option linter.unusedSimpArgs false
set_option maxHeartbeats 8000000
open Go.RowKit
set_option maxRecDepth 4000

theorem EqArcs (l m : List Arc) : PFn Tryd.prog 53 [.lst 2 l.length (gOf Arc.cells l), .lst 2 m.length (gOf Arc.cells m)] (.v (.bool (decide (l = m)))) := by
  refine FnC.intro Tryd.func53 rfl Tryd.ntmps53 rfl ?_; intro off w0
  refine lenAt (sz := 2) (n := l.length) (g := gOf Arc.cells l) 0 rfl fun hn => ?_
  ((repeat refine S.seq ?_); refine S.region (L.go (T := tt) tt_ok rfl rfl ?sd157 ?_); (try (case sd157 => (repeat' ((first | first | exact trivial | exact zA | with_reducible refine zI ?_ ?_ | exact zB | exact zC | exact zD | exact zE | rfl | exact zN rfl | omega | assumption | (simp; done) | (simp [splice]; done) | (simp; omega) | (unfold fits; omega) | (unfold fits; simp_all; omega) | (simp_all; omega) | (simp_all; done) | intro _ | exact zI ?_ ?_ | intro _))))); try (refine L.nil ?_))
  ((repeat refine S.seq ?_); refine S.region (L.go (T := tt) tt_ok rfl rfl ?sd158 ?_); (try (case sd158 => (repeat' ((first | first | exact trivial | exact zA | with_reducible refine zI ?_ ?_ | exact zB | exact zC | exact zD | exact zE | rfl | exact zN rfl | omega | assumption | (simp; done) | (simp [splice]; done) | (simp; omega) | (unfold fits; omega) | (unfold fits; simp_all; omega) | (simp_all; omega) | (simp_all; done) | intro _ | exact zI ?_ ?_ | intro _))))); try (refine L.nil ?_))
  ((repeat refine S.seq ?_); refine S.cond rfl (fun h0 => ?_) (fun h0 => ?_) <;> (try first | refine S.skip ?_ | refine S.exit ?_))
  · ((repeat refine S.seq ?_); refine S.region (L.go (T := tt) tt_ok rfl rfl ?sd159 ?_); (try (case sd159 => (repeat' ((first | first | exact trivial | exact zA | with_reducible refine zI ?_ ?_ | exact zB | exact zC | exact zD | exact zE | rfl | exact zN rfl | omega | assumption | (simp; done) | (simp [splice]; done) | (simp; omega) | (unfold fits; omega) | (unfold fits; simp_all; omega) | (simp_all; omega) | (simp_all; done) | intro _ | exact zI ?_ ?_ | intro _))))); try (refine L.nil ?_))
    ((repeat refine S.seq ?_); refine S.ret ?_)
    refine E.retP (T := tt) tt_ok rfl rfl (by (repeat' ((first | first | exact trivial | exact zA | with_reducible refine zI ?_ ?_ | exact zB | exact zC | exact zD | exact zE | rfl | exact zN rfl | omega | assumption | (simp; done) | (simp [splice]; done) | (simp; omega) | (unfold fits; omega) | (unfold fits; simp_all; omega) | (simp_all; omega) | (simp_all; done) | intro _ | exact zI ?_ ?_ | intro _)))) (Imp.of_eq ?_)
    have : l ≠ m := fun e => by subst e; simp at h0
    simp [oneOf, this]
  have hl : l.length = m.length := by simp at h0; omega
  ((repeat refine S.seq ?_); refine S.region (L.go (T := tt) tt_ok rfl rfl ?sd160 ?_); (try (case sd160 => (repeat' ((first | first | exact trivial | exact zA | with_reducible refine zI ?_ ?_ | exact zB | exact zC | exact zD | exact zE | rfl | exact zN rfl | omega | assumption | (simp; done) | (simp [splice]; done) | (simp; omega) | (unfold fits; omega) | (unfold fits; simp_all; omega) | (simp_all; omega) | (simp_all; done) | intro _ | exact zI ?_ ?_ | intro _))))); try (refine L.nil ?_))
  refine S.block (S.loop (ι := { k : Nat // k ≤ l.length ∧ eqTo l m k = true })
    (fun k => [(13, .v (.int .i64 k.1)), (12, .v (.int .i64 l.length)), (1, .lst 2 m.length (gOf Arc.cells m)), (0, .lst 2 l.length (gOf Arc.cells l))]) (fun _ => []) (fun k => l.length - k.1) ?_ ?_)
  · exact fun a w h => ⟨⟨0, Nat.zero_le _, rfl⟩, h.weak (by (repeat' (first | exact True.intro | exact Imp.refl _ | refine ⟨?_, ?_⟩))) (List.Sublist.refl _)⟩
  rintro ⟨k, hk, hno⟩
  dsimp only
  ((repeat refine S.seq ?_); refine S.region (L.go (T := tt) tt_ok rfl rfl ?sd161 ?_); (try (case sd161 => (repeat' ((first | first | exact trivial | exact zA | with_reducible refine zI ?_ ?_ | exact zB | exact zC | exact zD | exact zE | rfl | exact zN rfl | omega | assumption | (simp; done) | (simp [splice]; done) | (simp; omega) | (unfold fits; omega) | (unfold fits; simp_all; omega) | (simp_all; omega) | (simp_all; done) | intro _ | exact zI ?_ ?_ | intro _))))); try (refine L.nil ?_))
  ((repeat refine S.seq ?_); refine S.cond rfl (fun h => ?_) (fun h => ?_) <;> (try first | refine S.skip ?_ | refine S.exit ?_))
  · have h := of_dec h
    repeat refine S.seq ?_
    refine S.block ?_
    ((repeat refine S.seq ?_); refine S.region (L.go (T := tt) tt_ok rfl rfl ?sd162 ?_); (try (case sd162 => (repeat' ((first | first | exact trivial | exact zA | with_reducible refine zI ?_ ?_ | exact zB | exact zC | exact zD | exact zE | rfl | exact zN rfl | omega | assumption | (simp; done) | (simp [splice]; done) | (simp; omega) | (unfold fits; omega) | (unfold fits; simp_all; omega) | (simp_all; omega) | (simp_all; done) | intro _ | exact zI ?_ ?_ | intro _))))); try (refine L.nil ?_))
    repeat refine S.seq ?_
    refine S.draw [] mixed ?_
    (refine H.ts (T := tt) [0, 1, 2, 3, 4, 5, 6, 7, 8] tt_ok (by kernel_rfl) (by kernel_rfl) (by kernel_rfl) (by intro ch a a' w h; obtain ⟨_, _, _, _, _, h, _⟩ := h; cases h) rfl ?sd166 ?_; (try (case sd166 => (repeat' ((first | first | exact trivial | exact zA | with_reducible refine zI ?_ ?_ | exact zB | exact zC | exact zD | exact zE | rfl | exact zN rfl | omega | assumption | (simp; done) | (simp [splice]; done) | (simp; omega) | (unfold fits; omega) | (unfold fits; simp_all; omega) | (simp_all; omega) | (simp_all; done) | intro _ | exact zI ?_ ?_ | intro _))))))
    refine H.done (by kernel_rfl) ?_
    ((repeat refine S.seq ?_); refine S.cond rfl (fun hb => ?_) (fun hb => ?_) <;> (try first | refine S.skip ?_ | refine S.exit ?_))
    · have he : (!decide (l.getD k default = m.getD k default)) = true := (congrArg _ (eqArc _ _).symm).trans hb
      ((repeat refine S.seq ?_); refine S.region (L.go (T := tt) tt_ok rfl rfl ?sd163 ?_); (try (case sd163 => (repeat' ((first | first | exact trivial | exact zA | with_reducible refine zI ?_ ?_ | exact zB | exact zC | exact zD | exact zE | rfl | exact zN rfl | omega | assumption | (simp; done) | (simp [splice]; done) | (simp; omega) | (unfold fits; omega) | (unfold fits; simp_all; omega) | (simp_all; omega) | (simp_all; done) | intro _ | exact zI ?_ ?_ | intro _))))); try (refine L.nil ?_))
      ((repeat refine S.seq ?_); refine S.ret ?_)
      refine E.retP (T := tt) tt_ok rfl rfl (by (repeat' ((first | first | exact trivial | exact zA | with_reducible refine zI ?_ ?_ | exact zB | exact zC | exact zD | exact zE | rfl | exact zN rfl | omega | assumption | (simp; done) | (simp [splice]; done) | (simp; omega) | (unfold fits; omega) | (unfold fits; simp_all; omega) | (simp_all; omega) | (simp_all; done) | intro _ | exact zI ?_ ?_ | intro _)))) (Imp.of_eq ?_)
      have : l ≠ m := fun e => by subst e; simp at he
      simp [oneOf, this]
    · have he : (!decide (l.getD k default = m.getD k default)) = false := (congrArg _ (eqArc _ _).symm).trans hb
      ((repeat refine S.seq ?_); refine S.region (L.go (T := tt) tt_ok rfl rfl ?sd164 ?_); (try (case sd164 => (repeat' ((first | first | exact trivial | exact zA | with_reducible refine zI ?_ ?_ | exact zB | exact zC | exact zD | exact zE | rfl | exact zN rfl | omega | assumption | (simp; done) | (simp [splice]; done) | (simp; omega) | (unfold fits; omega) | (unfold fits; simp_all; omega) | (simp_all; omega) | (simp_all; done) | intro _ | exact zI ?_ ?_ | intro _))))); try (refine L.nil ?_))
      exact fun a w hR => ⟨⟨k + 1, by omega, by rw [eqTo_succ, hno]; simpa using he⟩, by simp only; omega, hR.weak (by (repeat' (first | exact True.intro | exact Imp.refl _ | refine ⟨?_, ?_⟩))) (List.Sublist.refl _)⟩
  · have h := of_dec' h
    have hkn : k = l.length := by omega
    subst hkn
    ((repeat refine S.seq ?_); refine S.region (L.go (T := tt) tt_ok rfl rfl ?sd165 ?_); (try (case sd165 => (repeat' ((first | first | exact trivial | exact zA | with_reducible refine zI ?_ ?_ | exact zB | exact zC | exact zD | exact zE | rfl | exact zN rfl | omega | assumption | (simp; done) | (simp [splice]; done) | (simp; omega) | (unfold fits; omega) | (unfold fits; simp_all; omega) | (simp_all; omega) | (simp_all; done) | intro _ | exact zI ?_ ?_ | intro _))))); try (refine L.nil ?_))
    ((repeat refine S.seq ?_); refine S.ret ?_)
    refine E.retP (T := tt) tt_ok rfl rfl (by (repeat' ((first | first | exact trivial | exact zA | with_reducible refine zI ?_ ?_ | exact zB | exact zC | exact zD | exact zE | rfl | exact zN rfl | omega | assumption | (simp; done) | (simp [splice]; done) | (simp; omega) | (unfold fits; omega) | (unfold fits; simp_all; omega) | (simp_all; omega) | (simp_all; done) | intro _ | exact zI ?_ ?_ | intro _)))) (Imp.of_eq ?_)
    simp [oneOf, eqTo_eq hl hno]

end Go.Proofs.YtlgdjmmjconbfaaDoor

/- The same arcs. -/
namespace Go.Proofs.YtlgdjmmjconbfaaDoor
set_option linter.unusedVariables false
set_option linter.unusedSimpArgs false
set_option maxHeartbeats 8000000
open Go.RowKit
set_option maxRecDepth 4000

theorem ringsame_p (a b : List Arc) : PFn Tryd.prog 27 [arcs a, arcs b] (.v (.bool (decide (a = b)))) := by
  refine FnC.intro Tryd.func27 rfl Tryd.ntmps27 rfl ?_; intro off w0
  ((repeat refine S.seq ?_); refine S.region (L.go (T := tt) tt_ok rfl rfl ?sd167 ?_); (try (case sd167 => (repeat' ((first | first | exact trivial | exact zA | with_reducible refine zI ?_ ?_ | exact zB | exact zC | exact zD | exact zE | rfl | exact zN rfl | omega | assumption | (simp; done) | (simp [splice]; done) | (simp; omega) | (unfold fits; omega) | (unfold fits; simp_all; omega) | (simp_all; omega) | (simp_all; done) | intro _ | exact zI ?_ ?_ | intro _))))); try (refine L.nil ?_))
  ((repeat refine S.seq ?_); refine S.region (L.go (T := tt) tt_ok rfl rfl ?sd168 ?_); (try (case sd168 => (repeat' ((first | first | exact trivial | exact zA | with_reducible refine zI ?_ ?_ | exact zB | exact zC | exact zD | exact zE | rfl | exact zN rfl | omega | assumption | (simp; done) | (simp [splice]; done) | (simp; omega) | (unfold fits; omega) | (unfold fits; simp_all; omega) | (simp_all; omega) | (simp_all; done) | intro _ | exact zI ?_ ?_ | intro _))))); try (refine L.nil ?_))
  refine L.callP rfl rfl rfl rfl rfl rfl rfl ⟨trivial, by (repeat' ((first | first | exact trivial | exact zA | with_reducible refine zI ?_ ?_ | exact zB | exact zC | exact zD | exact zE | rfl | exact zN rfl | omega | assumption | (simp; done) | (simp [splice]; done) | (simp; omega) | (unfold fits; omega) | (unfold fits; simp_all; omega) | (simp_all; omega) | (simp_all; done) | intro _ | exact zI ?_ ?_ | intro _)))⟩ rfl (Imps.refl _) (EqArcs a b) ?_
  (refine L.go (T := tt) tt_ok rfl rfl ?sd177 ?_; (try (case sd177 => (repeat' ((first | first | exact trivial | exact zA | with_reducible refine zI ?_ ?_ | exact zB | exact zC | exact zD | exact zE | rfl | exact zN rfl | omega | assumption | (simp; done) | (simp [splice]; done) | (simp; omega) | (unfold fits; omega) | (unfold fits; simp_all; omega) | (simp_all; omega) | (simp_all; done) | intro _ | exact zI ?_ ?_ | intro _))))); try (refine L.nil ?_))
  (((repeat refine S.seq ?_); refine S.ret ?_); refine E.retP (T := tt) tt_ok rfl rfl (by (repeat' ((first | first | exact trivial | exact zA | with_reducible refine zI ?_ ?_ | exact zB | exact zC | exact zD | exact zE | rfl | exact zN rfl | omega | assumption | (simp; done) | (simp [splice]; done) | (simp; omega) | (unfold fits; omega) | (unfold fits; simp_all; omega) | (simp_all; omega) | (simp_all; done) | intro _ | exact zI ?_ ?_ | intro _)))) (Imp.of_eq ?_))
  rfl
theorem samearcs_p (a b : List Arc) : PFn Tryd.prog 15 [arcs a, arcs b] (.v (.bool (decide (a = b)))) := by
  refine FnC.intro Tryd.func15 rfl Tryd.ntmps15 rfl ?_; intro off w0
  refine lenAt (sz := 2) (n := a.length) (g := gOf Arc.cells a) 0 rfl fun hn => ?_
  ((repeat refine S.seq ?_); refine S.region (L.go (T := tt) tt_ok rfl rfl ?sd169 ?_); (try (case sd169 => (repeat' ((first | first | exact trivial | exact zA | with_reducible refine zI ?_ ?_ | exact zB | exact zC | exact zD | exact zE | rfl | exact zN rfl | omega | assumption | (simp; done) | (simp [splice]; done) | (simp; omega) | (unfold fits; omega) | (unfold fits; simp_all; omega) | (simp_all; omega) | (simp_all; done) | intro _ | exact zI ?_ ?_ | intro _))))); try (refine L.nil ?_))
  ((repeat refine S.seq ?_); refine S.region (L.go (T := tt) tt_ok rfl rfl ?sd170 ?_); (try (case sd170 => (repeat' ((first | first | exact trivial | exact zA | with_reducible refine zI ?_ ?_ | exact zB | exact zC | exact zD | exact zE | rfl | exact zN rfl | omega | assumption | (simp; done) | (simp [splice]; done) | (simp; omega) | (unfold fits; omega) | (unfold fits; simp_all; omega) | (simp_all; omega) | (simp_all; done) | intro _ | exact zI ?_ ?_ | intro _))))); try (refine L.nil ?_))
  ((repeat refine S.seq ?_); refine S.cond rfl (fun h1 => ?_) (fun h1 => ?_) <;> (try first | refine S.skip ?_ | refine S.exit ?_))
  · have h1 : a.length ≠ b.length := by simp at h1; omega
    ((repeat refine S.seq ?_); refine S.region (L.go (T := tt) tt_ok rfl rfl ?sd171 ?_); (try (case sd171 => (repeat' ((first | first | exact trivial | exact zA | with_reducible refine zI ?_ ?_ | exact zB | exact zC | exact zD | exact zE | rfl | exact zN rfl | omega | assumption | (simp; done) | (simp [splice]; done) | (simp; omega) | (unfold fits; omega) | (unfold fits; simp_all; omega) | (simp_all; omega) | (simp_all; done) | intro _ | exact zI ?_ ?_ | intro _))))); try (refine L.nil ?_))
    (((repeat refine S.seq ?_); refine S.ret ?_); refine E.retP (T := tt) tt_ok rfl rfl (by (repeat' ((first | first | exact trivial | exact zA | with_reducible refine zI ?_ ?_ | exact zB | exact zC | exact zD | exact zE | rfl | exact zN rfl | omega | assumption | (simp; done) | (simp [splice]; done) | (simp; omega) | (unfold fits; omega) | (unfold fits; simp_all; omega) | (simp_all; omega) | (simp_all; done) | intro _ | exact zI ?_ ?_ | intro _)))) (Imp.of_eq ?_))
    rw [decide_eq_false (fun e => h1 (by rw [e]))]
    rfl
  have h1 : a.length = b.length := by simp at h1; omega
  ((repeat refine S.seq ?_); refine S.region (L.go (T := tt) tt_ok rfl rfl ?sd172 ?_); (try (case sd172 => (repeat' ((first | first | exact trivial | exact zA | with_reducible refine zI ?_ ?_ | exact zB | exact zC | exact zD | exact zE | rfl | exact zN rfl | omega | assumption | (simp; done) | (simp [splice]; done) | (simp; omega) | (unfold fits; omega) | (unfold fits; simp_all; omega) | (simp_all; omega) | (simp_all; done) | intro _ | exact zI ?_ ?_ | intro _))))); try (refine L.nil ?_))
  repeat refine S.seq ?_
  refine S.block (S.loop (ι := { k : Nat // k ≤ a.length ∧ ∀ j, j < k → a.getD j default = b.getD j default }) (fun k => [(0, arcs a), (1, arcs b), (5, .v (.int .i64 k.1))]) (fun _ => []) (fun k => a.length - k.1) ?_ ?_)
  · exact fun a w h => ⟨⟨0, Nat.zero_le _, fun j hj => absurd hj (by omega)⟩, h.weakP (by (repeat' (first | exact True.intro | exact Imp.refl _ | refine ⟨?_, ?_⟩))) (by (repeat (first | exact Sub.refl _ | refine Sub.pick (by first | exact p0 | exact pS p0 | exact pS (pS p0) | exact pS (pS (pS p0)) | exact pS (pS (pS (pS p0))) | exact pS (pS (pS (pS (pS p0))))) ?_)))⟩
  rintro ⟨k, hk, ik⟩
  dsimp only
  ((repeat refine S.seq ?_); refine S.region (L.go (T := tt) tt_ok rfl rfl ?sd173 ?_); (try (case sd173 => (repeat' ((first | first | exact trivial | exact zA | with_reducible refine zI ?_ ?_ | exact zB | exact zC | exact zD | exact zE | rfl | exact zN rfl | omega | assumption | (simp; done) | (simp [splice]; done) | (simp; omega) | (unfold fits; omega) | (unfold fits; simp_all; omega) | (simp_all; omega) | (simp_all; done) | intro _ | exact zI ?_ ?_ | intro _))))); try (refine L.nil ?_))
  ((repeat refine S.seq ?_); refine S.cond rfl (fun h2 => ?_) (fun h2 => ?_) <;> (try first | refine S.skip ?_ | refine S.exit ?_))
  · have h2 : k < a.length := by have := of_dec h2; omega
    repeat refine S.seq ?_
    refine S.block ?_
    repeat refine S.seq ?_
    refine S.draw [] mixed ?_
    (refine H.ts (T := tt) [0, 1, 2, 3, 4, 5, 6, 7, 8] tt_ok (by kernel_rfl) (by kernel_rfl) (by kernel_rfl) (by intro ch a a' w h; obtain ⟨_, _, _, _, _, h, _⟩ := h; cases h) rfl ?sd178 ?_; (try (case sd178 => (repeat' ((first | first | exact trivial | exact zA | with_reducible refine zI ?_ ?_ | exact zB | exact zC | exact zD | exact zE | rfl | exact zN rfl | omega | assumption | (simp; done) | (simp [splice]; done) | (simp; omega) | (unfold fits; omega) | (unfold fits; simp_all; omega) | (simp_all; omega) | (simp_all; done) | intro _ | exact zI ?_ ?_ | intro _))))))
    refine H.done (by kernel_rfl) ?_
    ((repeat refine S.seq ?_); refine S.cond rfl (fun h3 => ?_) (fun h3 => ?_) <;> (try first | refine S.skip ?_ | refine S.exit ?_))
    · ((repeat refine S.seq ?_); refine S.region (L.go (T := tt) tt_ok rfl rfl ?sd174 ?_); (try (case sd174 => (repeat' ((first | first | exact trivial | exact zA | with_reducible refine zI ?_ ?_ | exact zB | exact zC | exact zD | exact zE | rfl | exact zN rfl | omega | assumption | (simp; done) | (simp [splice]; done) | (simp; omega) | (unfold fits; omega) | (unfold fits; simp_all; omega) | (simp_all; omega) | (simp_all; done) | intro _ | exact zI ?_ ?_ | intro _))))); try (refine L.nil ?_))
      (((repeat refine S.seq ?_); refine S.ret ?_); refine E.retP (T := tt) tt_ok rfl rfl (by (repeat' ((first | first | exact trivial | exact zA | with_reducible refine zI ?_ ?_ | exact zB | exact zC | exact zD | exact zE | rfl | exact zN rfl | omega | assumption | (simp; done) | (simp [splice]; done) | (simp; omega) | (unfold fits; omega) | (unfold fits; simp_all; omega) | (simp_all; omega) | (simp_all; done) | intro _ | exact zI ?_ ?_ | intro _)))) (Imp.of_eq ?_))
      rw [decide_eq_false (fun e => by rw [e] at h3; simp at h3)]
      rfl
    ((repeat refine S.seq ?_); refine S.region (L.go (T := tt) tt_ok rfl rfl ?sd175 ?_); (try (case sd175 => (repeat' ((first | first | exact trivial | exact zA | with_reducible refine zI ?_ ?_ | exact zB | exact zC | exact zD | exact zE | rfl | exact zN rfl | omega | assumption | (simp; done) | (simp [splice]; done) | (simp; omega) | (unfold fits; omega) | (unfold fits; simp_all; omega) | (simp_all; omega) | (simp_all; done) | intro _ | exact zI ?_ ?_ | intro _))))); try (refine L.nil ?_))
    exact fun a' w hR => ⟨⟨k + 1, h2, upto_succ ik (eqArc_of h3)⟩, by show a.length - (k + 1) < a.length - k; omega, hR.weakP (by (repeat' (first | exact True.intro | exact Imp.refl _ | refine ⟨?_, ?_⟩))) (by (repeat (first | exact Sub.refl _ | refine Sub.pick (by first | exact p0 | exact pS p0 | exact pS (pS p0) | exact pS (pS (pS p0)) | exact pS (pS (pS (pS p0))) | exact pS (pS (pS (pS (pS p0))))) ?_)))⟩
  have h2 : k = a.length := by have := of_dec' h2; omega
  ((repeat refine S.seq ?_); refine S.region (L.go (T := tt) tt_ok rfl rfl ?sd176 ?_); (try (case sd176 => (repeat' ((first | first | exact trivial | exact zA | with_reducible refine zI ?_ ?_ | exact zB | exact zC | exact zD | exact zE | rfl | exact zN rfl | omega | assumption | (simp; done) | (simp [splice]; done) | (simp; omega) | (unfold fits; omega) | (unfold fits; simp_all; omega) | (simp_all; omega) | (simp_all; done) | intro _ | exact zI ?_ ?_ | intro _))))); try (refine L.nil ?_))
  (((repeat refine S.seq ?_); refine S.ret ?_); refine E.retP (T := tt) tt_ok rfl rfl (by (repeat' ((first | first | exact trivial | exact zA | with_reducible refine zI ?_ ?_ | exact zB | exact zC | exact zD | exact zE | rfl | exact zN rfl | omega | assumption | (simp; done) | (simp [splice]; done) | (simp; omega) | (unfold fits; omega) | (unfold fits; simp_all; omega) | (simp_all; omega) | (simp_all; done) | intro _ | exact zI ?_ ?_ | intro _)))) (Imp.of_eq ?_))
  rw [decide_eq_true (List.ext_getElem h1 fun j g1 g2 => by
    have := ik j (by omega)
    rwa [getD_get g1, getD_get g2] at this)]
  rfl
end Go.Proofs.YtlgdjmmjconbfaaDoor

/- An arc put among others. -/
namespace Go.Proofs.YtlgdjmmjconbfaaDoor
set_option linter.unusedVariables false
set_option linter.unusedSimpArgs false
set_option maxHeartbeats 8000000
open Go.RowKit
set_option maxRecDepth 4000

def Arc.av (a : Arc) : AV := .agg a.cells
def putA : List Arc → Arc → List Arc
  | [], x => [x]
  | b :: t, x => if b.at0 < x.at0 then b :: putA t x else if b.at0 = x.at0 then b :: t else x :: b :: t
theorem putA_at : ∀ {l : List Arc} {x : Arc} {k : Nat}, k ≤ l.length → (∀ j, j < k → (l.getD j default).at0 < x.at0) → (k < l.length → ¬ (l.getD k default).at0 < x.at0) → putA l x = if k < l.length ∧ (l.getD k default).at0 = x.at0 then l else l.take k ++ ([x] ++ l.drop k)
  | [], x, k, hk, _, _ => by
    obtain rfl : k = 0 := by simpa using hk
    rfl
  | b :: t, x, 0, _, _, h => by
    have h0 : ¬ b.at0 < x.at0 := h (by simp)
    rw [putA, if_neg h0]
    by_cases e : b.at0 = x.at0
    · rw [if_pos e, if_pos ⟨by simp, e⟩]
    · rw [if_neg e, if_neg fun h => e h.2]
      rfl
  | b :: t, x, k + 1, hk, hj, h => by
    have h0 : b.at0 < x.at0 := hj 0 (by omega)
    have ih := putA_at (l := t) (x := x) (k := k) (by simpa using hk) (fun j hjk => hj (j + 1) (by omega)) fun hk' => h (by simpa using hk')
    rw [putA, if_pos h0, ih]
    have e : (b :: t).getD (k + 1) default = t.getD k default := rfl
    rw [e]
    by_cases hc : k < t.length ∧ (t.getD k default).at0 = x.at0
    · rw [if_pos hc, if_pos ⟨by simpa using hc.1, hc.2⟩]
    · rw [if_neg hc, if_neg fun h' => hc ⟨by simpa using h'.1, h'.2⟩]
      rfl
theorem put_g (l : List Arc) (x : Arc) {k : Nat} (hk : k ≤ l.length) (g0 h1 h2 : Nat → List AV) (hx : h1 0 = x.cells) (hh : ∀ i, i < l.length - k → h2 i = gOf Arc.cells l (i + k)) {i : Nat} (hi : i < l.length + 1) :
    joinG (0 + k + 1) (joinG (0 + k) (joinG 0 g0 (gOf Arc.cells l)) h1) h2 i = gOf Arc.cells (l.take k ++ ([x] ++ l.drop k)) i := by
  have hl : (l.take k).length = k := by rw [List.length_take]; omega
  have e : ∀ (q : List Arc) (i : Nat), gOf Arc.cells q i = (q[i]?.getD default).cells := fun q i => by rw [gOf, List.getD_eq_getElem?_getD]
  unfold joinG
  rw [e (l.take k ++ ([x] ++ l.drop k))]
  by_cases h3 : i < k
  · rw [if_pos (by omega), if_pos (by omega), if_neg (by omega), List.getElem?_append_left (by omega), List.getElem?_take_of_lt h3, e]
    rfl
  · by_cases h4 : i = k
    · subst h4
      rw [if_pos (by omega), if_neg (by omega), show i - (0 + i) = 0 by omega, hx, List.getElem?_append_right (by omega), hl, Nat.sub_self]
      rfl
    · rw [if_neg (by omega), hh _ (by omega), List.getElem?_append_right (by omega), hl, List.getElem?_append_right (by simp; omega), List.getElem?_drop, e]
      rw [show i - (0 + k + 1) + k = k + (i - k - [x].length) by simp; omega]

theorem put_p (l : List Arc) (x : Arc) (hl : l.length ≤ 100000) : PFn Tryd.prog 46 [arcs l, x.av] (arcs (putA l x)) := by
  refine FnC.intro Tryd.func46 rfl Tryd.ntmps46 rfl ?_; intro off w0
  repeat refine S.seq ?_
  refine S.region ?_
  refine L.box 3 rfl rfl rfl rfl rfl trivial rfl fun b3 => ?_
  (refine L.go (T := tt) tt_ok rfl rfl ?sd182 ?_; (try (case sd182 => (repeat' ((first | first | exact trivial | exact zA | with_reducible refine zI ?_ ?_ | exact zB | exact zC | exact zD | exact zE | rfl | exact zN rfl | omega | assumption | (simp; done) | (simp [splice]; done) | (simp; omega) | (unfold fits; omega) | (unfold fits; simp_all; omega) | (simp_all; omega) | (simp_all; done) | intro _ | exact zI ?_ ?_ | intro _))))); try (refine L.nil ?_))
  ((repeat refine S.seq ?_); refine S.region (L.go (T := tt) tt_ok rfl rfl ?sd179 ?_); (try (case sd179 => (repeat' ((first | first | exact trivial | exact zA | with_reducible refine zI ?_ ?_ | exact zB | exact zC | exact zD | exact zE | rfl | exact zN rfl | omega | assumption | (simp; done) | (simp [splice]; done) | (simp; omega) | (unfold fits; omega) | (unfold fits; simp_all; omega) | (simp_all; omega) | (simp_all; done) | intro _ | exact zI ?_ ?_ | intro _))))); try (refine L.nil ?_))
  repeat refine S.seq ?_
  refine S.cut (ι := { k : Nat // k ≤ l.length ∧ (∀ j, j < k → (l.getD j default).at0 < x.at0) ∧ (k < l.length → ¬ (l.getD k default).at0 < x.at0) }) (fun k => [(0, arcs l), (3, .ptr 3 b3 0), (5, .v (.int .i64 k.1))]) (fun _ => [(3, .blk b3 38 x.cells)]) ?_ ?_
  · refine S.block (S.loop (ι := { k : Nat // k ≤ l.length ∧ ∀ j, j < k → (l.getD j default).at0 < x.at0 }) (fun k => [(0, arcs l), (3, .ptr 3 b3 0), (5, .v (.int .i64 k.1))]) (fun _ => [(3, .blk b3 38 x.cells)]) (fun k => l.length - k.1) ?_ ?_)
    · exact fun a w h => ⟨⟨0, Nat.zero_le _, fun j hj => absurd hj (by omega)⟩, h.weakP (by (repeat' (first | exact True.intro | exact Imp.refl _ | refine ⟨?_, ?_⟩))) (by (repeat (first | exact Sub.refl _ | refine Sub.pick (by first | exact p0 | exact pS p0 | exact pS (pS p0) | exact pS (pS (pS p0)) | exact pS (pS (pS (pS p0))) | exact pS (pS (pS (pS (pS p0))))) ?_)))⟩
    rintro ⟨k, hk, ik⟩
    dsimp only
    repeat refine S.seq ?_
    refine S.draw [(11, [3])] mixed ?_
    (refine H.ts (T := tt) [0, 1, 2, 3, 4, 5, 6, 7, 8, 9, 10, 11, 12, 13] tt_ok (by kernel_rfl) (by kernel_rfl) (by kernel_rfl) (by intro ch a a' w h; obtain ⟨_, _, _, _, _, h, _⟩ := h; cases h) rfl ?sd185 ?_; (try (case sd185 => (repeat' ((first | first | exact trivial | exact zA | with_reducible refine zI ?_ ?_ | exact zB | exact zC | exact zD | exact zE | rfl | exact zN rfl | omega | assumption | (simp; done) | (simp [splice]; done) | (simp; omega) | (unfold fits; omega) | (unfold fits; simp_all; omega) | (simp_all; omega) | (simp_all; done) | intro _ | exact zI ?_ ?_ | intro _))))))
    refine H.done (by kernel_rfl) ?_
    ((repeat refine S.seq ?_); refine S.cond rfl (fun h1 => ?_) (fun h1 => ?_) <;> (try first | refine S.skip ?_ | refine S.exit ?_))
    · have h1 : k < l.length ∧ (l.getD k default).at0 < x.at0 := by
        simp only [Bool.and_eq_true, decide_eq_true_eq] at h1
        exact ⟨by omega, h1.2⟩
      repeat refine S.seq ?_
      refine S.block ?_
      ((repeat refine S.seq ?_); refine S.region (L.go (T := tt) tt_ok rfl rfl ?sd180 ?_); (try (case sd180 => (repeat' ((first | first | exact trivial | exact zA | with_reducible refine zI ?_ ?_ | exact zB | exact zC | exact zD | exact zE | rfl | exact zN rfl | omega | assumption | (simp; done) | (simp [splice]; done) | (simp; omega) | (unfold fits; omega) | (unfold fits; simp_all; omega) | (simp_all; omega) | (simp_all; done) | intro _ | exact zI ?_ ?_ | intro _))))); try (refine L.nil ?_))
      exact fun a w hR => ⟨⟨k + 1, h1.1, upto_succ ik h1.2⟩, by show l.length - (k + 1) < l.length - k; omega, hR.weakP (by (repeat' (first | exact True.intro | exact Imp.refl _ | refine ⟨?_, ?_⟩))) (by (repeat (first | exact Sub.refl _ | refine Sub.pick (by first | exact p0 | exact pS p0 | exact pS (pS p0) | exact pS (pS (pS p0)) | exact pS (pS (pS (pS p0))) | exact pS (pS (pS (pS (pS p0))))) ?_)))⟩
    refine fun a w hR => ⟨⟨k, hk, ik, fun hkl hlt => ?_⟩, hR.weakP (by (repeat' (first | exact True.intro | exact Imp.refl _ | refine ⟨?_, ?_⟩))) (by (repeat (first | exact Sub.refl _ | refine Sub.pick (by first | exact p0 | exact pS p0 | exact pS (pS p0) | exact pS (pS (pS p0)) | exact pS (pS (pS (pS p0))) | exact pS (pS (pS (pS (pS p0))))) ?_)))⟩
    have hlt : (l.getD (k : Int).toNat default).at0 < x.at0 := hlt
    rw [Bool.and_eq_false_iff] at h1
    rcases h1 with h1 | h1
    · exact absurd (show (k : Int) < l.length by omega) (of_dec' h1)
    · exact absurd hlt (of_dec' h1)
  rintro ⟨k, hk, ik, hn⟩
  dsimp only
  have hput := putA_at hk ik hn
  repeat refine S.seq ?_
  refine S.draw [(11, [3])] mixed ?_
  (refine H.ts (T := tt) [0, 1, 2, 3, 4, 5, 6, 7, 8, 9, 10, 11, 12, 13] tt_ok (by kernel_rfl) (by kernel_rfl) (by kernel_rfl) (by intro ch a a' w h; obtain ⟨_, _, _, _, _, h, _⟩ := h; cases h) rfl ?sd186 ?_; (try (case sd186 => (repeat' ((first | first | exact trivial | exact zA | with_reducible refine zI ?_ ?_ | exact zB | exact zC | exact zD | exact zE | rfl | exact zN rfl | omega | assumption | (simp; done) | (simp [splice]; done) | (simp; omega) | (unfold fits; omega) | (unfold fits; simp_all; omega) | (simp_all; omega) | (simp_all; done) | intro _ | exact zI ?_ ?_ | intro _))))))
  refine H.done (by kernel_rfl) ?_
  ((repeat refine S.seq ?_); refine S.cond rfl (fun h1 => ?_) (fun h1 => ?_) <;> (try first | refine S.skip ?_ | refine S.exit ?_))
  · have h1 : k < l.length ∧ (l.getD k default).at0 = x.at0 := by
      simp only [Bool.and_eq_true, decide_eq_true_eq, beq_iff_eq] at h1
      exact ⟨by omega, h1.2⟩
    rw [hput, if_pos h1]
    ((repeat refine S.seq ?_); refine S.region (L.go (T := tt) tt_ok rfl rfl ?sd181 ?_); (try (case sd181 => (repeat' ((first | first | exact trivial | exact zA | with_reducible refine zI ?_ ?_ | exact zB | exact zC | exact zD | exact zE | rfl | exact zN rfl | omega | assumption | (simp; done) | (simp [splice]; done) | (simp; omega) | (unfold fits; omega) | (unfold fits; simp_all; omega) | (simp_all; omega) | (simp_all; done) | intro _ | exact zI ?_ ?_ | intro _))))); try (refine L.nil ?_))
    (((repeat refine S.seq ?_); refine S.ret ?_); refine E.retP (T := tt) tt_ok rfl rfl (by (repeat' ((first | first | exact trivial | exact zA | with_reducible refine zI ?_ ?_ | exact zB | exact zC | exact zD | exact zE | rfl | exact zN rfl | omega | assumption | (simp; done) | (simp [splice]; done) | (simp; omega) | (unfold fits; omega) | (unfold fits; simp_all; omega) | (simp_all; omega) | (simp_all; done) | intro _ | exact zI ?_ ?_ | intro _)))) (Imp.of_eq ?_))
    rfl
  have h1' : ¬ (k < l.length ∧ (l.getD k default).at0 = x.at0) := by
    rintro ⟨g1, g2⟩
    have g2 : (l.getD (k : Int).toNat default).at0 = x.at0 := g2
    rw [decide_eq_true (show (k : Int) < l.length by omega), g2] at h1
    simp at h1
  rw [hput, if_neg h1']
  repeat refine S.seq ?_
  refine S.region ?_
  refine L.buildSlice (T := tt) 31 tt_ok rfl rfl rfl rfl rfl rfl (by decide) (by decide) rfl rfl (by (repeat' ((first | first | exact trivial | exact zA | with_reducible refine zI ?_ ?_ | exact zB | exact zC | exact zD | exact zE | rfl | exact zN rfl | omega | assumption | (simp; done) | (simp [splice]; done) | (simp; omega) | (unfold fits; omega) | (unfold fits; simp_all; omega) | (simp_all; omega) | (simp_all; done) | intro _ | exact zI ?_ ?_ | intro _)))) fun x31 => ?_
  (refine L.go (T := tt) tt_ok rfl rfl ?sd183 ?_; (try (case sd183 => (repeat' ((first | first | exact trivial | exact zA | with_reducible refine zI ?_ ?_ | exact zB | exact zC | exact zD | exact zE | rfl | exact zN rfl | omega | assumption | (simp; done) | (simp [splice]; done) | (simp; omega) | (unfold fits; omega) | (unfold fits; simp_all; omega) | (simp_all; omega) | (simp_all; done) | intro _ | exact zI ?_ ?_ | intro _))))); try (refine L.nil ?_))
  refine L.append (T := tt) tt_ok rfl rfl rfl rfl rfl rfl rfl rfl rfl rfl (by (repeat' ((first | first | exact trivial | exact zA | with_reducible refine zI ?_ ?_ | exact zB | exact zC | exact zD | exact zE | rfl | exact zN rfl | omega | assumption | (simp; done) | (simp [splice]; done) | (simp; omega) | (unfold fits; omega) | (unfold fits; simp_all; omega) | (simp_all; omega) | (simp_all; done) | intro _ | exact zI ?_ ?_ | intro _)))) ⟨rfl, by decide, by decide⟩ (by simp; omega) fun y31 => ?_
  (refine L.go (T := tt) tt_ok rfl rfl ?sd184 ?_; (try (case sd184 => (repeat' ((first | first | exact trivial | exact zA | with_reducible refine zI ?_ ?_ | exact zB | exact zC | exact zD | exact zE | rfl | exact zN rfl | omega | assumption | (simp; done) | (simp [splice]; done) | (simp; omega) | (unfold fits; omega) | (unfold fits; simp_all; omega) | (simp_all; omega) | (simp_all; done) | intro _ | exact zI ?_ ?_ | intro _))))); try (refine L.nil ?_))
  repeat refine S.seq ?_
  refine S.draw [(1, [3])] mixed ?_
  (refine H.ts (T := tt) [0, 1, 4, 5, 6] tt_ok (by kernel_rfl) (by kernel_rfl) (by kernel_rfl) (by intro ch a a' w h; obtain ⟨_, _, _, _, _, h, _⟩ := h; cases h) rfl ?sd187 ?_; (try (case sd187 => (repeat' ((first | first | exact trivial | exact zA | with_reducible refine zI ?_ ?_ | exact zB | exact zC | exact zD | exact zE | rfl | exact zN rfl | omega | assumption | (simp; done) | (simp [splice]; done) | (simp; omega) | (unfold fits; omega) | (unfold fits; simp_all; omega) | (simp_all; omega) | (simp_all; done) | intro _ | exact zI ?_ ?_ | intro _))))))
  refine H.o1 2 rfl (by kernel_rfl) (by kernel_rfl) (O.buildSlice (T := tt) 32 tt_ok rfl rfl rfl rfl rfl rfl (by decide) (by decide) rfl rfl (by (repeat' ((first | first | exact trivial | exact zA | with_reducible refine zI ?_ ?_ | exact zB | exact zC | exact zD | exact zE | rfl | exact zN rfl | omega | assumption | (simp; done) | (simp [splice]; done) | (simp; omega) | (unfold fits; omega) | (unfold fits; simp_all; omega) | (simp_all; omega) | (simp_all; done) | intro _ | exact zI ?_ ?_ | intro _))))) (.inr rfl) rfl fun x32' => ?_
  refine H.o1 3 rfl (by kernel_rfl) (by kernel_rfl) (O.append (T := tt) tt_ok rfl rfl rfl rfl rfl rfl rfl rfl rfl rfl (by (repeat' ((first | first | exact trivial | exact zA | with_reducible refine zI ?_ ?_ | exact zB | exact zC | exact zD | exact zE | rfl | exact zN rfl | omega | assumption | (simp; done) | (simp [splice]; done) | (simp; omega) | (unfold fits; omega) | (unfold fits; simp_all; omega) | (simp_all; omega) | (simp_all; done) | intro _ | exact zI ?_ ?_ | intro _)))) ⟨rfl, by decide, by decide⟩ (by simp; omega)) (.inl (by kernel_rfl)) (by kernel_rfl) fun y32 => ?_
  refine H.o1 7 rfl (by kernel_rfl) (by kernel_rfl) (O.append (T := tt) tt_ok rfl rfl rfl rfl rfl rfl rfl rfl rfl rfl (by (repeat' ((first | first | exact trivial | exact zA | with_reducible refine zI ?_ ?_ | exact zB | exact zC | exact zD | exact zE | rfl | exact zN rfl | omega | assumption | (simp; done) | (simp [splice]; done) | (simp; omega) | (unfold fits; omega) | (unfold fits; simp_all; omega) | (simp_all; omega) | (simp_all; done) | intro _ | exact zI ?_ ?_ | intro _)))) ⟨rfl, by decide, by decide⟩ (by simp; omega)) (.inl (by kernel_rfl)) (by kernel_rfl) fun y33 => ?_
  (refine H.ts (T := tt) [8] tt_ok (by kernel_rfl) (by kernel_rfl) (by kernel_rfl) (by intro ch a a' w h; obtain ⟨_, _, _, _, _, h, _⟩ := h; cases h) rfl ?sd188 ?_; (try (case sd188 => (repeat' ((first | first | exact trivial | exact zA | with_reducible refine zI ?_ ?_ | exact zB | exact zC | exact zD | exact zE | rfl | exact zN rfl | omega | assumption | (simp; done) | (simp [splice]; done) | (simp; omega) | (unfold fits; omega) | (unfold fits; simp_all; omega) | (simp_all; omega) | (simp_all; done) | intro _ | exact zI ?_ ?_ | intro _))))))
  refine H.done (by kernel_rfl) ?_
  refine freezeSlot 4 31 rfl rfl rfl (slotAs 4 (arcs (l.take k ++ ([x] ++ l.drop k))) rfl (Imp.lst (by simp; omega) fun i hi => put_g l x hk _ _ _ rfl (fun j hj => rfl) (by omega)) ?_)
  ((repeat refine S.seq ?_); refine S.ret ?_)
  exact E.retP (T := tt) tt_ok rfl rfl (by (repeat' ((first | first | exact trivial | exact zA | with_reducible refine zI ?_ ?_ | exact zB | exact zC | exact zD | exact zE | rfl | exact zN rfl | omega | assumption | (simp; done) | (simp [splice]; done) | (simp; omega) | (unfold fits; omega) | (unfold fits; simp_all; omega) | (simp_all; omega) | (simp_all; done) | intro _ | exact zI ?_ ?_ | intro _)))) (Imp.refl _)
end Go.Proofs.YtlgdjmmjconbfaaDoor

/- Halving at the reference. -/
namespace Go.Proofs.YtlgdjmmjconbfaaDoor
set_option linter.unusedVariables false
set_option linter.unusedSimpArgs false
set_option maxHeartbeats 8000000
open Go.RowKit
set_option maxRecDepth 4000

def putTo (l : List Arc) (s o : Int) : Nat → List Arc
  | 0 => l
  | k + 1 => (exE l s o k).foldl putA (putTo l s o k)
theorem putA_len : ∀ (l : List Arc) (x : Arc), (putA l x).length ≤ l.length + 1
  | [], _ => by simp [putA]
  | b :: t, x => by
    have ih := putA_len t x
    rw [putA]
    split
    · simp only [List.length_cons]; omega
    · split <;> simp only [List.length_cons] <;> omega
theorem putTo_len (l : List Arc) (s o : Int) : ∀ k, (putTo l s o k).length ≤ l.length + k
  | 0 => by simp [putTo]
  | k + 1 => by
    have ih := putTo_len l s o k
    rw [putTo, exE]
    split
    · have := putA_len (putTo l s o k) ⟨((l.getD k default).at0 + widA l k / 2) % 4294967296, o⟩
      rw [List.foldl_cons, List.foldl_nil]
      omega
    · rw [List.foldl_nil]; omega
def halveR (l : List Arc) (s o : Int) : List Arc := if (!mayA l || decide (o < 0) || decide (o ≥ 16)) = true then [] else putTo l s o l.length
theorem u32_id {z : Int} (h0 : 0 ≤ z) (h1 : z < 4294967296) : IntKind.u32.wrap z = z := by
  have e : IntKind.u32.wrap z = z % 4294967296 := rfl
  omega
theorem widthA_in {l : List Arc} {k : Nat} (hm : mayA l = true) (hk : k < l.length) : widthA l k = widA l k := by
  rw [widthA, if_neg (by
    rw [hm, decide_eq_false (show ¬ (k : Int) < 0 by omega), decide_eq_false (show ¬ (k : Int) ≥ l.length by omega)]
    decide)]
  rfl

theorem rhalve_p (l : List Arc) (s o : Int) (hl : l.length ≤ 500) : PFn Tryd.prog 26 [arcs l, .v (.int .i64 s), .v (.int .i64 o)] (arcs (halveR l s o)) := by
  refine FnC.intro Tryd.func26 rfl Tryd.ntmps26 rfl ?_; intro off w0
  ((repeat refine S.seq ?_); refine S.region (L.go (T := tt) tt_ok rfl rfl ?sd189 ?_); (try (case sd189 => (repeat' ((first | first | exact trivial | exact zA | with_reducible refine zI ?_ ?_ | exact zB | exact zC | exact zD | exact zE | rfl | exact zN rfl | omega | assumption | (simp; done) | (simp [splice]; done) | (simp; omega) | (unfold fits; omega) | (unfold fits; simp_all; omega) | (simp_all; omega) | (simp_all; done) | intro _ | exact zI ?_ ?_ | intro _))))); try (refine L.nil ?_))
  ((repeat refine S.seq ?_); refine S.region (L.go (T := tt) tt_ok rfl rfl ?sd190 ?_); (try (case sd190 => (repeat' ((first | first | exact trivial | exact zA | with_reducible refine zI ?_ ?_ | exact zB | exact zC | exact zD | exact zE | rfl | exact zN rfl | omega | assumption | (simp; done) | (simp [splice]; done) | (simp; omega) | (unfold fits; omega) | (unfold fits; simp_all; omega) | (simp_all; omega) | (simp_all; done) | intro _ | exact zI ?_ ?_ | intro _))))); try (refine L.nil ?_))
  refine L.callP rfl rfl rfl rfl rfl rfl rfl ⟨trivial, by (repeat' ((first | first | exact trivial | exact zA | with_reducible refine zI ?_ ?_ | exact zB | exact zC | exact zD | exact zE | rfl | exact zN rfl | omega | assumption | (simp; done) | (simp [splice]; done) | (simp; omega) | (unfold fits; omega) | (unfold fits; simp_all; omega) | (simp_all; omega) | (simp_all; done) | intro _ | exact zI ?_ ?_ | intro _)))⟩ rfl (Imps.refl _) (rmayarcs_p l) ?_
  (refine L.go (T := tt) tt_ok rfl rfl ?sd201 ?_; (try (case sd201 => (repeat' ((first | first | exact trivial | exact zA | with_reducible refine zI ?_ ?_ | exact zB | exact zC | exact zD | exact zE | rfl | exact zN rfl | omega | assumption | (simp; done) | (simp [splice]; done) | (simp; omega) | (unfold fits; omega) | (unfold fits; simp_all; omega) | (simp_all; omega) | (simp_all; done) | intro _ | exact zI ?_ ?_ | intro _))))); try (refine L.nil ?_))
  ((repeat refine S.seq ?_); refine S.cond rfl (fun h1 => ?_) (fun h1 => ?_) <;> (try first | refine S.skip ?_ | refine S.exit ?_))
  · ((repeat refine S.seq ?_); refine S.region (L.go (T := tt) tt_ok rfl rfl ?sd191 ?_); (try (case sd191 => (repeat' ((first | first | exact trivial | exact zA | with_reducible refine zI ?_ ?_ | exact zB | exact zC | exact zD | exact zE | rfl | exact zN rfl | omega | assumption | (simp; done) | (simp [splice]; done) | (simp; omega) | (unfold fits; omega) | (unfold fits; simp_all; omega) | (simp_all; omega) | (simp_all; done) | intro _ | exact zI ?_ ?_ | intro _))))); try (refine L.nil ?_))
    ((repeat refine S.seq ?_); refine S.ret ?_)
    refine E.retP (T := tt) tt_ok rfl rfl (by (repeat' ((first | first | exact trivial | exact zA | with_reducible refine zI ?_ ?_ | exact zB | exact zC | exact zD | exact zE | rfl | exact zN rfl | omega | assumption | (simp; done) | (simp [splice]; done) | (simp; omega) | (unfold fits; omega) | (unfold fits; simp_all; omega) | (simp_all; omega) | (simp_all; done) | intro _ | exact zI ?_ ?_ | intro _)))) ?_
    rw [halveR, if_pos h1]
    exact Imp.nil _ _
  have h2 : mayA l = true := by
    simp only [Bool.or_eq_false_iff, Bool.not_eq_false'] at h1
    exact h1.1.1
  rw [halveR, if_neg (by rw [h1]; decide)]
  repeat refine S.seq ?_
  refine S.region ?_
  refine L.buildSlice (T := tt) 31 tt_ok rfl rfl rfl rfl rfl rfl (by decide) (by decide) rfl rfl (by (repeat' ((first | first | exact trivial | exact zA | with_reducible refine zI ?_ ?_ | exact zB | exact zC | exact zD | exact zE | rfl | exact zN rfl | omega | assumption | (simp; done) | (simp [splice]; done) | (simp; omega) | (unfold fits; omega) | (unfold fits; simp_all; omega) | (simp_all; omega) | (simp_all; done) | intro _ | exact zI ?_ ?_ | intro _)))) fun x31 => ?_
  (refine L.go (T := tt) tt_ok rfl rfl ?sd202 ?_; (try (case sd202 => (repeat' ((first | first | exact trivial | exact zA | with_reducible refine zI ?_ ?_ | exact zB | exact zC | exact zD | exact zE | rfl | exact zN rfl | omega | assumption | (simp; done) | (simp [splice]; done) | (simp; omega) | (unfold fits; omega) | (unfold fits; simp_all; omega) | (simp_all; omega) | (simp_all; done) | intro _ | exact zI ?_ ?_ | intro _))))); try (refine L.nil ?_))
  refine L.append (T := tt) tt_ok rfl rfl rfl rfl rfl rfl rfl rfl rfl rfl (by (repeat' ((first | first | exact trivial | exact zA | with_reducible refine zI ?_ ?_ | exact zB | exact zC | exact zD | exact zE | rfl | exact zN rfl | omega | assumption | (simp; done) | (simp [splice]; done) | (simp; omega) | (unfold fits; omega) | (unfold fits; simp_all; omega) | (simp_all; omega) | (simp_all; done) | intro _ | exact zI ?_ ?_ | intro _)))) ⟨rfl, by decide, by decide⟩ (by simp; omega) fun y31 => ?_
  (refine L.go (T := tt) tt_ok rfl rfl ?sd203 ?_; (try (case sd203 => (repeat' ((first | first | exact trivial | exact zA | with_reducible refine zI ?_ ?_ | exact zB | exact zC | exact zD | exact zE | rfl | exact zN rfl | omega | assumption | (simp; done) | (simp [splice]; done) | (simp; omega) | (unfold fits; omega) | (unfold fits; simp_all; omega) | (simp_all; omega) | (simp_all; done) | intro _ | exact zI ?_ ?_ | intro _))))); try (refine L.nil ?_))
  refine freezeSlot 7 31 rfl rfl rfl (slotAs 7 (arcs (putTo l s o 0)) rfl (Imp.lst (by show 0 + l.length = l.length; omega) fun i hi => by show joinG 0 _ (gOf Arc.cells l) i = gOf Arc.cells l i; unfold joinG; rw [if_neg (by omega)]; rfl) ?_)
  ((repeat refine S.seq ?_); refine S.region (L.go (T := tt) tt_ok rfl rfl ?sd192 ?_); (try (case sd192 => (repeat' ((first | first | exact trivial | exact zA | with_reducible refine zI ?_ ?_ | exact zB | exact zC | exact zD | exact zE | rfl | exact zN rfl | omega | assumption | (simp; done) | (simp [splice]; done) | (simp; omega) | (unfold fits; omega) | (unfold fits; simp_all; omega) | (simp_all; omega) | (simp_all; done) | intro _ | exact zI ?_ ?_ | intro _))))); try (refine L.nil ?_))
  repeat refine S.seq ?_
  refine S.cut (ι := Unit) (fun _ => [(7, arcs (putTo l s o l.length))]) (fun _ => []) ?_ ?_
  · refine S.block (S.loop (ι := { k : Nat // k ≤ l.length }) (fun k => [(0, arcs l), (1, .v (.int .i64 s)), (2, .v (.int .i64 o)), (7, arcs (putTo l s o k.1)), (8, .v (.int .i64 k.1))]) (fun _ => []) (fun k => l.length - k.1) ?_ ?_)
    · exact fun a w h => ⟨⟨0, Nat.zero_le _⟩, h.weakP (by (repeat' (first | exact True.intro | exact Imp.refl _ | refine ⟨?_, ?_⟩))) (by (repeat (first | exact Sub.refl _ | refine Sub.pick (by first | exact p0 | exact pS p0 | exact pS (pS p0) | exact pS (pS (pS p0)) | exact pS (pS (pS (pS p0))) | exact pS (pS (pS (pS (pS p0))))) ?_)))⟩
    rintro ⟨k, hk⟩
    dsimp only
    ((repeat refine S.seq ?_); refine S.region (L.go (T := tt) tt_ok rfl rfl ?sd193 ?_); (try (case sd193 => (repeat' ((first | first | exact trivial | exact zA | with_reducible refine zI ?_ ?_ | exact zB | exact zC | exact zD | exact zE | rfl | exact zN rfl | omega | assumption | (simp; done) | (simp [splice]; done) | (simp; omega) | (unfold fits; omega) | (unfold fits; simp_all; omega) | (simp_all; omega) | (simp_all; done) | intro _ | exact zI ?_ ?_ | intro _))))); try (refine L.nil ?_))
    ((repeat refine S.seq ?_); refine S.cond rfl (fun hc => ?_) (fun hc => ?_) <;> (try first | refine S.skip ?_ | refine S.exit ?_))
    · have hk' : k < l.length := by have := of_dec hc; omega
      have hw := widA_le l k
      have hpl := putTo_len l s o k
      repeat refine S.seq ?_
      refine S.block ?_
      ((repeat refine S.seq ?_); refine S.region (L.go (T := tt) tt_ok rfl rfl ?sd194 ?_); (try (case sd194 => (repeat' ((first | first | exact trivial | exact zA | with_reducible refine zI ?_ ?_ | exact zB | exact zC | exact zD | exact zE | rfl | exact zN rfl | omega | assumption | (simp; done) | (simp [splice]; done) | (simp; omega) | (unfold fits; omega) | (unfold fits; simp_all; omega) | (simp_all; omega) | (simp_all; done) | intro _ | exact zI ?_ ?_ | intro _))))); try (refine L.nil ?_))
      refine L.callP rfl rfl rfl rfl rfl rfl rfl ⟨trivial, by (repeat' ((first | first | exact trivial | exact zA | with_reducible refine zI ?_ ?_ | exact zB | exact zC | exact zD | exact zE | rfl | exact zN rfl | omega | assumption | (simp; done) | (simp [splice]; done) | (simp; omega) | (unfold fits; omega) | (unfold fits; simp_all; omega) | (simp_all; omega) | (simp_all; done) | intro _ | exact zI ?_ ?_ | intro _)))⟩ rfl (Imps.refl _) (rwidth_p l k) ?_
      rw [widthA_in h2 hk']
      (refine L.go (T := tt) tt_ok rfl rfl ?sd204 ?_; (try (case sd204 => (repeat' ((first | first | exact trivial | exact zA | with_reducible refine zI ?_ ?_ | exact zB | exact zC | exact zD | exact zE | rfl | exact zN rfl | omega | assumption | (simp; done) | (simp [splice]; done) | (simp; omega) | (unfold fits; omega) | (unfold fits; simp_all; omega) | (simp_all; omega) | (simp_all; done) | intro _ | exact zI ?_ ?_ | intro _))))); try (refine L.nil ?_))
      ((repeat refine S.seq ?_); refine S.region (L.go (T := tt) tt_ok rfl rfl ?sd195 ?_); (try (case sd195 => (repeat' ((first | first | exact trivial | exact zA | with_reducible refine zI ?_ ?_ | exact zB | exact zC | exact zD | exact zE | rfl | exact zN rfl | omega | assumption | (simp; done) | (simp [splice]; done) | (simp; omega) | (unfold fits; omega) | (unfold fits; simp_all; omega) | (simp_all; omega) | (simp_all; done) | intro _ | exact zI ?_ ?_ | intro _))))); try (refine L.nil ?_))
      ((repeat refine S.seq ?_); refine S.cond rfl (fun h3 => ?_) (fun h3 => ?_) <;> (try first | refine S.skip ?_ | refine S.exit ?_))
      · have h3' : (l.getD k default).shard = s ∧ widA l k ≥ 2 := by
          simp only [Bool.and_eq_true, decide_eq_true_eq, beq_iff_eq] at h3
          exact h3
        obtain ⟨x, hx⟩ : ∃ x : Arc, x = ⟨((l.getD k default).at0 + widA l k / 2) % 4294967296, o⟩ := ⟨_, rfl⟩
        ((repeat refine S.seq ?_); refine S.region (L.go (T := tt) tt_ok rfl rfl ?sd196 ?_); (try (case sd196 => (repeat' ((first | first | exact trivial | exact zA | with_reducible refine zI ?_ ?_ | exact zB | exact zC | exact zD | exact zE | rfl | exact zN rfl | omega | assumption | (simp; done) | (simp [splice]; done) | (simp; omega) | (unfold fits; omega) | (unfold fits; simp_all; omega) | (simp_all; omega) | (simp_all; done) | intro _ | exact zI ?_ ?_ | intro _))))); try (refine L.nil ?_))
        refine slotAs 55 x.av rfl (Imp.of_eq ?_) ?_
        · have e : IntKind.u32.wrap ((l.getD k default).at0 + IntKind.u32.wrap (IntKind.u64.wrap ((widA l k).tdiv 2))) = ((l.getD k default).at0 + widA l k / 2) % 4294967296 := by
            have e1 : (widA l k).tdiv 2 = widA l k / 2 := Int.tdiv_eq_ediv_of_nonneg hw.1
            have e2 : ∀ z, IntKind.u32.wrap z = z % 4294967296 := fun _ => rfl
            rw [e1, u64_id (by omega) (by omega), e2, e2]
            omega
          rw [hx, ← e]
          rfl
        refine L.callP rfl rfl rfl rfl rfl rfl rfl ⟨trivial, by (repeat' ((first | first | exact trivial | exact zA | with_reducible refine zI ?_ ?_ | exact zB | exact zC | exact zD | exact zE | rfl | exact zN rfl | omega | assumption | (simp; done) | (simp [splice]; done) | (simp; omega) | (unfold fits; omega) | (unfold fits; simp_all; omega) | (simp_all; omega) | (simp_all; done) | intro _ | exact zI ?_ ?_ | intro _)))⟩ rfl (Imps.refl _) (put_p (putTo l s o k) x (by omega)) ?_
        (refine L.go (T := tt) tt_ok rfl rfl ?sd205 ?_; (try (case sd205 => (repeat' ((first | first | exact trivial | exact zA | with_reducible refine zI ?_ ?_ | exact zB | exact zC | exact zD | exact zE | rfl | exact zN rfl | omega | assumption | (simp; done) | (simp [splice]; done) | (simp; omega) | (unfold fits; omega) | (unfold fits; simp_all; omega) | (simp_all; omega) | (simp_all; done) | intro _ | exact zI ?_ ?_ | intro _))))); try (refine L.nil ?_))
        refine slotAs 7 (arcs (putTo l s o (k + 1))) rfl (Imp.of_eq (by rw [putTo, exE, if_pos h3', ← hx]; rfl)) ?_
        ((repeat refine S.seq ?_); refine S.region (L.go (T := tt) tt_ok rfl rfl ?sd197 ?_); (try (case sd197 => (repeat' ((first | first | exact trivial | exact zA | with_reducible refine zI ?_ ?_ | exact zB | exact zC | exact zD | exact zE | rfl | exact zN rfl | omega | assumption | (simp; done) | (simp [splice]; done) | (simp; omega) | (unfold fits; omega) | (unfold fits; simp_all; omega) | (simp_all; omega) | (simp_all; done) | intro _ | exact zI ?_ ?_ | intro _))))); try (refine L.nil ?_))
        exact fun a w hR => ⟨⟨k + 1, hk'⟩, by show l.length - (k + 1) < l.length - k; omega, hR.weakP (by (repeat' (first | exact True.intro | exact Imp.refl _ | refine ⟨?_, ?_⟩))) (by (repeat (first | exact Sub.refl _ | refine Sub.pick (by first | exact p0 | exact pS p0 | exact pS (pS p0) | exact pS (pS (pS p0)) | exact pS (pS (pS (pS p0))) | exact pS (pS (pS (pS (pS p0))))) ?_)))⟩
      have h3' : ¬ ((l.getD k default).shard = s ∧ widA l k ≥ 2) := by
        rintro ⟨g1, g2⟩
        have g1 : (l.getD (k : Int).toNat default).shard = s := g1
        rw [g1, decide_eq_true g2] at h3
        simp at h3
      refine slotAs 7 (arcs (putTo l s o (k + 1))) rfl (Imp.of_eq (by rw [putTo, exE, if_neg h3']; rfl)) ?_
      ((repeat refine S.seq ?_); refine S.region (L.go (T := tt) tt_ok rfl rfl ?sd198 ?_); (try (case sd198 => (repeat' ((first | first | exact trivial | exact zA | with_reducible refine zI ?_ ?_ | exact zB | exact zC | exact zD | exact zE | rfl | exact zN rfl | omega | assumption | (simp; done) | (simp [splice]; done) | (simp; omega) | (unfold fits; omega) | (unfold fits; simp_all; omega) | (simp_all; omega) | (simp_all; done) | intro _ | exact zI ?_ ?_ | intro _))))); try (refine L.nil ?_))
      exact fun a w hR => ⟨⟨k + 1, hk'⟩, by show l.length - (k + 1) < l.length - k; omega, hR.weakP (by (repeat' (first | exact True.intro | exact Imp.refl _ | refine ⟨?_, ?_⟩))) (by (repeat (first | exact Sub.refl _ | refine Sub.pick (by first | exact p0 | exact pS p0 | exact pS (pS p0) | exact pS (pS (pS p0)) | exact pS (pS (pS (pS p0))) | exact pS (pS (pS (pS (pS p0))))) ?_)))⟩
    have hk' : k = l.length := by have := of_dec' hc; omega
    subst hk'
    exact fun a w hR => ⟨(), hR.weakP (by (repeat' (first | exact True.intro | exact Imp.refl _ | refine ⟨?_, ?_⟩))) (by (repeat (first | exact Sub.refl _ | refine Sub.pick (by first | exact p0 | exact pS p0 | exact pS (pS p0) | exact pS (pS (pS p0)) | exact pS (pS (pS (pS p0))) | exact pS (pS (pS (pS (pS p0))))) ?_)))⟩
  rintro ⟨⟩
  have hpl := putTo_len l s o l.length
  ((repeat refine S.seq ?_); refine S.region (L.go (T := tt) tt_ok rfl rfl ?sd199 ?_); (try (case sd199 => (repeat' ((first | first | exact trivial | exact zA | with_reducible refine zI ?_ ?_ | exact zB | exact zC | exact zD | exact zE | rfl | exact zN rfl | omega | assumption | (simp; done) | (simp [splice]; done) | (simp; omega) | (unfold fits; omega) | (unfold fits; simp_all; omega) | (simp_all; omega) | (simp_all; done) | intro _ | exact zI ?_ ?_ | intro _))))); try (refine L.nil ?_))
  ((repeat refine S.seq ?_); refine S.cond rfl (fun h4 => ?_) (fun h4 => ?_) <;> (try first | refine S.skip ?_ | refine S.exit ?_))
  · have := of_dec h4
    omega
  ((repeat refine S.seq ?_); refine S.region (L.go (T := tt) tt_ok rfl rfl ?sd200 ?_); (try (case sd200 => (repeat' ((first | first | exact trivial | exact zA | with_reducible refine zI ?_ ?_ | exact zB | exact zC | exact zD | exact zE | rfl | exact zN rfl | omega | assumption | (simp; done) | (simp [splice]; done) | (simp; omega) | (unfold fits; omega) | (unfold fits; simp_all; omega) | (simp_all; omega) | (simp_all; done) | intro _ | exact zI ?_ ?_ | intro _))))); try (refine L.nil ?_))
  (((repeat refine S.seq ?_); refine S.ret ?_); refine E.retP (T := tt) tt_ok rfl rfl (by (repeat' ((first | first | exact trivial | exact zA | with_reducible refine zI ?_ ?_ | exact zB | exact zC | exact zD | exact zE | rfl | exact zN rfl | omega | assumption | (simp; done) | (simp [splice]; done) | (simp; omega) | (unfold fits; omega) | (unfold fits; simp_all; omega) | (simp_all; omega) | (simp_all; done) | intro _ | exact zI ?_ ?_ | intro _)))) (Imp.of_eq ?_))
  rfl
end Go.Proofs.YtlgdjmmjconbfaaDoor

/- The reference's halving is the halved ring. -/
namespace Go.Proofs.YtlgdjmmjconbfaaDoor
set_option linter.unusedVariables false
set_option linter.unusedSimpArgs false
set_option maxHeartbeats 8000000
open Go.RowKit

theorem putA_mem : ∀ {l : List Arc} {x b : Arc}, b ∈ putA l x → b ∈ l ∨ b = x
  | [], x, b, h => .inr (List.mem_singleton.1 h)
  | c :: t, x, b, h => by
    rw [putA] at h
    split at h
    · rcases List.mem_cons.1 h with rfl | h
      · exact .inl List.mem_cons_self
      · exact (putA_mem h).imp (List.mem_cons_of_mem _) id
    · split at h
      · exact .inl h
      · rcases List.mem_cons.1 h with rfl | h
        · exact .inr rfl
        · exact .inl h
theorem putA_inc : ∀ {l : List Arc} (x : Arc), inc l → inc (putA l x)
  | [], x, _ => List.pairwise_singleton _ _
  | c :: t, x, h => by
    have h' := List.pairwise_cons.1 h
    rw [putA]
    split
    · rename_i hc
      refine List.pairwise_cons.2 ⟨fun b hb => ?_, putA_inc x h'.2⟩
      rcases putA_mem hb with hb | rfl
      · exact h'.1 b hb
      · exact hc
    · split
      · exact h
      · refine List.pairwise_cons.2 ⟨fun b hb => ?_, h⟩
        rcases List.mem_cons.1 hb with rfl | hb
        · omega
        · have := h'.1 b hb
          omega
theorem putA_perm : ∀ {l : List Arc} {x : Arc}, (∀ b ∈ l, b.at0 ≠ x.at0) → (putA l x).Perm (x :: l)
  | [], x, _ => List.Perm.refl _
  | c :: t, x, h => by
    have hc := h c List.mem_cons_self
    rw [putA]
    split
    · exact (List.Perm.cons c (putA_perm fun b hb => h b (List.mem_cons_of_mem _ hb))).trans (List.Perm.swap _ _ _)
    · exact List.Perm.refl _
theorem exTo_pre (l : List Arc) (s o : Int) {k : Nat} : ∀ n, k ≤ n → ∃ r, exTo l s o n = exTo l s o k ++ r
  | 0, h => by
    obtain rfl : k = 0 := by omega
    exact ⟨[], rfl⟩
  | n + 1, h => by
    by_cases e : k = n + 1
    · exact ⟨[], by rw [e, List.append_nil]⟩
    · obtain ⟨r, hr⟩ := exTo_pre l s o (k := k) n (by omega)
      exact ⟨r ++ exE l s o n, by rw [exTo, hr, List.append_assoc]⟩
theorem new_apart {l : List Arc} (h : Fit l) (s o : Int) : (l ++ exTo l s o l.length).Pairwise fun a b => a.at0 ≠ b.at0 := by
  have h1 := (rot_facts (h.turn s o)).1
  have h2 : (hvS l s o).Pairwise fun a b => a.at0 ≠ b.at0 := h1.imp fun {a b} hab => by omega
  exact ((hvS_perm h s o).pairwise_iff (fun {a b} hab e => hab e.symm)).1 h2
theorem putTo_ok {l : List Arc} (h : Fit l) (s o : Int) : ∀ k, k ≤ l.length → inc (putTo l s o k) ∧ (putTo l s o k).Perm (l ++ exTo l s o k)
  | 0, _ => ⟨h.inc, by rw [exTo, List.append_nil]; exact List.Perm.refl _⟩
  | k + 1, hk => by
    obtain ⟨i1, i2⟩ := putTo_ok h s o k (by omega)
    have hap := new_apart h s o
    obtain ⟨r, hr⟩ := exTo_pre l s o (k := k + 1) l.length hk
    rw [hr, exTo] at hap
    rw [putTo, exTo]
    unfold exE at hap ⊢
    split at hap
    · rename_i hc
      rw [if_pos hc]
      rw [List.foldl_cons, List.foldl_nil]
      refine ⟨putA_inc _ i1, (putA_perm fun b hb => ?_).trans ?_⟩
      · have hb := i2.mem_iff.1 hb
        rw [← List.append_assoc, ← List.append_assoc] at hap
        have h1 := (List.pairwise_append.1 hap).1
        exact (List.pairwise_append.1 h1).2.2 b hb _ (List.mem_singleton.2 rfl)
      · rw [← List.append_assoc]
        exact (List.Perm.cons _ i2).trans (List.perm_append_singleton _ _).symm
    · rename_i hc
      rw [if_neg hc, List.foldl_nil, List.append_nil]
      exact ⟨i1, i2⟩
theorem putTo_eq {l : List Arc} (h : Fit l) (s o : Int) : putTo l s o l.length = hvS l s o := by
  obtain ⟨h1, h2⟩ := putTo_ok h s o l.length (Nat.le_refl _)
  exact inc_eq h1 (rot_facts (h.turn s o)).1 (h2.trans (hvS_perm h s o).symm)
/-- A list sorted by points that has all of them is the halved ring. -/
theorem sorted_eq {l d : List Arc} (h : Fit l) (s o : Int) (hp : d.Perm (l ++ exTo l s o l.length)) (hs : d.Pairwise fun a b => a.at0 ≤ b.at0) : d = hvS l s o := by
  have h1 : d.Pairwise fun a b => a.at0 ≠ b.at0 := (hp.pairwise_iff (fun {a b} hab e => hab e.symm)).2 (new_apart h s o)
  have h2 : inc d := by
    refine (hs.and h1).imp fun {a b} hab => ?_
    have := hab.1
    have := hab.2
    omega
  exact inc_eq h2 (rot_facts (h.turn s o)).1 (hp.trans (hvS_perm h s o).symm)
end Go.Proofs.YtlgdjmmjconbfaaDoor

/- A ring of weights: the plain law. -/
namespace Go.Proofs.YtlgdjmmjconbfaaDoor
set_option linter.unusedVariables false
set_option linter.unusedSimpArgs false
set_option maxHeartbeats 8000000
open Go.RowKit

/-- The marks of a shard; of the shards below one. -/
def mks (s : Int) : Nat → List Arc
  | 0 => []
  | k + 1 => mks s k ++ [⟨mrkF s k, s⟩]
def wts (w : List Int) (k : Nat) : Nat := (w.getD k 0 * 8).toNat
def mksW (w : List Int) : Nat → List Arc
  | 0 => []
  | k + 1 => mksW w k ++ mks k (wts w k)
def mksAll (w : List Int) : List Arc := mksW w w.length
def badW (w : List Int) (i : Nat) : Bool := decide (w.getD i 0 < 0) || decide (w.getD i 0 > 4)
def lenW (w : List Int) : Bool := decide ((w.length : Int) < 1) || decide ((w.length : Int) > 16)
def someW (w : List Int) : Bool := (List.range w.length).any fun i => !decide (w.getD i 0 = 0)
def fitW (w : List Int) : Bool := (List.range w.length).all fun i => !badW w i
def okW (w : List Int) : Bool := (!lenW w && someW w) && fitW w
def bldA (w : List Int) : List Arc := if okW w = true then (mksAll w).foldl putA [] else []
def bldE (w : List Int) : Int := if okW w = true then 0 else 1

structure Ring1 (L R : List Arc) : Prop where
  inc : inc R
  sub : ∀ a ∈ R, a ∈ L
  all : ∀ b ∈ L, ∃ a ∈ R, a.at0 = b.at0 ∧ a.shard ≤ b.shard
theorem inc_inj {R : List Arc} (h : inc R) : ∀ {a b : Arc}, a ∈ R → b ∈ R → a.at0 = b.at0 → a = b := by
  intro a b ha hb e
  obtain ⟨i, hi, rfl⟩ := List.getElem_of_mem ha
  obtain ⟨j, hj, rfl⟩ := List.getElem_of_mem hb
  have hp := List.pairwise_iff_getElem.1 h
  rcases Nat.lt_trichotomy i j with hij | rfl | hij
  · have := hp i j hi hj hij; omega
  · rfl
  · have := hp j i hj hi hij; omega
theorem inc_nodup {R : List Arc} (h : inc R) : R.Nodup := h.imp fun {a b} hab e => by rw [e] at hab; omega
theorem Arc.ext' {a b : Arc} (h1 : a.at0 = b.at0) (h2 : a.shard = b.shard) : a = b := by cases a; cases b; cases h1; cases h2; rfl
theorem Ring1.le {L R R' : List Arc} (h : Ring1 L R) (h' : Ring1 L R') {a : Arc} (ha : a ∈ R) : a ∈ R' := by
  obtain ⟨b, hb, e1, e2⟩ := h'.all a (h.sub a ha)
  obtain ⟨c, hc, e3, e4⟩ := h.all b (h'.sub b hb)
  have := inc_inj h.inc hc ha (by omega)
  subst this
  have : b = c := Arc.ext' (by omega) (by omega)
  rw [← this]
  exact hb
theorem Ring1.eq {L R R' : List Arc} (h : Ring1 L R) (h' : Ring1 L R') : R = R' :=
  inc_eq h.inc h'.inc ((List.perm_ext_iff_of_nodup (inc_nodup h.inc) (inc_nodup h'.inc)).2 fun _ => ⟨h.le h', h'.le h⟩)
theorem Ring1.perm {L L' R : List Arc} (h : Ring1 L R) (hp : L.Perm L') : Ring1 L' R := ⟨h.inc, fun a ha => hp.mem_iff.1 (h.sub a ha), fun b hb => h.all b (hp.mem_iff.2 hb)⟩
theorem putA_same : ∀ {l : List Arc} {x b : Arc}, inc l → b ∈ l → b.at0 = x.at0 → putA l x = l
  | c :: t, x, b, h, hb, e => by
    have h' := List.pairwise_cons.1 h
    rw [putA]
    rcases List.mem_cons.1 hb with rfl | hb
    · rw [if_neg (by omega), if_pos e]
    · have := h'.1 b hb
      rw [if_pos (by omega), putA_same h'.2 hb e]
theorem Ring1.put {L R : List Arc} (h : Ring1 L R) (x : Arc) (hx : ∀ a ∈ L, a.shard ≤ x.shard) : Ring1 (L ++ [x]) (putA R x) := by
  by_cases hc : ∃ b ∈ R, b.at0 = x.at0
  · obtain ⟨b, hb, e⟩ := hc
    rw [putA_same h.inc hb e]
    refine ⟨h.inc, fun a ha => List.mem_append.2 (.inl (h.sub a ha)), fun c hc => ?_⟩
    rcases List.mem_append.1 hc with hc | hc
    · exact h.all c hc
    · rw [List.mem_singleton.1 hc]
      exact ⟨b, hb, e, hx b (h.sub b hb)⟩
  · have hp := putA_perm (l := R) (x := x) fun b hb e => hc ⟨b, hb, e⟩
    refine ⟨putA_inc x h.inc, fun a ha => ?_, fun c hc => ?_⟩
    · rcases List.mem_cons.1 (hp.mem_iff.1 ha) with rfl | ha
      · simp
      · exact List.mem_append.2 (.inl (h.sub a ha))
    · rcases List.mem_append.1 hc with hc | hc
      · obtain ⟨a, ha, e⟩ := h.all c hc
        exact ⟨a, hp.mem_iff.2 (List.mem_cons_of_mem _ ha), e⟩
      · rw [List.mem_singleton.1 hc]
        exact ⟨x, hp.mem_iff.2 List.mem_cons_self, rfl, Int.le_refl _⟩
theorem Ring1.fold : ∀ (L : List Arc) {D R : List Arc}, Ring1 D R → (∀ a ∈ D, ∀ b ∈ L, a.shard ≤ b.shard) → L.Pairwise (fun a b => a.shard ≤ b.shard) → Ring1 (D ++ L) (L.foldl putA R)
  | [], D, R, h, _, _ => by rw [List.append_nil]; exact h
  | x :: t, D, R, h, hD, hL => by
    have hL' := List.pairwise_cons.1 hL
    have := Ring1.fold t (h.put x fun a ha => hD a ha x List.mem_cons_self) (fun a ha b hb => by
      rcases List.mem_append.1 ha with ha | ha
      · exact hD a ha b (List.mem_cons_of_mem _ hb)
      · rw [List.mem_singleton.1 ha]; exact hL'.1 b hb) hL'.2
    rw [List.append_assoc] at this
    exact this
theorem Ring1.nil : Ring1 [] [] := ⟨List.Pairwise.nil, fun _ h => h, fun _ h => by cases h⟩

theorem mks_len (s : Int) : ∀ k, (mks s k).length = k
  | 0 => rfl
  | k + 1 => by rw [mks, List.length_append, mks_len s k]; rfl
theorem mks_mem (s : Int) : ∀ k, ∀ a ∈ mks s k, a.shard = s ∧ ∃ i : Nat, i < k ∧ a.at0 = mrkF s i
  | 0, a, h => by cases h
  | k + 1, a, h => by
    rcases List.mem_append.1 h with h | h
    · obtain ⟨h1, i, hi, h2⟩ := mks_mem s k a h
      exact ⟨h1, i, by omega, h2⟩
    · rw [List.mem_singleton.1 h]; exact ⟨rfl, k, by omega, rfl⟩
theorem mks_sort (s : Int) : ∀ k, (mks s k).Pairwise fun a b => a.shard ≤ b.shard := fun k =>
  List.pairwise_iff_getElem.2 fun i j hi hj _ => by
    have h1 := (mks_mem s k _ (List.getElem_mem hi)).1
    have h2 := (mks_mem s k _ (List.getElem_mem hj)).1
    omega
theorem mksW_mem (w : List Int) : ∀ k, ∀ a ∈ mksW w k, 0 ≤ a.shard ∧ a.shard < k ∧ ∃ i : Nat, a.at0 = mrkF a.shard i
  | 0, a, h => by cases h
  | k + 1, a, h => by
    rcases List.mem_append.1 h with h | h
    · obtain ⟨h1, h2, h3⟩ := mksW_mem w k a h
      exact ⟨h1, by omega, h3⟩
    · obtain ⟨h1, i, -, h2⟩ := mks_mem _ _ a h
      exact ⟨by omega, by omega, i, by rw [h1, h2]⟩
theorem mksW_sort (w : List Int) : ∀ k, (mksW w k).Pairwise fun a b => a.shard ≤ b.shard
  | 0 => List.Pairwise.nil
  | k + 1 => List.pairwise_append.2 ⟨mksW_sort w k, mks_sort _ _, fun a ha b hb => by
      have h1 := (mksW_mem w k a ha).2.1
      have h2 := (mks_mem _ _ b hb).1
      omega⟩
theorem ring1_all (w : List Int) (k : Nat) : Ring1 (mksW w k) ((mksW w k).foldl putA []) := by
  have := Ring1.fold (mksW w k) Ring1.nil (fun a h => by cases h) (mksW_sort w k)
  exact this

/-- What is kept of so many: those that are not at the point of the one ahead. -/
def cptK (l : List Arc) : Nat → List Arc
  | 0 => []
  | k + 1 => cptK l k ++ if 0 < k ∧ (l.getD k default).at0 = (l.getD (k - 1) default).at0 then [] else [l.getD k default]
def lexA (a b : Arc) : Prop := a.at0 < b.at0 ∨ a.at0 = b.at0 ∧ a.shard ≤ b.shard
structure CK (l : List Arc) (k : Nat) (R : List Arc) : Prop where
  inc : inc R
  sub : ∀ a ∈ R, ∃ i, i < k ∧ a = l.getD i default
  all : ∀ i, i < k → ∃ a ∈ R, a.at0 = (l.getD i default).at0 ∧ a.shard ≤ (l.getD i default).shard
theorem cptK_ok {l : List Arc} (h : l.Pairwise lexA) : ∀ k, k ≤ l.length → CK l k (cptK l k)
  | 0, _ => ⟨List.Pairwise.nil, fun _ h => (by cases h), fun _ h => (by omega)⟩
  | k + 1, hk => by
    have ih := cptK_ok h k (by omega)
    have hp : ∀ i j, i < j → j < l.length → lexA (l.getD i default) (l.getD j default) := fun i j hij hj => by
      rw [getD_get hj, getD_get (show i < l.length by omega)]
      exact List.pairwise_iff_getElem.1 h i j (by omega) hj hij
    rw [cptK]
    split
    · rename_i hc
      rw [List.append_nil]
      refine ⟨ih.inc, fun a ha => ?_, fun i hi => ?_⟩
      · obtain ⟨i, h1, h2⟩ := ih.sub a ha
        exact ⟨i, by omega, h2⟩
      · by_cases e : i < k
        · exact ih.all i e
        · obtain rfl : i = k := by omega
          obtain ⟨a, ha, e1, e2⟩ := ih.all (i - 1) (by omega)
          have := hp (i - 1) i (by omega) (by omega)
          unfold lexA at this
          exact ⟨a, ha, by omega, by omega⟩
    · rename_i hc
      refine ⟨List.pairwise_append.2 ⟨ih.inc, List.pairwise_singleton _ _, fun a ha b hb => ?_⟩, fun a ha => ?_, fun i hi => ?_⟩
      · rw [List.mem_singleton.1 hb]
        obtain ⟨i, h1, h2⟩ := ih.sub a ha
        have g1 := hp (k - 1) k (by omega) (by omega)
        rw [h2]
        unfold lexA at g1
        by_cases e : i = k - 1
        · rw [e]; omega
        · have g2 := hp i (k - 1) (by omega) (by omega)
          unfold lexA at g2
          omega
      · rcases List.mem_append.1 ha with ha | ha
        · obtain ⟨i, h1, h2⟩ := ih.sub a ha
          exact ⟨i, by omega, h2⟩
        · exact ⟨k, by omega, List.mem_singleton.1 ha⟩
      · by_cases e : i < k
        · obtain ⟨a, ha, e⟩ := ih.all i e
          exact ⟨a, List.mem_append.2 (.inl ha), e⟩
        · obtain rfl : i = k := by omega
          exact ⟨_, List.mem_append.2 (.inr (List.mem_singleton.2 rfl)), rfl, Int.le_refl _⟩
theorem ring1_cpt {l : List Arc} (h : l.Pairwise lexA) : Ring1 l (cptK l l.length) := by
  have hk := cptK_ok h l.length (Nat.le_refl _)
  refine ⟨hk.inc, fun a ha => ?_, fun b hb => ?_⟩
  · obtain ⟨i, h1, rfl⟩ := hk.sub a ha
    rw [getD_get h1]
    exact List.getElem_mem h1
  · obtain ⟨i, hi, rfl⟩ := List.getElem_of_mem hb
    obtain ⟨a, ha, e⟩ := hk.all i hi
    rw [getD_get hi] at e
    exact ⟨a, ha, e⟩
/-- The sorted marks, each point once, are the marks put one by one. -/
theorem cpt_eq {w : List Int} {d : List Arc} (hp : d.Perm (mksAll w)) (hs : d.Pairwise lexA) : cptK d d.length = (mksAll w).foldl putA [] :=
  ((ring1_cpt hs).perm hp).eq (ring1_all w w.length)

theorem x32_in (a b : Int) : 0 ≤ x32 a b ∧ x32 a b < 4294967296 := by
  have e : ∀ z, IntKind.u32.wrap z = z % 4294967296 := fun _ => rfl
  rw [x32, e]
  omega
theorem mrkF_in (a b : Int) : 0 ≤ mrkF a b ∧ mrkF a b < 4294967296 := x32_in _ _
structure OkW (w : List Int) : Prop where
  one : 1 ≤ w.length
  most : w.length ≤ 16
  some : ∃ i, i < w.length ∧ w.getD i 0 ≠ 0
  fit : ∀ i, i < w.length → 0 ≤ w.getD i 0 ∧ w.getD i 0 ≤ 4
theorem okW_iff (w : List Int) : okW w = true ↔ OkW w := by
  constructor
  · intro h
    simp only [okW, lenW, someW, fitW, badW, Bool.and_eq_true, Bool.not_eq_true', Bool.or_eq_false_iff, decide_eq_false_iff_not, List.any_eq_true, List.all_eq_true, List.mem_range, Bool.not_eq_eq_eq_not, Bool.not_true, decide_eq_true_eq] at h
    obtain ⟨⟨⟨h1, h2⟩, i, h3, h4⟩, h5⟩ := h
    exact ⟨by omega, by omega, ⟨i, h3, h4⟩, fun i hi => by have := h5 i hi; omega⟩
  · rintro ⟨h1, h2, ⟨i, h3, h4⟩, h5⟩
    simp only [okW, lenW, someW, fitW, badW, Bool.and_eq_true, Bool.not_eq_true', Bool.or_eq_false_iff, decide_eq_false_iff_not, List.any_eq_true, List.all_eq_true, List.mem_range, Bool.not_eq_eq_eq_not, Bool.not_true, decide_eq_true_eq]
    exact ⟨⟨⟨by omega, by omega⟩, i, h3, h4⟩, fun i hi => by have := h5 i hi; omega⟩
theorem mksW_len {w : List Int} (h : OkW w) : ∀ k, k ≤ w.length → (mksW w k).length ≤ 32 * k
  | 0, _ => by simp [mksW]
  | k + 1, hk => by
    have ih := mksW_len h k (by omega)
    have := h.fit k (by omega)
    rw [mksW, List.length_append, mks_len, wts]
    omega
theorem mksW_pos {w : List Int} (h : OkW w) : 1 ≤ (mksAll w).length := by
  obtain ⟨i, hi, h0⟩ := h.some
  have hf := h.fit i hi
  have key : ∀ k, i < k → 1 ≤ (mksW w k).length := fun k => by
    induction k with
    | zero => intro h; omega
    | succ k ih =>
      intro hik
      rw [mksW, List.length_append, mks_len]
      by_cases e : i = k
      · subst e; rw [wts]; omega
      · have := ih (by omega); omega
  exact key _ hi
theorem fold_len : ∀ (L R : List Arc), (L.foldl putA R).length ≤ R.length + L.length
  | [], R => by simp
  | x :: t, R => by
    have h1 := fold_len t (putA R x)
    have h2 := putA_len R x
    simp only [List.foldl_cons, List.length_cons]
    omega
/-- What is built may be. -/
theorem build_may {w : List Int} (h : OkW w) : MayA (bldA w) ∧ (bldA w).length ≤ 512 ∧ (∀ a ∈ bldA w, a ∈ mksAll w) ∧ ∀ a ∈ bldA w, 0 ≤ a.at0 ∧ a.at0 < 4294967296 := by
  rw [bldA, if_pos ((okW_iff w).2 h)]
  have hr : Ring1 (mksAll w) ((mksAll w).foldl putA []) := ring1_all w w.length
  have hl : ((mksAll w).foldl putA []).length ≤ 0 + (mksAll w).length := fold_len (mksAll w) []
  have hm : (mksAll w).length ≤ 32 * w.length := mksW_len h w.length (Nat.le_refl _)
  have hw := h.most
  refine ⟨may_to ?_ (by omega) (fun a ha => ?_) hr.inc, by omega, hr.sub, fun a ha => ?_⟩
  · obtain ⟨b, hb, -⟩ := hr.all ((mksAll w)[0]'(mksW_pos h)) (List.getElem_mem _)
    exact List.length_pos_of_mem hb
  · have hx : 0 ≤ a.shard ∧ a.shard < (w.length : Nat) ∧ ∃ i : Nat, a.at0 = mrkF a.shard i := mksW_mem w w.length a (hr.sub a ha)
    exact ⟨hx.1, by omega⟩
  · have hx : 0 ≤ a.shard ∧ a.shard < (w.length : Nat) ∧ ∃ i : Nat, a.at0 = mrkF a.shard i := mksW_mem w w.length a (hr.sub a ha)
    obtain ⟨i, e⟩ := hx.2.2
    rw [e]
    exact mrkF_in _ _
theorem build_fit {w : List Int} (h : OkW w) : Fit (bldA w) := by
  obtain ⟨h1, h2, h3, h4⟩ := build_may h
  exact ⟨h1, h4⟩
end Go.Proofs.YtlgdjmmjconbfaaDoor

/- Owners: the nearest one behind; sums of widths; what a shard more takes. -/
namespace Go.Proofs.YtlgdjmmjconbfaaDoor
set_option linter.unusedVariables false
set_option linter.unusedSimpArgs false
set_option maxHeartbeats 8000000
open Go.RowKit

def dst (p : Int) (a : Arc) : Int := (p - a.at0) % 4294967296
theorem Fit.at {l : List Arc} (h : Fit l) {i : Nat} (hi : i < l.length) : 0 ≤ (l.getD i default).at0 ∧ (l.getD i default).at0 < 4294967296 := h.fit _ (by rw [getD_get hi]; exact List.getElem_mem _)
theorem place_lt {l : List Arc} (h : 0 < l.length) (p : Int) : placeA l p < l.length := plcTo_lt p h l.length (Nat.le_refl _)
theorem near {l : List Arc} (h : Fit l) {p : Int} (p0 : 0 ≤ p) (p1 : p < 4294967296) : ∀ j, j < l.length → dst p (l.getD (placeA l p) default) ≤ dst p (l.getD j default) := by
  obtain ⟨lo, h1, h2, h3⟩ := ex_lo p h.inc
  have hl := plcTo_lo h2 (fun i hi hil => Int.not_le.2 (h3 i hi hil)) l.length (Nat.le_refl _) h1
  have hone := h.may.one
  intro j hj
  have fj := h.at hj
  rw [placeA, hl]
  unfold dst
  by_cases hz : lo = 0
  · subst hz
    rw [if_pos rfl]
    have fl := h.at (show l.length - 1 < l.length by omega)
    have g1 := h3 j (by omega) hj
    have g2 := h3 (l.length - 1) (by omega) (by omega)
    have g3 : (l.getD j default).at0 ≤ (l.getD (l.length - 1) default).at0 := by
      by_cases e : j = l.length - 1
      · rw [e]; exact Int.le_refl _
      · have := h.may.up j (l.length - 1) (by omega) (by omega)
        omega
    omega
  · rw [if_neg hz]
    have fl := h.at (show lo - 1 < l.length by omega)
    have g2 := h2 (lo - 1) (by omega)
    by_cases hj2 : j < lo
    · have g3 : (l.getD j default).at0 ≤ (l.getD (lo - 1) default).at0 := by
        by_cases e : j = lo - 1
        · rw [e]; exact Int.le_refl _
        · have := h.may.up j (lo - 1) (by omega) (by omega)
          omega
      omega
    · have g3 := h3 j (by omega) hj
      omega
theorem dst_inj {l : List Arc} (h : Fit l) {p : Int} {i j : Nat} (hi : i < l.length) (hj : j < l.length) (e : dst p (l.getD i default) = dst p (l.getD j default)) : i = j := by
  have fi := h.at hi
  have fj := h.at hj
  unfold dst at e
  have : (l.getD i default).at0 = (l.getD j default).at0 := by omega
  rcases Nat.lt_trichotomy i j with hij | rfl | hij
  · have := h.may.up i j hij hj; omega
  · rfl
  · have := h.may.up j i hij hi; omega

/-- The first of the nearest ones, of so many. -/
def bestTo (l : List Arc) (p : Int) : Nat → Nat
  | 0 => 0
  | k + 1 => if dst p (l.getD k default) < dst p (l.getD (bestTo l p k) default) then k else bestTo l p k
theorem bestTo_lt (l : List Arc) (p : Int) : ∀ k, bestTo l p k ≤ k ∧ (1 ≤ k → bestTo l p k < k)
  | 0 => ⟨Nat.le_refl _, by omega⟩
  | k + 1 => by
    have ih := bestTo_lt l p k
    rw [bestTo]
    split <;> omega
theorem bestTo_min (l : List Arc) (p : Int) : ∀ k, ∀ j, j < k → dst p (l.getD (bestTo l p k) default) ≤ dst p (l.getD j default)
  | 0, j, h => by omega
  | k + 1, j, h => by
    have ih := bestTo_min l p k
    rw [bestTo]
    split
    · by_cases e : j = k
      · rw [e]; exact Int.le_refl _
      · have := ih j (by omega); omega
    · by_cases e : j = k
      · rw [e]; omega
      · exact ih j (by omega)
theorem best_place {l : List Arc} (h : Fit l) {p : Int} (p0 : 0 ≤ p) (p1 : p < 4294967296) : bestTo l p l.length = placeA l p := by
  have hone := h.may.one
  have hp := place_lt (by omega) p (l := l)
  have hb := (bestTo_lt l p l.length).2 hone
  have h1 := near h p0 p1 _ hb
  have h2 := bestTo_min l p l.length _ hp
  exact dst_inj (p := p) h hb hp (by omega)
theorem dst_wid {l : List Arc} (h : Fit l) {p : Int} (p0 : 0 ≤ p) (p1 : p < 4294967296) : dst p (l.getD (placeA l p) default) < widA l (placeA l p) := by
  have hone := h.may.one
  have hp := place_lt (by omega) p (l := l)
  have hn := near h p0 p1
  generalize placeA l p = k at hp hn
  have hw := widA_eq h hp
  have he : E0 l = (l.getD 0 default).at0 + 4294967296 := rfl
  rw [hd_drop] at hw
  have f0 := h.at (show 0 < l.length by omega)
  have fk := h.at hp
  rw [hw]
  by_cases hk : k + 1 < l.length
  · rw [if_pos hk]
    have hu := h.may.up k (k + 1) (by omega) hk
    have f1 := h.at hk
    have g := hn (k + 1) hk
    unfold dst at g ⊢
    omega
  · rw [if_neg hk, he]
    have g := hn 0 (by omega)
    unfold dst at g ⊢
    by_cases e : k = 0
    · rw [e]; omega
    · have hu := h.may.up 0 k (by omega) hp
      omega

theorem place_mem {l : List Arc} (h : Fit l) (p : Int) : l.getD (placeA l p) default ∈ l := by
  have := place_lt h.may.one p
  rw [getD_get this]
  exact List.getElem_mem _
theorem owner_at {l : List Arc} (h : Fit l) (p : Int) : ownerA l p = (l.getD (placeA l p) default).shard := by rw [ownerA, if_pos (mayA_to h.may)]
theorem near_mem {l : List Arc} (h : Fit l) {p : Int} (p0 : 0 ≤ p) (p1 : p < 4294967296) {a : Arc} (ha : a ∈ l) : dst p (l.getD (placeA l p) default) ≤ dst p a := by
  obtain ⟨j, hj, rfl⟩ := List.getElem_of_mem ha
  have := near h p0 p1 j hj
  rwa [getD_get hj] at this
/-- A shard more takes points to itself alone. -/
theorem stays {l m : List Arc} (hl : Fit l) (hm : Fit m) {n : Int} (h1 : ∀ a ∈ l, a ∈ m) (h2 : ∀ a ∈ m, a ∈ l ∨ a.shard = n) {p : Int} (p0 : 0 ≤ p) (p1 : p < 4294967296) : ownerA m p = ownerA l p ∨ ownerA m p = n := by
  rw [owner_at hl, owner_at hm]
  have ml := place_mem hl p
  have mm := place_mem hm p
  rcases h2 _ mm with ha | ha
  · left
    have g1 := near_mem hl p0 p1 ha
    have g2 := near_mem hm p0 p1 (h1 _ ml)
    have f1 := hm.fit _ mm
    have f2 := hl.fit _ ml
    have : (m.getD (placeA m p) default).at0 = (l.getD (placeA l p) default).at0 := by
      unfold dst at g1 g2
      omega
    rw [inc_inj hm.inc mm (h1 _ ml) this]
  · exact .inr ha

theorem putA_old {l : List Arc} {x a : Arc} : a ∈ l → a ∈ putA l x := by
  induction l with
  | nil => intro h; cases h
  | cons c t ih =>
    intro h
    rw [putA]
    split
    · rcases List.mem_cons.1 h with rfl | h
      · exact List.mem_cons_self
      · exact List.mem_cons_of_mem _ (ih h)
    · split
      · exact h
      · exact List.mem_cons_of_mem _ h
theorem fold_old : ∀ (t R : List Arc) {a : Arc}, a ∈ R → a ∈ t.foldl putA R
  | [], _, _, h => h
  | x :: t, R, _, h => fold_old t (putA R x) (putA_old h)
theorem fold_mem : ∀ (t R : List Arc) {a : Arc}, a ∈ t.foldl putA R → a ∈ R ∨ a ∈ t
  | [], _, _, h => .inl h
  | x :: t, R, a, h => by
    rcases fold_mem t (putA R x) h with h | h
    · rcases putA_mem h with h | rfl
      · exact .inl h
      · exact .inr List.mem_cons_self
    · exact .inr (List.mem_cons_of_mem _ h)
theorem mksW_app (a c : List Int) : ∀ k, k ≤ a.length → mksW (a ++ c) k = mksW a k
  | 0, _ => rfl
  | k + 1, hk => by
    rw [mksW, mksW, mksW_app a c k (by omega)]
    have : (a ++ c).getD k 0 = a.getD k 0 := by rw [List.getD_eq_getElem?_getD, List.getD_eq_getElem?_getD, List.getElem?_append_left (by omega)]
    rw [wts, wts, this]
theorem mksAll_snoc (a : List Int) (x : Int) : mksAll (a ++ [x]) = mksAll a ++ mks a.length (wts (a ++ [x]) a.length) := by
  rw [mksAll, List.length_append]
  show mksW (a ++ [x]) (a.length + 1) = _
  rw [mksW, mksW_app a [x] a.length (Nat.le_refl _)]
  rfl
theorem build_stays {a : List Int} {x : Int} (ha : OkW a) (hb : OkW (a ++ [x])) {p : Int} (p0 : 0 ≤ p) (p1 : p < 4294967296) :
    (ownerA (bldA (a ++ [x])) p = ownerA (bldA a) p ∨ ownerA (bldA (a ++ [x])) p = a.length) ∧ 0 ≤ ownerA (bldA a) p ∧ ownerA (bldA a) p < a.length := by
  have fa := build_fit ha
  have fb := build_fit hb
  have e : bldA (a ++ [x]) = (mks a.length (wts (a ++ [x]) a.length)).foldl putA (bldA a) := by
    rw [bldA, if_pos ((okW_iff _).2 hb), mksAll_snoc, List.foldl_append, bldA, if_pos ((okW_iff _).2 ha)]
  refine ⟨stays fa fb (fun c hc => by rw [e]; exact fold_old _ _ hc) (fun c hc => ?_) p0 p1, ?_⟩
  · rw [e] at hc
    rcases fold_mem _ _ hc with hc | hc
    · exact .inl hc
    · exact .inr (mks_mem _ _ c hc).1
  · rw [owner_at fa]
    have hx := mksW_mem a a.length _ ((build_may ha).2.2.1 _ (place_mem fa p))
    exact ⟨hx.1, hx.2.1⟩

/-- The widths together; the shares together. -/
def wsum (l : List Arc) : Nat → Int
  | 0 => 0
  | k + 1 => wsum l k + widA l k
theorem wsum_eq {l : List Arc} (h : Fit l) : ∀ k, k ≤ l.length → wsum l k = hd (l.drop k) (E0 l) - hd l (E0 l)
  | 0, _ => by rw [wsum, List.drop_zero]; omega
  | k + 1, hk => by
    have ih := wsum_eq h k (by omega)
    have hw := widA_eq h (show k < l.length by omega)
    have e : hd (l.drop k) (E0 l) = (l.getD k default).at0 := by rw [hd_drop, if_pos (by omega)]
    rw [wsum, ih, hw, e]
    omega
theorem wsum_in {l : List Arc} (h : Fit l) {k : Nat} (hk : k ≤ l.length) : 0 ≤ wsum l k ∧ wsum l k ≤ 4294967296 := by
  have h1 := h.e0
  rw [wsum_eq h k hk, hd_drop]
  split
  · have hm : l.getD k default ∈ l := by rw [getD_get (by omega)]; exact List.getElem_mem _
    have := h1.2.2 _ hm
    have := (ups_lt h.ups).2 _ hm
    omega
  · omega
theorem wsum_all {l : List Arc} (h : Fit l) : wsum l l.length = 4294967296 := by
  have h1 := h.e0
  rw [wsum_eq h _ (Nat.le_refl _), List.drop_length]
  show E0 l - hd l (E0 l) = _
  omega
def ssum (l : List Arc) (E : Int) : Nat → Int
  | 0 => 0
  | k + 1 => ssum l E k + shr l E k
theorem ssum_nil (E : Int) : ∀ k, ssum [] E k = 0
  | 0 => rfl
  | k + 1 => by rw [ssum, ssum_nil E k]; rfl
theorem ssum_cons (a : Arc) (t : List Arc) (E : Int) (h0 : 0 ≤ a.shard) : ∀ k : Nat, ssum (a :: t) E k = (if a.shard < k then hd t E - a.at0 else 0) + ssum t E k
  | 0 => by rw [ssum, ssum, if_neg (by omega)]; rfl
  | k + 1 => by
    have ih := ssum_cons a t E h0 k
    rw [ssum, ssum, ih, shr]
    by_cases h1 : a.shard < k
    · rw [if_pos h1, if_neg (by omega), if_pos (by omega)]; omega
    · by_cases h2 : a.shard = k
      · rw [if_neg h1, if_pos h2, if_pos (by omega)]; omega
      · rw [if_neg h1, if_neg h2, if_neg (by omega)]; omega
theorem ssum_in : ∀ {l : List Arc} {E : Int}, ups l E → (∀ a ∈ l, 0 ≤ a.shard) → ∀ k, 0 ≤ ssum l E k ∧ ssum l E k ≤ wids l E
  | [], E, _, _, k => by rw [ssum_nil]; exact ⟨Int.le_refl _, Int.le_refl _⟩
  | a :: t, E, h, hs, k => by
    have ih := ssum_in h.2 (fun b hb => hs b (List.mem_cons_of_mem _ hb)) k
    have h1 := h.1
    rw [ssum_cons a t E (hs a List.mem_cons_self), wids]
    split <;> omega
theorem ssum_all : ∀ {l : List Arc} {E : Int} {k : Nat}, (∀ a ∈ l, 0 ≤ a.shard ∧ a.shard < k) → ssum l E k = wids l E
  | [], E, k, _ => by rw [ssum_nil]; rfl
  | a :: t, E, k, hs => by
    have ih := ssum_all (E := E) (fun b hb => hs b (List.mem_cons_of_mem _ hb))
    rw [ssum_cons a t E (hs a List.mem_cons_self).1, wids, if_pos (hs a List.mem_cons_self).2, ih]
theorem shr_in : ∀ {l : List Arc} {E : Int} (s : Int), ups l E → 0 ≤ shr l E s ∧ shr l E s ≤ wids l E
  | [], E, s, _ => ⟨Int.le_refl _, Int.le_refl _⟩
  | a :: t, E, s, h => by
    have ih := shr_in s h.2
    have h1 := h.1
    rw [shr, wids]
    split <;> omega
theorem own_pos : ∀ {l : List Arc} {E p : Int}, ups l E → l ≠ [] → p < E → 0 < shr l E (own l E p)
  | [], E, p, _, h, _ => absurd rfl h
  | a :: t, E, p, h, _, hp => by
    have h1 := h.1
    rw [own]
    split
    · have := (shr_in a.shard h.2).1
      rw [shr, if_pos rfl]
      omega
    · rename_i hc
      have ht : t ≠ [] := by
        rintro rfl
        exact hc hp
      have ih := own_pos h.2 ht hp
      rw [shr]
      split <;> omega
end Go.Proofs.YtlgdjmmjconbfaaDoor

/- slices.CompactFunc of arcs that are one's own. -/
namespace Go.Proofs.YtlgdjmmjconbfaaDoor
set_option linter.unusedVariables false
set_option linter.unusedSimpArgs false
set_option maxHeartbeats 8000000
open Go.RowKit
set_option maxRecDepth 4000

theorem formOwn {c : Ctx} {σ : Slots} {F : Rows} {K : Act → World → Prop} (id : Nat) {x : Value} {E sz n : Nat} {g : Nat → List AV} (h : F.lookup id = some (.own x E sz n g))
    (next : ∀ A cap, x = .slice A n cap → n ≤ cap → ∀ a w, R c σ F a w → K a w) : ∀ a w, R c σ F a w → K a w := by
  intro a w hR
  obtain ⟨us, ho, -⟩ := hR.sat.at h
  obtain ⟨A, cap, hv, hc, -⟩ := own_form0 ho
  exact next A cap hv hc a w hR
/-- An element of a tail of one's own. -/
theorem tail_sure {P : Program} {T : Types} {c : Ctx} {σ : Slots} {F : Rows} {rd : List Nat} {o : Oper} {t e : TypeId} {x y : Operand} {id : Nat} {x0 x1 : Value} {E sz n k : Nat} {g : Nat → List AV} {z : Int} {kd : IntKind} {p q : Prop} (hT : TOk P T) (ho : o.op = .indexAddr t x y)
    (ht : tdOf T t = some (.slice e)) (hm : tsz T e = some sz) (hs : evalS σ x = some (.v x1, p)) (hx1 : x1 = restW sz x0 k) (hrow : F.lookup id = some (.own x0 E sz n g)) (hy : evalS σ y = some (.v (.int kd z), q)) (hC : p ∧ q ∧ 0 ≤ z ∧ k + z.toNat < n) :
    Sure P c σ F rd o (.eptr id x0 sz (k + z.toNat) 0) := by
  intro a w hR
  subst hx1
  obtain ⟨hp, hq, h0, hn⟩ := hC
  have hA := hR.evals hs hp
  have hA' : a.eval x = restW sz x0 k := by generalize a.eval x = v at hA; cases hA; rfl
  have hB := hR.evals hy hq
  have hB' : a.eval y = .int kd z := by generalize a.eval y = v at hB; cases hB; rfl
  obtain ⟨us, hown, -⟩ := hR.sat.at hrow
  obtain ⟨g0, cap, rfl, hcap, -⟩ := own_form hown (by omega)
  have hck : ¬ cap = k := by omega
  have e1 : a.eval x = .slice (some ⟨g0, k * sz, none⟩) (n - k) (cap - k) := by
    rw [hA']
    simp [restW, hck, addr_add_lit]
  refine ⟨_, .eptr id _ sz (k + z.toNat) 0, fun w' _ => ?_⟩
  have hr := run_indexAt_slice hT ht hm kd z ⟨g0, k * sz, none⟩ (n - k) (cap - k) h0 (by omega) w'
  have e2 : (headOf (.slice (some ⟨g0, 0, none⟩) n cap)).add ((k + z.toNat) * sz + 0) = (⟨g0, k * sz, none⟩ : Addr).add (z.toNat * sz) := by
    simp [headOf, addr_add_lit, Nat.add_mul]
  rw [e2]
  simp [execOp, ho, e1, hB', hr]

theorem build3_p (a b : Arc) : PFn Tryd.prog 45 [a.av, b.av] (.v (.bool (decide (a.at0 = b.at0)))) := by
  unfold Arc.av Arc.cells
  refine FnC.intro Tryd.func45 rfl Tryd.ntmps45 rfl ?_; intro off w0
  repeat refine S.seq ?_
  refine S.region ?_
  refine L.box 2 rfl rfl rfl rfl rfl trivial rfl fun b2 => ?_
  refine L.box 3 rfl rfl rfl rfl rfl trivial rfl fun b3 => ?_
  (refine L.go (T := tt) tt_ok rfl rfl ?sd13 ?_; (try (case sd13 => (repeat' ((first | first | exact trivial | exact zA | with_reducible refine zI ?_ ?_ | exact zB | exact zC | exact zD | exact zE | rfl | exact zN rfl | omega | assumption | (simp; done) | (simp [splice]; done) | (simp; omega) | (unfold fits; omega) | (unfold fits; simp_all; omega) | (simp_all; omega) | (simp_all; done) | intro _ | exact zI ?_ ?_ | intro _))))); try (refine L.nil ?_))
  ((repeat refine S.seq ?_); refine S.region (L.go (T := tt) tt_ok rfl rfl ?sd1 ?_); (try (case sd1 => (repeat' ((first | first | exact trivial | exact zA | with_reducible refine zI ?_ ?_ | exact zB | exact zC | exact zD | exact zE | rfl | exact zN rfl | omega | assumption | (simp; done) | (simp [splice]; done) | (simp; omega) | (unfold fits; omega) | (unfold fits; simp_all; omega) | (simp_all; omega) | (simp_all; done) | intro _ | exact zI ?_ ?_ | intro _))))); try (refine L.nil ?_))
  (((repeat refine S.seq ?_); refine S.ret ?_); refine E.retP (T := tt) tt_ok rfl rfl (by (repeat' ((first | first | exact trivial | exact zA | with_reducible refine zI ?_ ?_ | exact zB | exact zC | exact zD | exact zE | rfl | exact zN rfl | omega | assumption | (simp; done) | (simp [splice]; done) | (simp; omega) | (unfold fits; omega) | (unfold fits; simp_all; omega) | (simp_all; omega) | (simp_all; done) | intro _ | exact zI ?_ ?_ | intro _)))) (Imp.of_eq ?_))
  rfl

/-- Of so many looked at, so many are kept at the beginning. -/
structure CS (l : List Arc) (j : Nat) (M : List Arc) : Prop where
  le : j ≤ l.length
  pos : 1 ≤ j
  len : M.length = l.length
  pre : M.take (cptK l j).length = cptK l j
  post : M.drop (j - 1) = l.drop (j - 1)
  low : (cptK l j).length ≤ j - 1
theorem CS.at {l M : List Arc} {j i : Nat} (s : CS l j M) (h : j - 1 ≤ i) (hi : i < l.length) : M.getD i default = l.getD i default := by
  have e : (M.drop (j - 1))[i - (j - 1)]? = (l.drop (j - 1))[i - (j - 1)]? := by rw [s.post]
  rw [List.getElem?_drop, List.getElem?_drop, show j - 1 + (i - (j - 1)) = i by omega] at e
  rw [List.getD_eq_getElem?_getD, List.getD_eq_getElem?_getD, e]
theorem drop_more {M l : List Arc} {a b : Nat} (h : M.drop a = l.drop a) (hab : a ≤ b) : M.drop b = l.drop b := by
  rw [show b = a + (b - a) by omega, ← List.drop_drop, h, List.drop_drop]
theorem CS.skip {l M : List Arc} {j : Nat} (s : CS l j M) (h : j < l.length) (hq : (l.getD j default).at0 = (l.getD (j - 1) default).at0) : CS l (j + 1) M ∧ (cptK l (j + 1)).length = (cptK l j).length := by
  have hp := s.pos
  have hlow := s.low
  have e : cptK l (j + 1) = cptK l j := by rw [cptK, if_pos ⟨hp, hq⟩, List.append_nil]
  exact ⟨⟨h, by omega, s.len, by rw [e]; exact s.pre, drop_more s.post (by omega), by rw [e]; omega⟩, by rw [e]⟩
theorem CS.keep {l M : List Arc} {j : Nat} (s : CS l j M) (h : j < l.length) (hq : ¬ (l.getD j default).at0 = (l.getD (j - 1) default).at0) : CS l (j + 1) (M.set (cptK l j).length (l.getD j default)) ∧ (cptK l (j + 1)).length = (cptK l j).length + 1 := by
  have hp := s.pos
  have hlow := s.low
  have hlen := s.len
  have e : cptK l (j + 1) = cptK l j ++ [l.getD j default] := by rw [cptK, if_neg fun h => hq h.2]
  have el : (cptK l (j + 1)).length = (cptK l j).length + 1 := by rw [e]; simp
  refine ⟨⟨h, by omega, by rw [List.length_set, s.len], ?_, ?_, by omega⟩, el⟩
  · rw [el, List.take_succ_eq_append_getElem (by rw [List.length_set, s.len]; omega), List.take_set_of_le (Nat.le_refl _), s.pre, e]
    simp
  · rw [List.drop_set_of_lt (by omega)]
    exact drop_more s.post (by omega)
theorem cptK_take {l : List Arc} : ∀ {k : Nat}, k ≤ l.length → (∀ j, 1 ≤ j → j < k → ¬ (l.getD j default).at0 = (l.getD (j - 1) default).at0) → cptK l k = l.take k
  | 0, _, _ => by rw [cptK, List.take_zero]
  | k + 1, hk, h => by
    rw [cptK, cptK_take (by omega) fun j h1 h2 => h j h1 (by omega), if_neg (fun hc => h k hc.1 (by omega) hc.2), List.take_succ_eq_append_getElem (by omega), getD_get (by omega)]

theorem compact_p (l : List Arc) (x0 : Value) (hl : l.length ≤ 100000) :
    FnC Tryd.prog 44 [.ref 60 x0, .fn (.func 45) []] [(60, .own x0 38 2 l.length (gOf Arc.cells l))]
      (fun r F' => ∃ y, r = .ref 60 y ∧ F' = [(60, .own y 38 2 (cptK l l.length).length (gOf Arc.cells (cptK l l.length)))]) := by
  refine FnC.intro Tryd.func44 rfl Tryd.ntmps44 rfl ?_; intro off w0
  refine formOwn 60 rfl fun A cap hx hcap => ?_
  subst hx
  obtain ⟨ET, hET⟩ : ∃ ET, ET = 38 := ⟨_, rfl⟩
  ((repeat refine S.seq ?_); refine S.region (L.go (T := tt) tt_ok rfl rfl ?sd2 ?_); (try (case sd2 => (repeat' ((first | first | exact trivial | exact zA | with_reducible refine zI ?_ ?_ | exact zB | exact zC | exact zD | exact zE | rfl | exact zN rfl | omega | assumption | (simp; done) | (simp [splice]; done) | (simp; omega) | (unfold fits; omega) | (unfold fits; simp_all; omega) | (simp_all; omega) | (simp_all; done) | intro _ | exact zI ?_ ?_ | intro _))))); try (refine L.nil ?_))
  ((repeat refine S.seq ?_); refine S.region (L.go (T := tt) tt_ok rfl rfl ?sd3 ?_); (try (case sd3 => (repeat' ((first | first | exact trivial | exact zA | with_reducible refine zI ?_ ?_ | exact zB | exact zC | exact zD | exact zE | rfl | exact zN rfl | omega | assumption | (simp; done) | (simp [splice]; done) | (simp; omega) | (unfold fits; omega) | (unfold fits; simp_all; omega) | (simp_all; omega) | (simp_all; done) | intro _ | exact zI ?_ ?_ | intro _))))); try (refine L.nil ?_))
  ((repeat refine S.seq ?_); refine S.cond rfl (fun h1 => ?_) (fun h1 => ?_) <;> (try first | refine S.skip ?_ | refine S.exit ?_))
  · have h1 := of_dec h1
    ((repeat refine S.seq ?_); refine S.region (L.go (T := tt) tt_ok rfl rfl ?sd4 ?_); (try (case sd4 => (repeat' ((first | first | exact trivial | exact zA | with_reducible refine zI ?_ ?_ | exact zB | exact zC | exact zD | exact zE | rfl | exact zN rfl | omega | assumption | (simp; done) | (simp [splice]; done) | (simp; omega) | (unfold fits; omega) | (unfold fits; simp_all; omega) | (simp_all; omega) | (simp_all; done) | intro _ | exact zI ?_ ?_ | intro _))))); try (refine L.nil ?_))
    have e : cptK l l.length = l := by
      rw [cptK_take (Nat.le_refl _) (fun j h2 h3 => by omega), List.take_length]
    ((repeat refine S.seq ?_); refine S.ret ?_)
    exact E.ret (T := tt) tt_ok rfl rfl (by (repeat' ((first | first | exact trivial | exact zA | with_reducible refine zI ?_ ?_ | exact zB | exact zC | exact zD | exact zE | rfl | exact zN rfl | omega | assumption | (simp; done) | (simp [splice]; done) | (simp; omega) | (unfold fits; omega) | (unfold fits; simp_all; omega) | (simp_all; omega) | (simp_all; done) | intro _ | exact zI ?_ ?_ | intro _)))) (F' := [(60, .own (.slice A l.length cap) 38 2 l.length (gOf Arc.cells l))]) (Imp.refl _) (by (repeat (first | exact List.nil_sublist _ | refine List.Sublist.cons_cons _ ?_ | refine List.Sublist.cons _ ?_))) ⟨_, rfl, by rw [e]⟩
  have h1 := of_dec' h1
  ((repeat refine S.seq ?_); refine S.region (L.go (T := tt) tt_ok rfl rfl ?sd5 ?_); (try (case sd5 => (repeat' ((first | first | exact trivial | exact zA | with_reducible refine zI ?_ ?_ | exact zB | exact zC | exact zD | exact zE | rfl | exact zN rfl | omega | assumption | (simp; done) | (simp [splice]; done) | (simp; omega) | (unfold fits; omega) | (unfold fits; simp_all; omega) | (simp_all; omega) | (simp_all; done) | intro _ | exact zI ?_ ?_ | intro _))))); try (refine L.nil ?_))
  repeat refine S.seq ?_
  refine S.cut (ι := { u : Unit // ∀ j, 1 ≤ j → j < l.length → ¬ (l.getD j default).at0 = (l.getD (j - 1) default).at0 }) (fun _ => [(0, .ref 60 (.slice A l.length cap))]) (fun _ => [(60, .own (.slice A l.length cap) 38 2 l.length (gOf Arc.cells l))]) ?_ ?_
  · refine S.block (S.loop (ι := { k : Nat // 1 ≤ k ∧ k ≤ l.length ∧ ∀ j, 1 ≤ j → j < k → ¬ (l.getD j default).at0 = (l.getD (j - 1) default).at0 }) (fun k => [(0, .ref 60 (.slice A l.length cap)), (1, .fn (.func 45) []), (5, .v (.int .i64 k.1))])
      (fun k => [(60, .own (.slice A l.length cap) 38 2 l.length (gOf Arc.cells l))]) (fun k => l.length - k.1) ?_ ?_)
    · exact fun a w h => ⟨⟨1, Nat.le_refl _, by omega, fun j g1 g2 => by omega⟩, h.weakP (by (repeat' (first | exact True.intro | exact Imp.refl _ | refine ⟨?_, ?_⟩))) (by (repeat (first | exact Sub.refl _ | refine Sub.pick (by first | exact p0 | exact pS p0 | exact pS (pS p0) | exact pS (pS (pS p0)) | exact pS (pS (pS (pS p0))) | exact pS (pS (pS (pS (pS p0))))) ?_)))⟩
    rintro ⟨k, k1, hk, ik⟩
    dsimp only
    ((repeat refine S.seq ?_); refine S.region (L.go (T := tt) tt_ok rfl rfl ?sd6 ?_); (try (case sd6 => (repeat' ((first | first | exact trivial | exact zA | with_reducible refine zI ?_ ?_ | exact zB | exact zC | exact zD | exact zE | rfl | exact zN rfl | omega | assumption | (simp; done) | (simp [splice]; done) | (simp; omega) | (unfold fits; omega) | (unfold fits; simp_all; omega) | (simp_all; omega) | (simp_all; done) | intro _ | exact zI ?_ ?_ | intro _))))); try (refine L.nil ?_))
    ((repeat refine S.seq ?_); refine S.cond rfl (fun h2 => ?_) (fun h2 => ?_) <;> (try first | refine S.skip ?_ | refine S.exit ?_))
    · have h2 : k < l.length := by have := of_dec h2; omega
      have ek : ((k : Int) - 1).toNat = k - 1 := by omega
      repeat refine S.seq ?_
      refine S.block ?_
      repeat refine S.seq ?_
      refine S.draw [(4, [60]), (9, [60])] mixed ?_
      (refine H.ts (T := tt) [0, 1, 2, 3, 4, 5, 6, 7, 8, 9] tt_ok (by kernel_rfl) (by kernel_rfl) (by kernel_rfl) (by intro ch a a' w h; obtain ⟨_, _, _, _, _, h, _⟩ := h; cases h) rfl ?sd22 ?_; (try (case sd22 => (repeat' ((first | first | exact trivial | exact zA | with_reducible refine zI ?_ ?_ | exact zB | exact zC | exact zD | exact zE | rfl | exact zN rfl | omega | assumption | (simp; done) | (simp [splice]; done) | (simp; omega) | (unfold fits; omega) | (unfold fits; simp_all; omega) | (simp_all; omega) | (simp_all; done) | intro _ | exact zI ?_ ?_ | intro _))))))
      refine H.callP 10 rfl (by kernel_rfl) (by kernel_rfl) rfl rfl rfl rfl rfl rfl rfl ⟨trivial, by (repeat' ((first | first | exact trivial | exact zA | with_reducible refine zI ?_ ?_ | exact zB | exact zC | exact zD | exact zE | rfl | exact zN rfl | omega | assumption | (simp; done) | (simp [splice]; done) | (simp; omega) | (unfold fits; omega) | (unfold fits; simp_all; omega) | (simp_all; omega) | (simp_all; done) | intro _ | exact zI ?_ ?_ | intro _)))⟩ rfl (by exact Imps.refl _) (build3_p (l.getD k default) (l.getD ((k : Int) - 1).toNat default)) ?_
      refine H.done (by kernel_rfl) ?_
      ((repeat refine S.seq ?_); refine S.cond rfl (fun h3 => ?_) (fun h3 => ?_) <;> (try first | refine S.skip ?_ | refine S.exit ?_))
      · have h3 : (l.getD k default).at0 = (l.getD (k - 1) default).at0 := by rw [← ek]; exact of_dec h3
        have s0 : CS l (k + 1) l := by
          have e : cptK l (k + 1) = l.take k := by rw [cptK, if_pos ⟨k1, h3⟩, List.append_nil, cptK_take hk ik]
          refine ⟨h2, by omega, rfl, ?_, rfl, ?_⟩
          · rw [e, List.length_take, Nat.min_eq_left hk]
          · rw [e, List.length_take]; omega
        have ekn : (k : Int).toNat = k := by omega
        repeat refine S.seq ?_
        refine S.region ?_
        (refine L.go (T := tt) tt_ok rfl rfl ?sd14 ?_; (try (case sd14 => (repeat' ((first | first | exact trivial | exact zA | with_reducible refine zI ?_ ?_ | exact zB | exact zC | exact zD | exact zE | rfl | exact zN rfl | omega | assumption | (simp; done) | (simp [splice]; done) | (simp; omega) | (unfold fits; omega) | (unfold fits; simp_all; omega) | (simp_all; omega) | (simp_all; done) | intro _ | exact zI ?_ ?_ | intro _))))); try (refine L.nil ?_))
        refine L.of (O.sliceTail (T := tt) tt_ok rfl rfl rfl rfl rfl rfl rfl rfl rfl (by (repeat' ((first | first | exact trivial | exact zA | with_reducible refine zI ?_ ?_ | exact zB | exact zC | exact zD | exact zE | rfl | exact zN rfl | omega | assumption | (simp; done) | (simp [splice]; done) | (simp; omega) | (unfold fits; omega) | (unfold fits; simp_all; omega) | (simp_all; omega) | (simp_all; done) | intro _ | exact zI ?_ ?_ | intro _))))) fun _ => ?_
        (refine L.go (T := tt) tt_ok rfl rfl ?sd15 ?_; (try (case sd15 => (repeat' ((first | first | exact trivial | exact zA | with_reducible refine zI ?_ ?_ | exact zB | exact zC | exact zD | exact zE | rfl | exact zN rfl | omega | assumption | (simp; done) | (simp [splice]; done) | (simp; omega) | (unfold fits; omega) | (unfold fits; simp_all; omega) | (simp_all; omega) | (simp_all; done) | intro _ | exact zI ?_ ?_ | intro _))))); try (refine L.nil ?_))
        ((repeat refine S.seq ?_); refine S.region (L.go (T := tt) tt_ok rfl rfl ?sd7 ?_); (try (case sd7 => (repeat' ((first | first | exact trivial | exact zA | with_reducible refine zI ?_ ?_ | exact zB | exact zC | exact zD | exact zE | rfl | exact zN rfl | omega | assumption | (simp; done) | (simp [splice]; done) | (simp; omega) | (unfold fits; omega) | (unfold fits; simp_all; omega) | (simp_all; omega) | (simp_all; done) | intro _ | exact zI ?_ ?_ | intro _))))); try (refine L.nil ?_))
        repeat refine S.seq ?_
        refine S.block (S.loop (ι := { p : Nat × List Arc // CS l p.1 p.2 ∧ k + 1 ≤ p.1 }) (fun p => [(0, .ref 60 (.slice A l.length cap)), (1, .fn (.func 45) []), (5, .v (.int .i64 ((cptK l p.1.1).length : Int))), (6, .v (restW 2 (.slice A l.length cap) k)), (7, .v (.int .i64 ((p.1.1 - k : Nat) : Int)))])
          (fun p => [(60, .own (.slice A l.length cap) 38 2 l.length (gOf Arc.cells p.1.2))]) (fun p => l.length - p.1.1) ?_ ?_)
        · refine slotAs 5 (.v (.int .i64 ((cptK l (k + 1)).length : Int))) rfl (Imp.of_eq ?_) ?_
          · rw [cptK, if_pos ⟨k1, h3⟩, List.append_nil, cptK_take hk ik, List.length_take, Nat.min_eq_left hk]
          refine slotAs 7 (.v (.int .i64 ((k + 1 - k : Nat) : Int))) rfl (Imp.of_eq (by rw [show k + 1 - k = 1 by omega]; rfl)) ?_
          exact fun a w h => ⟨⟨(k + 1, l), s0, Nat.le_refl _⟩, h.weakP (by (repeat' (first | exact True.intro | exact Imp.refl _ | refine ⟨?_, ?_⟩))) (by (repeat (first | exact Sub.refl _ | refine Sub.pick (by first | exact p0 | exact pS p0 | exact pS (pS p0) | exact pS (pS (pS p0)) | exact pS (pS (pS (pS p0))) | exact pS (pS (pS (pS (pS p0))))) ?_)))⟩
        rintro ⟨⟨j, M⟩, s, hj0⟩
        dsimp only at s hj0 ⊢
        have sle := s.le
        have slen := s.len
        have slow := s.low
        ((repeat refine S.seq ?_); refine S.region (L.go (T := tt) tt_ok rfl rfl ?sd8 ?_); (try (case sd8 => (repeat' ((first | first | exact trivial | exact zA | with_reducible refine zI ?_ ?_ | exact zB | exact zC | exact zD | exact zE | rfl | exact zN rfl | omega | assumption | (simp; done) | (simp [splice]; done) | (simp; omega) | (unfold fits; omega) | (unfold fits; simp_all; omega) | (simp_all; omega) | (simp_all; done) | intro _ | exact zI ?_ ?_ | intro _))))); try (refine L.nil ?_))
        ((repeat refine S.seq ?_); refine S.cond rfl (fun h4 => ?_) (fun h4 => ?_) <;> (try first | refine S.skip ?_ | refine S.exit ?_))
        · have h4 : j < l.length := by have := of_dec h4; omega
          have at1 := s.at (show j - 1 ≤ j by omega) h4
          have at2 := s.at (show j - 1 ≤ j - 1 by omega) (show j - 1 < l.length by omega)
          have ej1 : k + ((j - k : Nat) : Int).toNat = j := by omega
          have ej2 : k + (((j - k : Nat) : Int) - 1).toNat = j - 1 := by omega
          repeat refine S.seq ?_
          refine S.block ?_
          repeat refine S.seq ?_
          refine S.draw [(4, [60]), (9, [60])] mixed ?_
          (refine H.ts (T := tt) [0, 1, 2] tt_ok (by kernel_rfl) (by kernel_rfl) (by kernel_rfl) (by intro ch a a' w h; obtain ⟨_, _, _, _, _, h, _⟩ := h; cases h) rfl ?sd23 ?_; (try (case sd23 => (repeat' ((first | first | exact trivial | exact zA | with_reducible refine zI ?_ ?_ | exact zB | exact zC | exact zD | exact zE | rfl | exact zN rfl | omega | assumption | (simp; done) | (simp [splice]; done) | (simp; omega) | (unfold fits; omega) | (unfold fits; simp_all; omega) | (simp_all; omega) | (simp_all; done) | intro _ | exact zI ?_ ?_ | intro _))))))
          refine H.s1 3 (A := .eptr 60 (.slice A l.length cap) 2 (k + ((j - k : Nat) : Int).toNat) 0) rfl (by kernel_rfl) (by kernel_rfl) (by kernel_rfl) (by kernel_rfl) (by kernel_rfl) (by intro ch a a' w h; obtain ⟨_, _, _, _, _, h, _⟩ := h; cases h) rfl rfl (by kernel_rfl) (tail_sure (T := tt) tt_ok rfl rfl rfl rfl rfl rfl rfl ⟨trivial, trivial, by omega, by omega⟩) ?_
          (refine H.ts (T := tt) [4, 5, 6, 7] tt_ok (by kernel_rfl) (by kernel_rfl) (by kernel_rfl) (by intro ch a a' w h; obtain ⟨_, _, _, _, _, h, _⟩ := h; cases h) rfl ?sd24 ?_; (try (case sd24 => (repeat' ((first | first | exact trivial | exact zA | with_reducible refine zI ?_ ?_ | exact zB | exact zC | exact zD | exact zE | rfl | exact zN rfl | omega | assumption | (simp; done) | (simp [splice]; done) | (simp; omega) | (unfold fits; omega) | (unfold fits; simp_all; omega) | (simp_all; omega) | (simp_all; done) | intro _ | exact zI ?_ ?_ | intro _))))))
          refine H.s1 8 (A := .eptr 60 (.slice A l.length cap) 2 (k + (((j - k : Nat) : Int) - 1).toNat) 0) rfl (by kernel_rfl) (by kernel_rfl) (by kernel_rfl) (by kernel_rfl) (by kernel_rfl) (by intro ch a a' w h; obtain ⟨_, _, _, _, _, h, _⟩ := h; cases h) rfl rfl (by kernel_rfl) (tail_sure (T := tt) tt_ok rfl rfl rfl rfl rfl rfl rfl ⟨trivial, by (repeat' ((first | first | exact trivial | exact zA | with_reducible refine zI ?_ ?_ | exact zB | exact zC | exact zD | exact zE | rfl | exact zN rfl | omega | assumption | (simp; done) | (simp [splice]; done) | (simp; omega) | (unfold fits; omega) | (unfold fits; simp_all; omega) | (simp_all; omega) | (simp_all; done) | intro _ | exact zI ?_ ?_ | intro _))), by omega, by omega⟩) ?_
          (refine H.ts (T := tt) [9] tt_ok (by kernel_rfl) (by kernel_rfl) (by kernel_rfl) (by intro ch a a' w h; obtain ⟨_, _, _, _, _, h, _⟩ := h; cases h) rfl ?sd25 ?_; (try (case sd25 => (repeat' ((first | first | exact trivial | exact zA | with_reducible refine zI ?_ ?_ | exact zB | exact zC | exact zD | exact zE | rfl | exact zN rfl | omega | assumption | (simp; done) | (simp [splice]; done) | (simp; omega) | (unfold fits; omega) | (unfold fits; simp_all; omega) | (simp_all; omega) | (simp_all; done) | intro _ | exact zI ?_ ?_ | intro _))))))
          refine H.callP 10 rfl (by kernel_rfl) (by kernel_rfl) rfl rfl rfl rfl rfl rfl rfl ⟨trivial, by (repeat' ((first | first | exact trivial | exact zA | with_reducible refine zI ?_ ?_ | exact zB | exact zC | exact zD | exact zE | rfl | exact zN rfl | omega | assumption | (simp; done) | (simp [splice]; done) | (simp; omega) | (unfold fits; omega) | (unfold fits; simp_all; omega) | (simp_all; omega) | (simp_all; done) | intro _ | exact zI ?_ ?_ | intro _)))⟩ rfl (by exact Imps.refl _) (build3_p (M.getD (k + ((j - k : Nat) : Int).toNat) default) (M.getD (k + (((j - k : Nat) : Int) - 1).toNat) default)) ?_
          (refine H.ts (T := tt) [11] tt_ok (by kernel_rfl) (by kernel_rfl) (by kernel_rfl) (by intro ch a a' w h; obtain ⟨_, _, _, _, _, h, _⟩ := h; cases h) rfl ?sd26 ?_; (try (case sd26 => (repeat' ((first | first | exact trivial | exact zA | with_reducible refine zI ?_ ?_ | exact zB | exact zC | exact zD | exact zE | rfl | exact zN rfl | omega | assumption | (simp; done) | (simp [splice]; done) | (simp; omega) | (unfold fits; omega) | (unfold fits; simp_all; omega) | (simp_all; omega) | (simp_all; done) | intro _ | exact zI ?_ ?_ | intro _))))))
          refine H.done (by kernel_rfl) ?_
          rw [ej1, ej2, at1, at2]
          refine S.cut (ι := { p : List Arc // CS l (j + 1) p }) (fun p => [(0, .ref 60 (.slice A l.length cap)), (1, .fn (.func 45) []), (5, .v (.int .i64 ((cptK l (j + 1)).length : Int))), (6, .v (restW 2 (.slice A l.length cap) k)), (7, .v (.int .i64 ((j - k : Nat) : Int)))])
            (fun p => [(60, .own (.slice A l.length cap) 38 2 l.length (gOf Arc.cells p.1))]) ?_ ?_
          · ((repeat refine S.seq ?_); refine S.cond rfl (fun h5 => ?_) (fun h5 => ?_) <;> (try first | refine S.skip ?_ | refine S.exit ?_))
            · have hq : ¬ (l.getD j default).at0 = (l.getD (j - 1) default).at0 := by simpa using h5
              obtain ⟨s1, s2⟩ := s.keep h4 hq
              repeat refine S.seq ?_
              refine S.region ?_
              (refine L.go (T := tt) tt_ok rfl rfl ?sd16 ?_; (try (case sd16 => (repeat' ((first | first | exact trivial | exact zA | with_reducible refine zI ?_ ?_ | exact zB | exact zC | exact zD | exact zE | rfl | exact zN rfl | omega | assumption | (simp; done) | (simp [splice]; done) | (simp; omega) | (unfold fits; omega) | (unfold fits; simp_all; omega) | (simp_all; omega) | (simp_all; done) | intro _ | exact zI ?_ ?_ | intro _))))); try (refine L.nil ?_))
              refine L.sure (rd := []) (A := .eptr 60 (.slice A l.length cap) 2 (k + ((j - k : Nat) : Int).toNat) 0) (tail_sure (T := tt) tt_ok rfl rfl rfl rfl rfl rfl rfl ⟨trivial, trivial, by omega, by omega⟩) rfl rfl (by kernel_rfl) ?_
              (refine L.go (T := tt) tt_ok rfl rfl ?sd17 ?_; (try (case sd17 => (repeat' ((first | first | exact trivial | exact zA | with_reducible refine zI ?_ ?_ | exact zB | exact zC | exact zD | exact zE | rfl | exact zN rfl | omega | assumption | (simp; done) | (simp [splice]; done) | (simp; omega) | (unfold fits; omega) | (unfold fits; simp_all; omega) | (simp_all; omega) | (simp_all; done) | intro _ | exact zI ?_ ?_ | intro _))))); try (refine L.nil ?_))
              (refine L.store (T := tt) tt_ok rfl rfl rfl rfl rfl rfl ?sd21 ?_; (try (case sd21 => (repeat' ((first | first | exact trivial | exact zA | with_reducible refine zI ?_ ?_ | exact zB | exact zC | exact zD | exact zE | rfl | exact zN rfl | omega | assumption | (simp; done) | (simp [splice]; done) | (simp; omega) | (unfold fits; omega) | (unfold fits; simp_all; omega) | (simp_all; omega) | (simp_all; done) | intro _ | exact zI ?_ ?_ | intro _))))))
              refine L.nil ?_
              refine ownAs 60 (gOf Arc.cells (M.set (cptK l j).length (l.getD j default))) rfl rfl (fun i hil => ?_) ?_
              · show (if i = (((cptK l j).length : Nat) : Int).toNat then Arc.cells (M.getD (k + ((j - k : Nat) : Int).toNat) default) else Arc.cells (M.getD i default)) = Arc.cells ((M.set (cptK l j).length (l.getD j default)).getD i default)
                rw [ej1, Int.toNat_natCast, List.getD_eq_getElem?_getD (l := M.set _ _), List.getElem?_set]
                by_cases e : i = (cptK l j).length
                · rw [if_pos e, if_pos e.symm, if_pos (by omega), at1]; rfl
                · rw [if_neg e, if_neg (fun e' => e e'.symm), ← List.getD_eq_getElem?_getD]
              ((repeat refine S.seq ?_); refine S.region (L.go (T := tt) tt_ok rfl rfl ?sd9 ?_); (try (case sd9 => (repeat' ((first | first | exact trivial | exact zA | with_reducible refine zI ?_ ?_ | exact zB | exact zC | exact zD | exact zE | rfl | exact zN rfl | omega | assumption | (simp; done) | (simp [splice]; done) | (simp; omega) | (unfold fits; omega) | (unfold fits; simp_all; omega) | (simp_all; omega) | (simp_all; done) | intro _ | exact zI ?_ ?_ | intro _))))); try (refine L.nil ?_))
              refine slotAs 5 (.v (.int .i64 ((cptK l (j + 1)).length : Int))) rfl (Imp.of_eq (by rw [s2]; rfl)) ?_
              exact fun a w hR => ⟨⟨_, s1⟩, hR.weakP (by (repeat' (first | exact True.intro | exact Imp.refl _ | refine ⟨?_, ?_⟩))) (by (repeat (first | exact Sub.refl _ | refine Sub.pick (by first | exact p0 | exact pS p0 | exact pS (pS p0) | exact pS (pS (pS p0)) | exact pS (pS (pS (pS p0))) | exact pS (pS (pS (pS (pS p0))))) ?_)))⟩
            · have hq : (l.getD j default).at0 = (l.getD (j - 1) default).at0 := by simpa using h5
              obtain ⟨s1, s2⟩ := s.skip h4 hq
              refine slotAs 5 (.v (.int .i64 ((cptK l (j + 1)).length : Int))) rfl (Imp.of_eq (by rw [s2])) ?_
              exact fun a w hR => ⟨⟨_, s1⟩, hR.weakP (by (repeat' (first | exact True.intro | exact Imp.refl _ | refine ⟨?_, ?_⟩))) (by (repeat (first | exact Sub.refl _ | refine Sub.pick (by first | exact p0 | exact pS p0 | exact pS (pS p0) | exact pS (pS (pS p0)) | exact pS (pS (pS (pS p0))) | exact pS (pS (pS (pS (pS p0))))) ?_)))⟩
          rintro ⟨L2, s1⟩
          dsimp only
          ((repeat refine S.seq ?_); refine S.region (L.go (T := tt) tt_ok rfl rfl ?sd10 ?_); (try (case sd10 => (repeat' ((first | first | exact trivial | exact zA | with_reducible refine zI ?_ ?_ | exact zB | exact zC | exact zD | exact zE | rfl | exact zN rfl | omega | assumption | (simp; done) | (simp [splice]; done) | (simp; omega) | (unfold fits; omega) | (unfold fits; simp_all; omega) | (simp_all; omega) | (simp_all; done) | intro _ | exact zI ?_ ?_ | intro _))))); try (refine L.nil ?_))
          refine slotAs 7 (.v (.int .i64 ((j + 1 - k : Nat) : Int))) rfl (Imp.of_eq (by rw [show ((j + 1 - k : Nat) : Int) = ((j - k : Nat) : Int) + 1 by omega])) ?_
          exact fun a w hR => ⟨⟨(j + 1, L2), s1, by omega⟩, by show l.length - (j + 1) < l.length - j; omega, hR.weakP (by (repeat' (first | exact True.intro | exact Imp.refl _ | refine ⟨?_, ?_⟩))) (by (repeat (first | exact Sub.refl _ | refine Sub.pick (by first | exact p0 | exact pS p0 | exact pS (pS p0) | exact pS (pS (pS p0)) | exact pS (pS (pS (pS p0))) | exact pS (pS (pS (pS (pS p0))))) ?_)))⟩
        have h4 := of_dec' h4
        have hj : j = l.length := by omega
        repeat refine S.seq ?_
        refine S.region ?_
        (refine L.go (T := tt) tt_ok rfl rfl ?sd18 ?_; (try (case sd18 => (repeat' ((first | first | exact trivial | exact zA | with_reducible refine zI ?_ ?_ | exact zB | exact zC | exact zD | exact zE | rfl | exact zN rfl | omega | assumption | (simp; done) | (simp [splice]; done) | (simp; omega) | (unfold fits; omega) | (unfold fits; simp_all; omega) | (simp_all; omega) | (simp_all; done) | intro _ | exact zI ?_ ?_ | intro _))))); try (refine L.nil ?_))
        refine L.clearTail (T := tt) tt_ok rfl rfl rfl rfl rfl rfl rfl rfl rfl (by (repeat' ((first | first | exact trivial | exact zA | with_reducible refine zI ?_ ?_ | exact zB | exact zC | exact zD | exact zE | rfl | exact zN rfl | omega | assumption | (simp; done) | (simp [splice]; done) | (simp; omega) | (unfold fits; omega) | (unfold fits; simp_all; omega) | (simp_all; omega) | (simp_all; done) | intro _ | exact zI ?_ ?_ | intro _)))) rfl rfl rfl rfl (by (repeat' ((first | first | exact trivial | exact zA | with_reducible refine zI ?_ ?_ | exact zB | exact zC | exact zD | exact zE | rfl | exact zN rfl | omega | assumption | (simp; done) | (simp [splice]; done) | (simp; omega) | (unfold fits; omega) | (unfold fits; simp_all; omega) | (simp_all; omega) | (simp_all; done) | intro _ | exact zI ?_ ?_ | intro _)))) ?_
        refine L.nil ?_
        repeat refine S.seq ?_
        refine S.region ?_
        (refine L.go (T := tt) tt_ok rfl rfl ?sd19 ?_; (try (case sd19 => (repeat' ((first | first | exact trivial | exact zA | with_reducible refine zI ?_ ?_ | exact zB | exact zC | exact zD | exact zE | rfl | exact zN rfl | omega | assumption | (simp; done) | (simp [splice]; done) | (simp; omega) | (unfold fits; omega) | (unfold fits; simp_all; omega) | (simp_all; omega) | (simp_all; done) | intro _ | exact zI ?_ ?_ | intro _))))); try (refine L.nil ?_))
        refine L.sliceHead (T := tt) tt_ok rfl rfl rfl rfl rfl rfl rfl rfl rfl (by (repeat' ((first | first | exact trivial | exact zA | with_reducible refine zI ?_ ?_ | exact zB | exact zC | exact zD | exact zE | rfl | exact zN rfl | omega | assumption | (simp; done) | (simp [splice]; done) | (simp; omega) | (unfold fits; omega) | (unfold fits; simp_all; omega) | (simp_all; omega) | (simp_all; done) | intro _ | exact zI ?_ ?_ | intro _)))) ?_
        (refine L.go (T := tt) tt_ok rfl rfl ?sd20 ?_; (try (case sd20 => (repeat' ((first | first | exact trivial | exact zA | with_reducible refine zI ?_ ?_ | exact zB | exact zC | exact zD | exact zE | rfl | exact zN rfl | omega | assumption | (simp; done) | (simp [splice]; done) | (simp; omega) | (unfold fits; omega) | (unfold fits; simp_all; omega) | (simp_all; omega) | (simp_all; done) | intro _ | exact zI ?_ ?_ | intro _))))); try (refine L.nil ?_))
        refine ownAs 60 (n' := (cptK l l.length).length) (gOf Arc.cells (cptK l l.length)) rfl (by rw [← hj]; rfl) (fun i hi => ?_) ?_
        · show (if i < (cptK l j).length then Arc.cells (M.getD i default) else _) = Arc.cells ((cptK l l.length).getD i default)
          have hi' : i < (cptK l j).length := hi
          have hpre := s.pre
          rw [if_pos hi', ← hj, List.getD_eq_getElem?_getD, List.getD_eq_getElem?_getD (l := cptK l j), ← congrArg (fun z => z[i]?) hpre]
          rw [List.getElem?_take, if_pos hi']
        ((repeat refine S.seq ?_); refine S.ret ?_)
        exact E.ret (T := tt) tt_ok rfl rfl (by (repeat' ((first | first | exact trivial | exact zA | with_reducible refine zI ?_ ?_ | exact zB | exact zC | exact zD | exact zE | rfl | exact zN rfl | omega | assumption | (simp; done) | (simp [splice]; done) | (simp; omega) | (unfold fits; omega) | (unfold fits; simp_all; omega) | (simp_all; omega) | (simp_all; done) | intro _ | exact zI ?_ ?_ | intro _)))) (F' := [(60, .own _ 38 2 (cptK l l.length).length (gOf Arc.cells (cptK l l.length)))]) (Imp.refl _) (by (repeat (first | exact List.nil_sublist _ | refine List.Sublist.cons_cons _ ?_ | refine List.Sublist.cons _ ?_))) ⟨_, rfl, rfl⟩
      have h3 : ¬ (l.getD k default).at0 = (l.getD (k - 1) default).at0 := by rw [← ek]; exact of_dec' h3
      ((repeat refine S.seq ?_); refine S.region (L.go (T := tt) tt_ok rfl rfl ?sd11 ?_); (try (case sd11 => (repeat' ((first | first | exact trivial | exact zA | with_reducible refine zI ?_ ?_ | exact zB | exact zC | exact zD | exact zE | rfl | exact zN rfl | omega | assumption | (simp; done) | (simp [splice]; done) | (simp; omega) | (unfold fits; omega) | (unfold fits; simp_all; omega) | (simp_all; omega) | (simp_all; done) | intro _ | exact zI ?_ ?_ | intro _))))); try (refine L.nil ?_))
      refine fun a w hR => ⟨⟨k + 1, by omega, by omega, fun j g1 g2 => ?_⟩, by show l.length - (k + 1) < l.length - k; omega, hR.weakP (by (repeat' (first | exact True.intro | exact Imp.refl _ | refine ⟨?_, ?_⟩))) (by (repeat (first | exact Sub.refl _ | refine Sub.pick (by first | exact p0 | exact pS p0 | exact pS (pS p0) | exact pS (pS (pS p0)) | exact pS (pS (pS (pS p0))) | exact pS (pS (pS (pS (pS p0))))) ?_)))⟩
      by_cases e : j = k
      · rw [e]; exact h3
      · exact ik j g1 (by omega)
    have h2 := of_dec' h2
    exact fun a w hR => ⟨⟨(), fun j g1 g2 => ik j g1 (by omega)⟩, hR.weakP (by (repeat' (first | exact True.intro | exact Imp.refl _ | refine ⟨?_, ?_⟩))) (by (repeat (first | exact Sub.refl _ | refine Sub.pick (by first | exact p0 | exact pS p0 | exact pS (pS p0) | exact pS (pS (pS p0)) | exact pS (pS (pS (pS p0))) | exact pS (pS (pS (pS (pS p0))))) ?_)))⟩
  rintro ⟨-, hno⟩
  have e : cptK l l.length = l := by rw [cptK_take (Nat.le_refl _) hno, List.take_length]
  ((repeat refine S.seq ?_); refine S.region (L.go (T := tt) tt_ok rfl rfl ?sd12 ?_); (try (case sd12 => (repeat' ((first | first | exact trivial | exact zA | with_reducible refine zI ?_ ?_ | exact zB | exact zC | exact zD | exact zE | rfl | exact zN rfl | omega | assumption | (simp; done) | (simp [splice]; done) | (simp; omega) | (unfold fits; omega) | (unfold fits; simp_all; omega) | (simp_all; omega) | (simp_all; done) | intro _ | exact zI ?_ ?_ | intro _))))); try (refine L.nil ?_))
  ((repeat refine S.seq ?_); refine S.ret ?_)
  exact E.ret (T := tt) tt_ok rfl rfl (by (repeat' ((first | first | exact trivial | exact zA | with_reducible refine zI ?_ ?_ | exact zB | exact zC | exact zD | exact zE | rfl | exact zN rfl | omega | assumption | (simp; done) | (simp [splice]; done) | (simp; omega) | (unfold fits; omega) | (unfold fits; simp_all; omega) | (simp_all; omega) | (simp_all; done) | intro _ | exact zI ?_ ?_ | intro _)))) (F' := [(60, .own (.slice A l.length cap) 38 2 l.length (gOf Arc.cells l))]) (Imp.refl _) (by (repeat (first | exact List.nil_sublist _ | refine List.Sublist.cons_cons _ ?_ | refine List.Sublist.cons _ ?_))) ⟨_, rfl, by rw [e]⟩
end Go.Proofs.YtlgdjmmjconbfaaDoor
