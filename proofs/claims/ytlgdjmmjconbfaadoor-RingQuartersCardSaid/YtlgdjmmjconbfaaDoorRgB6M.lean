/- RingQuarters: a shard that is halved, and whose half is halved again. -/
import Derived.Test.YtlgdjmmjconbfaaDoorRgB5M
namespace Go.Proofs.YtlgdjmmjconbfaaDoor
set_option linter.unusedVariables false
set_option linter.unusedSimpArgs false
set_option maxHeartbeats 8000000
open Go.RowKit
set_option maxRecDepth 4000

theorem one_may {f x : Int} (x0 : 0 ≤ x) (x1 : x < 16) : MayA [⟨f, x⟩] := may_to (by simp) (by simp) (fun a ha => by rw [List.mem_singleton.1 ha]; exact ⟨x0, x1⟩) (List.pairwise_singleton _ _)
theorem one_fit {f x : Int} (f0 : 0 ≤ f) (f1 : f < 4294967296) (x0 : 0 ≤ x) (x1 : x < 16) : Fit [⟨f, x⟩] := ⟨one_may x0 x1, fun a ha => by rw [List.mem_singleton.1 ha]; exact ⟨f0, f1⟩⟩
/-- The two halves of one arc. -/
theorem half_one {f x y : Int} (f0 : 0 ≤ f) (f1 : f < 4294967296) : hvS [⟨f, x⟩] x y = if f < 2147483648 then [⟨f, x⟩, ⟨f + 2147483648, y⟩] else [⟨f - 2147483648, y⟩, ⟨f, x⟩] := by
  have e : hv [⟨f, x⟩] (f + 4294967296) x y = [⟨f, x⟩, ⟨f + 2147483648, y⟩] := by
    rw [hv, hvE]
    have h : hd [] (f + 4294967296) = f + 4294967296 := rfl
    rw [h, if_pos ⟨rfl, by show f + 4294967296 - f ≥ 2; omega⟩]
    have : f + (f + 4294967296 - f) / 2 = f + 2147483648 := by omega
    show [_, (⟨f + (f + 4294967296 - f) / 2, y⟩ : Arc)] ++ _ = _
    rw [this]
    rfl
  show rot (hv [⟨f, x⟩] (f + 4294967296) x y) = _
  rw [e]
  unfold rot
  by_cases h : f < 2147483648
  · rw [if_pos h]
    simp [wrap, f1, show f + 2147483648 < 4294967296 by omega, show ¬ (4294967296 ≤ f) by omega, show ¬ 4294967296 ≤ f + 2147483648 by omega]
  · rw [if_neg h]
    simp [wrap, f1, show ¬ f + 2147483648 < 4294967296 by omega, show ¬ (4294967296 ≤ f) by omega, show 4294967296 ≤ f + 2147483648 by omega]
    omega
theorem quart {f x y z : Int} (f0 : 0 ≤ f) (f1 : f < 4294967296) (hxy : x ≠ y) (hyz : y ≠ z) (hxz : x ≠ z) :
    let l := hvS [⟨f, x⟩] x y
    hv l (E0 l) z z = l ∧ (hv l (E0 l) y z).length = 3 ∧ shr (hv l (E0 l) y z) (E0 l) x = 2147483648 ∧ shr (hv l (E0 l) y z) (E0 l) y = 1073741824 ∧ shr (hv l (E0 l) y z) (E0 l) z = 1073741824 := by
  have hyx : ¬ y = x := fun h => hxy h.symm
  have hzy : ¬ z = y := fun h => hyz h.symm
  have hzx : ¬ z = x := fun h => hxz h.symm
  rw [half_one f0 f1]
  by_cases h : f < 2147483648
  · rw [if_pos h]
    have e : E0 [⟨f, x⟩, ⟨f + 2147483648, y⟩] = f + 4294967296 := rfl
    simp only [e]
    have a1 : hd ([] : List Arc) (f + 4294967296) = f + 4294967296 := rfl
    have a2 : hd [(⟨f + 2147483648, y⟩ : Arc)] (f + 4294967296) = f + 2147483648 := rfl
    have b1 : hv [⟨f, x⟩, ⟨f + 2147483648, y⟩] (f + 4294967296) y z = [⟨f, x⟩, ⟨f + 2147483648, y⟩, ⟨f + 2147483648 + 1073741824, z⟩] := by
      rw [hv, hv, hv, hvE, hvE, a1, a2, if_neg (fun q => hxy q.1), if_pos ⟨rfl, by show f + 4294967296 - (f + 2147483648) ≥ 2; omega⟩]
      have : f + 2147483648 + (f + 4294967296 - (f + 2147483648)) / 2 = f + 2147483648 + 1073741824 := by omega
      show [_, _, (⟨f + 2147483648 + (f + 4294967296 - (f + 2147483648)) / 2, z⟩ : Arc)] = _
      rw [this]
    have b2 : hv [⟨f, x⟩, ⟨f + 2147483648, y⟩] (f + 4294967296) z z = [⟨f, x⟩, ⟨f + 2147483648, y⟩] := by
      rw [hv, hv, hv, hvE, hvE, if_neg (fun q => hxz q.1), if_neg (fun q => hyz q.1)]
      rfl
    rw [b1, b2]
    refine ⟨rfl, rfl, ?_, ?_, ?_⟩
    · simp [shr, hd, hyx, hzx]; omega
    · simp [shr, hd, hxy, hzy]; omega
    · simp [shr, hd, hxz, hyz]; omega
  · rw [if_neg h]
    have e : E0 [⟨f - 2147483648, y⟩, ⟨f, x⟩] = f - 2147483648 + 4294967296 := rfl
    simp only [e]
    have a1 : hd ([] : List Arc) (f - 2147483648 + 4294967296) = f - 2147483648 + 4294967296 := rfl
    have a2 : hd [(⟨f, x⟩ : Arc)] (f - 2147483648 + 4294967296) = f := rfl
    have b1 : hv [⟨f - 2147483648, y⟩, ⟨f, x⟩] (f - 2147483648 + 4294967296) y z = [⟨f - 2147483648, y⟩, ⟨f - 2147483648 + 1073741824, z⟩, ⟨f, x⟩] := by
      rw [hv, hv, hv, hvE, hvE, a1, a2, if_pos ⟨rfl, by show f - (f - 2147483648) ≥ 2; omega⟩, if_neg (fun q => hxy q.1)]
      have : f - 2147483648 + (f - (f - 2147483648)) / 2 = f - 2147483648 + 1073741824 := by omega
      show [_, (⟨f - 2147483648 + (f - (f - 2147483648)) / 2, z⟩ : Arc), _] = _
      rw [this]
    have b2 : hv [⟨f - 2147483648, y⟩, ⟨f, x⟩] (f - 2147483648 + 4294967296) z z = [⟨f - 2147483648, y⟩, ⟨f, x⟩] := by
      rw [hv, hv, hv, hvE, hvE, if_neg (fun q => hyz q.1), if_neg (fun q => hxz q.1)]
      rfl
    rw [b1, b2]
    refine ⟨rfl, rfl, ?_, ?_, ?_⟩
    · simp [shr, hd, hyx, hzx]; omega
    · simp [shr, hd, hxy, hzy]; omega
    · simp [shr, hd, hxz, hyz]; omega
theorem rot_len (h : List Arc) : (rot h).length = h.length := by
  rw [(rot_perm h).length_eq, List.length_map]
theorem rot_same {l : List Arc} (h : ∀ a ∈ l, a.at0 < 4294967296) : rot l = l := by
  unfold rot
  rw [List.filter_eq_nil_iff.2 (fun a ha => by simp [h a ha]), List.filter_eq_self.2 (fun a ha => by simp [h a ha])]
  rfl
theorem quarters_law {f x y z : Int} (f0 : 0 ≤ f) (f1 : f < 4294967296) (x0 : 0 ≤ x ∧ x < 16) (y0 : 0 ≤ y ∧ y < 16) (z0 : 0 ≤ z ∧ z < 16) (hxy : x ≠ y) (hyz : y ≠ z) (hxz : x ≠ z) :
    ∃ l m : List Arc, halveA [⟨f, x⟩] x y = l ∧ halveA l y z = m ∧ halveA l z z = l ∧ l.length = 2 ∧ m.length = 3 ∧ shareA m x = 2147483648 ∧ shareA m y = 1073741824 ∧ shareA m z = 1073741824 ∧ ∀ a ∈ l, 0 ≤ a.at0 ∧ a.at0 < 4294967296 := by
  have hf1 := one_fit f0 f1 x0.1 x0.2
  have hf2 := hvS_fit hf1 (s := x) y0.1 y0.2 (by simp)
  obtain ⟨q1, q2, q3, q4, q5⟩ := quart (x := x) (y := y) (z := z) f0 f1 hxy hyz hxz
  have hlen : (hvS [⟨f, x⟩] x y).length = 2 := by rw [half_one f0 f1]; split <;> rfl
  have h1 : halveA [⟨f, x⟩] x y = hvS [⟨f, x⟩] x y := halve_in (mayA_to hf1.may) y0.1 y0.2
  generalize hvS [⟨f, x⟩] x y = l at *
  have hm2 := mayA_to hf2.may
  refine ⟨l, hvS l y z, h1, halve_in hm2 z0.1 z0.2, ?_, hlen, ?_, ?_, ?_, ?_, hf2.fit⟩
  · rw [halve_in hm2 z0.1 z0.2, hvS, q1, rot_same fun a ha => (hf2.fit a ha).2]
  · rw [hvS, rot_len, q2]
  · rw [hvS_share hf2 z0.1 z0.2 (by omega), q3]
  · rw [hvS_share hf2 z0.1 z0.2 (by omega), q4]
  · rw [hvS_share hf2 z0.1 z0.2 (by omega), q5]

theorem ringQuarters_p (f a b c : Int) (f0 : 0 ≤ f) (f1 : f < 4294967296) : PFn Tryd.prog 8 [.v (.int .u32 f), .v (.int .i64 a), .v (.int .i64 b), .v (.int .i64 c)] (.v (.bool true)) := by
  have ma := mod16 a
  have mb := mod16 b
  have mc := mod16 c
  refine FnC.intro Tryd.func8 rfl Tryd.ntmps8 rfl ?_; intro off w0
  ((repeat refine S.seq ?_); refine S.region (L.go (T := tt) tt_ok rfl rfl ?sd26 ?_); (try (case sd26 => (repeat' ((first | first | exact trivial | exact zA | with_reducible refine zI ?_ ?_ | exact zB | exact zC | exact zD | exact zE | rfl | exact zN rfl | omega | assumption | (simp; done) | (simp [splice]; done) | (simp; omega) | (unfold fits; omega) | (unfold fits; simp_all; omega) | (simp_all; omega) | (simp_all; done) | intro _ | exact zI ?_ ?_ | intro _))))); try (refine L.nil ?_))
  ((repeat refine S.seq ?_); refine S.region (L.go (T := tt) tt_ok rfl rfl ?sd27 ?_); (try (case sd27 => (repeat' ((first | first | exact trivial | exact zA | with_reducible refine zI ?_ ?_ | exact zB | exact zC | exact zD | exact zE | rfl | exact zN rfl | omega | assumption | (simp; done) | (simp [splice]; done) | (simp; omega) | (unfold fits; omega) | (unfold fits; simp_all; omega) | (simp_all; omega) | (simp_all; done) | intro _ | exact zI ?_ ?_ | intro _))))); try (refine L.nil ?_))
  obtain ⟨x, hx⟩ : ∃ x, x = a % 16 := ⟨_, rfl⟩
  obtain ⟨y, hy⟩ : ∃ y, y = b % 16 := ⟨_, rfl⟩
  obtain ⟨z, hz⟩ : ∃ z, z = c % 16 := ⟨_, rfl⟩
  refine slotAs 9 (.v (.int .i64 x)) rfl (Imp.of_eq (by rw [hx, ← ma])) ?_
  refine slotAs 10 (.v (.int .i64 y)) rfl (Imp.of_eq (by rw [hy, ← mb])) ?_
  refine slotAs 11 (.v (.int .i64 z)) rfl (Imp.of_eq (by rw [hz, ← mc])) ?_
  have x0 : 0 ≤ x ∧ x < 16 := by omega
  have y0 : 0 ≤ y ∧ y < 16 := by omega
  have z0 : 0 ≤ z ∧ z < 16 := by omega
  clear ma mb mc hx hy hz
  ((repeat refine S.seq ?_); refine S.region (L.go (T := tt) tt_ok rfl rfl ?sd28 ?_); (try (case sd28 => (repeat' ((first | first | exact trivial | exact zA | with_reducible refine zI ?_ ?_ | exact zB | exact zC | exact zD | exact zE | rfl | exact zN rfl | omega | assumption | (simp; done) | (simp [splice]; done) | (simp; omega) | (unfold fits; omega) | (unfold fits; simp_all; omega) | (simp_all; omega) | (simp_all; done) | intro _ | exact zI ?_ ?_ | intro _))))); try (refine L.nil ?_))
  ((repeat refine S.seq ?_); refine S.cond rfl (fun h1 => ?_) (fun h1 => ?_) <;> (try first | refine S.skip ?_ | refine S.exit ?_))
  · repeat refine S.seq ?_
    refine S.region ?_
    refine L.callP rfl rfl rfl rfl rfl rfl rfl ⟨trivial, by (repeat' ((first | first | exact trivial | exact zA | with_reducible refine zI ?_ ?_ | exact zB | exact zC | exact zD | exact zE | rfl | exact zN rfl | omega | assumption | (simp; done) | (simp [splice]; done) | (simp; omega) | (unfold fits; omega) | (unfold fits; simp_all; omega) | (simp_all; omega) | (simp_all; done) | intro _ | exact zI ?_ ?_ | intro _)))⟩ rfl (Imps.refl _) told9_p ?_
    (refine L.go (T := tt) tt_ok rfl rfl ?sd29 ?_; (try (case sd29 => (repeat' ((first | first | exact trivial | exact zA | with_reducible refine zI ?_ ?_ | exact zB | exact zC | exact zD | exact zE | rfl | exact zN rfl | omega | assumption | (simp; done) | (simp [splice]; done) | (simp; omega) | (unfold fits; omega) | (unfold fits; simp_all; omega) | (simp_all; omega) | (simp_all; done) | intro _ | exact zI ?_ ?_ | intro _))))); try (refine L.nil ?_))
    (((repeat refine S.seq ?_); refine S.ret ?_); refine E.retP (T := tt) tt_ok rfl rfl (by (repeat' ((first | first | exact trivial | exact zA | with_reducible refine zI ?_ ?_ | exact zB | exact zC | exact zD | exact zE | rfl | exact zN rfl | omega | assumption | (simp; done) | (simp [splice]; done) | (simp; omega) | (unfold fits; omega) | (unfold fits; simp_all; omega) | (simp_all; omega) | (simp_all; done) | intro _ | exact zI ?_ ?_ | intro _)))) (Imp.of_eq ?_))
    rfl
  simp only [Bool.or_eq_false_iff, beq_eq_false_iff_ne, ne_eq] at h1
  obtain ⟨l, m, g1, g2, g3, g4, g5, g6, g7, g8, g9⟩ := quarters_law f0 f1 x0 y0 z0 h1.1.1 h1.1.2 h1.2
  repeat refine S.seq ?_
  refine S.region ?_
  (refine L.go (T := tt) tt_ok rfl rfl ?sd30 ?_; (try (case sd30 => (repeat' ((first | first | exact trivial | exact zA | with_reducible refine zI ?_ ?_ | exact zB | exact zC | exact zD | exact zE | rfl | exact zN rfl | omega | assumption | (simp; done) | (simp [splice]; done) | (simp; omega) | (unfold fits; omega) | (unfold fits; simp_all; omega) | (simp_all; omega) | (simp_all; done) | intro _ | exact zI ?_ ?_ | intro _))))); try (refine L.nil ?_))
  refine L.buildSlice (T := tt) 60 tt_ok rfl rfl rfl rfl rfl rfl (by decide) (by decide) rfl rfl (by (repeat' ((first | first | exact trivial | exact zA | with_reducible refine zI ?_ ?_ | exact zB | exact zC | exact zD | exact zE | rfl | exact zN rfl | omega | assumption | (simp; done) | (simp [splice]; done) | (simp; omega) | (unfold fits; omega) | (unfold fits; simp_all; omega) | (simp_all; omega) | (simp_all; done) | intro _ | exact zI ?_ ?_ | intro _)))) fun x43 => ?_
  refine freezeSlot 43 60 rfl rfl rfl (slotAs 43 (arcs [⟨f, x⟩]) rfl (Imp.lst rfl fun i hi => ?_) ?_)
  · have hi : i < 1 := hi
    obtain rfl : i = 0 := by omega
    rfl
  (refine L.go (T := tt) tt_ok rfl rfl ?sd31 ?_; (try (case sd31 => (repeat' ((first | first | exact trivial | exact zA | with_reducible refine zI ?_ ?_ | exact zB | exact zC | exact zD | exact zE | rfl | exact zN rfl | omega | assumption | (simp; done) | (simp [splice]; done) | (simp; omega) | (unfold fits; omega) | (unfold fits; simp_all; omega) | (simp_all; omega) | (simp_all; done) | intro _ | exact zI ?_ ?_ | intro _))))); try (refine L.nil ?_))
  refine L.callP rfl rfl rfl rfl rfl rfl rfl ⟨trivial, by (repeat' ((first | first | exact trivial | exact zA | with_reducible refine zI ?_ ?_ | exact zB | exact zC | exact zD | exact zE | rfl | exact zN rfl | omega | assumption | (simp; done) | (simp [splice]; done) | (simp; omega) | (unfold fits; omega) | (unfold fits; simp_all; omega) | (simp_all; omega) | (simp_all; done) | intro _ | exact zI ?_ ?_ | intro _)))⟩ rfl (Imps.refl _) (halve_p [⟨f, x⟩] x y (by simp) (fun q hq => by rw [List.mem_singleton.1 hq]; exact ⟨f0, f1⟩)) ?_
  rw [g1]
  (refine L.go (T := tt) tt_ok rfl rfl ?sd32 ?_; (try (case sd32 => (repeat' ((first | first | exact trivial | exact zA | with_reducible refine zI ?_ ?_ | exact zB | exact zC | exact zD | exact zE | rfl | exact zN rfl | omega | assumption | (simp; done) | (simp [splice]; done) | (simp; omega) | (unfold fits; omega) | (unfold fits; simp_all; omega) | (simp_all; omega) | (simp_all; done) | intro _ | exact zI ?_ ?_ | intro _))))); try (refine L.nil ?_))
  repeat refine S.seq ?_
  refine S.region ?_
  (refine L.go (T := tt) tt_ok rfl rfl ?sd33 ?_; (try (case sd33 => (repeat' ((first | first | exact trivial | exact zA | with_reducible refine zI ?_ ?_ | exact zB | exact zC | exact zD | exact zE | rfl | exact zN rfl | omega | assumption | (simp; done) | (simp [splice]; done) | (simp; omega) | (unfold fits; omega) | (unfold fits; simp_all; omega) | (simp_all; omega) | (simp_all; done) | intro _ | exact zI ?_ ?_ | intro _))))); try (refine L.nil ?_))
  refine L.callP rfl rfl rfl rfl rfl rfl rfl ⟨trivial, by (repeat' ((first | first | exact trivial | exact zA | with_reducible refine zI ?_ ?_ | exact zB | exact zC | exact zD | exact zE | rfl | exact zN rfl | omega | assumption | (simp; done) | (simp [splice]; done) | (simp; omega) | (unfold fits; omega) | (unfold fits; simp_all; omega) | (simp_all; omega) | (simp_all; done) | intro _ | exact zI ?_ ?_ | intro _)))⟩ rfl (Imps.refl _) (halve_p l y z (by omega) g9) ?_
  rw [g2]
  (refine L.go (T := tt) tt_ok rfl rfl ?sd34 ?_; (try (case sd34 => (repeat' ((first | first | exact trivial | exact zA | with_reducible refine zI ?_ ?_ | exact zB | exact zC | exact zD | exact zE | rfl | exact zN rfl | omega | assumption | (simp; done) | (simp [splice]; done) | (simp; omega) | (unfold fits; omega) | (unfold fits; simp_all; omega) | (simp_all; omega) | (simp_all; done) | intro _ | exact zI ?_ ?_ | intro _))))); try (refine L.nil ?_))
  repeat refine S.seq ?_
  refine S.region ?_
  refine L.callP rfl rfl rfl rfl rfl rfl rfl ⟨trivial, by (repeat' ((first | first | exact trivial | exact zA | with_reducible refine zI ?_ ?_ | exact zB | exact zC | exact zD | exact zE | rfl | exact zN rfl | omega | assumption | (simp; done) | (simp [splice]; done) | (simp; omega) | (unfold fits; omega) | (unfold fits; simp_all; omega) | (simp_all; omega) | (simp_all; done) | intro _ | exact zI ?_ ?_ | intro _)))⟩ rfl (Imps.refl _) told9_p ?_
  (refine L.go (T := tt) tt_ok rfl rfl ?sd35 ?_; (try (case sd35 => (repeat' ((first | first | exact trivial | exact zA | with_reducible refine zI ?_ ?_ | exact zB | exact zC | exact zD | exact zE | rfl | exact zN rfl | omega | assumption | (simp; done) | (simp [splice]; done) | (simp; omega) | (unfold fits; omega) | (unfold fits; simp_all; omega) | (simp_all; omega) | (simp_all; done) | intro _ | exact zI ?_ ?_ | intro _))))); try (refine L.nil ?_))
  refine L.callG rfl rfl rfl rfl rfl rfl rfl (fun _ => ⟨trivial, by (repeat' ((first | first | exact trivial | exact zA | with_reducible refine zI ?_ ?_ | exact zB | exact zC | exact zD | exact zE | rfl | exact zN rfl | omega | assumption | (simp; done) | (simp [splice]; done) | (simp; omega) | (unfold fits; omega) | (unfold fits; simp_all; omega) | (simp_all; omega) | (simp_all; done) | intro _ | exact zI ?_ ?_ | intro _)))⟩) rfl (Imps.refl _) (fun _ => share_p m x) ?_
  rw [g6]
  (refine L.go (T := tt) tt_ok rfl rfl ?sd36 ?_; (try (case sd36 => (repeat' ((first | first | exact trivial | exact zA | with_reducible refine zI ?_ ?_ | exact zB | exact zC | exact zD | exact zE | rfl | exact zN rfl | omega | assumption | (simp; done) | (simp [splice]; done) | (simp; omega) | (unfold fits; omega) | (unfold fits; simp_all; omega) | (simp_all; omega) | (simp_all; done) | intro _ | exact zI ?_ ?_ | intro _))))); try (refine L.nil ?_))
  refine L.callG rfl rfl rfl rfl rfl rfl rfl (fun _ => ⟨trivial, by (repeat' ((first | first | exact trivial | exact zA | with_reducible refine zI ?_ ?_ | exact zB | exact zC | exact zD | exact zE | rfl | exact zN rfl | omega | assumption | (simp; done) | (simp [splice]; done) | (simp; omega) | (unfold fits; omega) | (unfold fits; simp_all; omega) | (simp_all; omega) | (simp_all; done) | intro _ | exact zI ?_ ?_ | intro _)))⟩) rfl (Imps.refl _) (fun _ => share_p m y) ?_
  rw [g7]
  (refine L.go (T := tt) tt_ok rfl rfl ?sd37 ?_; (try (case sd37 => (repeat' ((first | first | exact trivial | exact zA | with_reducible refine zI ?_ ?_ | exact zB | exact zC | exact zD | exact zE | rfl | exact zN rfl | omega | assumption | (simp; done) | (simp [splice]; done) | (simp; omega) | (unfold fits; omega) | (unfold fits; simp_all; omega) | (simp_all; omega) | (simp_all; done) | intro _ | exact zI ?_ ?_ | intro _))))); try (refine L.nil ?_))
  refine L.callG rfl rfl rfl rfl rfl rfl rfl (fun _ => ⟨trivial, by (repeat' ((first | first | exact trivial | exact zA | with_reducible refine zI ?_ ?_ | exact zB | exact zC | exact zD | exact zE | rfl | exact zN rfl | omega | assumption | (simp; done) | (simp [splice]; done) | (simp; omega) | (unfold fits; omega) | (unfold fits; simp_all; omega) | (simp_all; omega) | (simp_all; done) | intro _ | exact zI ?_ ?_ | intro _)))⟩) rfl (Imps.refl _) (fun _ => share_p m z) ?_
  rw [g8]
  (refine L.go (T := tt) tt_ok rfl rfl ?sd38 ?_; (try (case sd38 => (repeat' ((first | first | exact trivial | exact zA | with_reducible refine zI ?_ ?_ | exact zB | exact zC | exact zD | exact zE | rfl | exact zN rfl | omega | assumption | (simp; done) | (simp [splice]; done) | (simp; omega) | (unfold fits; omega) | (unfold fits; simp_all; omega) | (simp_all; omega) | (simp_all; done) | intro _ | exact zI ?_ ?_ | intro _))))); try (refine L.nil ?_))
  refine L.callG rfl rfl rfl rfl rfl rfl rfl (fun _ => ⟨trivial, by (repeat' ((first | first | exact trivial | exact zA | with_reducible refine zI ?_ ?_ | exact zB | exact zC | exact zD | exact zE | rfl | exact zN rfl | omega | assumption | (simp; done) | (simp [splice]; done) | (simp; omega) | (unfold fits; omega) | (unfold fits; simp_all; omega) | (simp_all; omega) | (simp_all; done) | intro _ | exact zI ?_ ?_ | intro _)))⟩) rfl (Imps.refl _) (fun _ => halve_p l z z (by omega) g9) ?_
  rw [g3]
  (refine L.go (T := tt) tt_ok rfl rfl ?sd39 ?_; (try (case sd39 => (repeat' ((first | first | exact trivial | exact zA | with_reducible refine zI ?_ ?_ | exact zB | exact zC | exact zD | exact zE | rfl | exact zN rfl | omega | assumption | (simp; done) | (simp [splice]; done) | (simp; omega) | (unfold fits; omega) | (unfold fits; simp_all; omega) | (simp_all; omega) | (simp_all; done) | intro _ | exact zI ?_ ?_ | intro _))))); try (refine L.nil ?_))
  refine L.callG rfl rfl rfl rfl rfl rfl rfl (fun _ => ⟨trivial, by (repeat' ((first | first | exact trivial | exact zA | with_reducible refine zI ?_ ?_ | exact zB | exact zC | exact zD | exact zE | rfl | exact zN rfl | omega | assumption | (simp; done) | (simp [splice]; done) | (simp; omega) | (unfold fits; omega) | (unfold fits; simp_all; omega) | (simp_all; omega) | (simp_all; done) | intro _ | exact zI ?_ ?_ | intro _)))⟩) rfl (Imps.refl _) (fun _ => samearcs_p l l) ?_
  (refine L.go (T := tt) tt_ok rfl rfl ?sd40 ?_; (try (case sd40 => (repeat' ((first | first | exact trivial | exact zA | with_reducible refine zI ?_ ?_ | exact zB | exact zC | exact zD | exact zE | rfl | exact zN rfl | omega | assumption | (simp; done) | (simp [splice]; done) | (simp; omega) | (unfold fits; omega) | (unfold fits; simp_all; omega) | (simp_all; omega) | (simp_all; done) | intro _ | exact zI ?_ ?_ | intro _))))); try (refine L.nil ?_))
  (((repeat refine S.seq ?_); refine S.ret ?_); refine E.retP (T := tt) tt_ok rfl rfl (by (repeat' ((first | first | exact trivial | exact zA | with_reducible refine zI ?_ ?_ | exact zB | exact zC | exact zD | exact zE | rfl | exact zN rfl | omega | assumption | (simp; done) | (simp [splice]; done) | (simp; omega) | (unfold fits; omega) | (unfold fits; simp_all; omega) | (simp_all; omega) | (simp_all; done) | intro _ | exact zI ?_ ?_ | intro _)))) (Imp.of_eq ?_))
  rw [g4, g5]
  simp
  rfl
end Go.Proofs.YtlgdjmmjconbfaaDoor
