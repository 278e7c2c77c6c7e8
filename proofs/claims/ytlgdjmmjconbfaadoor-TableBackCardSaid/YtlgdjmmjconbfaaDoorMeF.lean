/- Texts of this proof, laid together: RgC, RgD, RgE, RgF, ClnArc, RgG, RgK, RgT, IxI, RgU. -/
import Derived.Test.YtlgdjmmjconbfaaDoorMeE
import Derived.Test.YtlgdjmmjconbfaaDoorShelfM
import Derived.WalkKit
import Derived.Test.YtlgdjmmjconbfaaDoorMeC
import Derived.LoopN
import Derived.StillTailTactics
/- What the sorts compare by. -/
namespace Go.Proofs.YtlgdjmmjconbfaaDoor
set_option linter.unusedVariables false
set_option linter.unusedSimpArgs false
set_option maxHeartbeats 8000000
open Go.Shelf Go.RowKit Go.Lib Go.Sort
set_option maxRecDepth 100000

/-- As cmp.Compare says it. -/
def cmpI (x y : Int) : Int := if x < y then -1 else if x > y then 1 else 0
theorem nan32 (x : Int) (w : World) : Calls Tryd.prog 68 #[.int .u32 x] w fun e w' => e = .returned (.bool false) ∧ w' = w := by
  go_enter Tryd.func68, Tryd.ntmps68
  go_wp2
  go_ret
  exact ⟨by simp, rfl⟩
theorem cmp32 (x y : Int) (w : World) : Calls Tryd.prog 42 #[.int .u32 x, .int .u32 y] w fun e w' => e = .returned (.int .i64 (cmpI x y)) ∧ w' = w := by
  go_enter Tryd.func42, Tryd.ntmps42
  go_wp2_with (go_at_call 68; refine (nan32 _ _).mono ?_; rintro e w' ⟨rfl, hw⟩; rw [hw])
  all_goals (go_ret; refine ⟨?_, rfl⟩; unfold cmpI; (repeat' split) <;> first | rfl | (exfalso; omega))
theorem half1 (x y : Arc) (W : World) : Calls Tryd.prog 51 #[.agg #[.int .u32 x.at0, .int .i64 x.shard], .agg #[.int .u32 y.at0, .int .i64 y.shard]] W fun e w' => e = .returned (.int .i64 (cmpI x.at0 y.at0)) ∧ ∃ q os', w' = grow (W.drewN q) os' := by
  have hcon := fun W' => cmp32 x.at0 y.at0 W'
  generalize cmpI x.at0 y.at0 = r at hcon ⊢
  go_enter Tryd.func51, Tryd.ntmps51
  go_wp2_with (go_at_call 42; refine (hcon _).mono ?_; rintro e w' ⟨rfl, rfl⟩)
  go_ret
  exact ⟨rfl, 0, _, by rw [alloc_eq_grow, alloc_eq_grow, grow_grow]; rfl⟩
end Go.Proofs.YtlgdjmmjconbfaaDoor

/- slices.SortFunc at arcs, as a contract. -/
namespace Go.Proofs.YtlgdjmmjconbfaaDoor
set_option linter.unusedVariables false
set_option linter.unusedSimpArgs false
set_option maxHeartbeats 8000000
open Go.Shelf Go.RowKit Go.Lib Go.Sort
set_option maxRecDepth 4000

def encA (a : Arc) : List Value := [.int .u32 a.at0, .int .i64 a.shard]
theorem aggA : ∀ w, (isAgg (Tryd.sortArc_ren.t 24)).run Tryd.prog w = .ok true w := fun w => by kernel_rfl
theorem sizeA : ∀ w, (Go.sizeOf (Tryd.sortArc_ren.t 24)).run Tryd.prog w = .ok 2 w := fun w => by kernel_rfl
/-- The cells of an own row of arcs. -/
theorem flat_of : ∀ (l : List Arc) (us : List Value), us.length = l.length * 2 → (∀ i, i < l.length → ∀ (j : Nat) A, (gOf Arc.cells l i)[j]? = some A → ∃ u, us[i * 2 + j]? = some u ∧ ∀ v, A = .v v → u = v) → us = l.flatMap encA
  | [], us, h, _ => List.eq_nil_of_length_eq_zero (by simpa using h)
  | a :: t, us, h, hg => by
    match us, h with
    | [], h => simp at h
    | [_], h => simp only [List.length_cons, List.length_nil] at h; omega
    | x :: y :: r, h =>
      have h0 := hg 0 (by simp) 0 _ rfl
      have h1 := hg 0 (by simp) 1 _ rfl
      obtain ⟨u0, e0, f0⟩ := h0
      obtain ⟨u1, e1, f1⟩ := h1
      have g0 := f0 _ rfl
      have g1 := f1 _ rfl
      have e0 : some x = some u0 := e0
      have e1 : some y = some u1 := e1
      cases e0
      cases e1
      rw [List.flatMap_cons, g0, g1]
      show _ = (Value.int .u32 a.at0) :: (Value.int .i64 a.shard) :: (t.flatMap encA)
      congr 2
      refine flat_of t r (by simp only [List.length_cons] at h; omega) fun i hi j A hA => ?_
      obtain ⟨u, e, f⟩ := hg (i + 1) (by simpa using hi) j A hA
      refine ⟨u, ?_, f⟩
      rw [show (i + 1) * 2 + j = (i * 2 + j) + 2 by omega] at e
      exact e
theorem encA_len (a : Arc) : (encA a).length = 2 := rfl
theorem flatK_list (l : List Arc) : (flatK encA 2 l.toArray).toList = l.flatMap encA := by
  apply List.ext_getElem?
  intro t
  have hs : (flatK encA 2 l.toArray).size = l.length * 2 := by simp
  have hlen : (l.flatMap encA).length = l.length * 2 := by
    have : ∀ q : List Arc, (q.flatMap encA).length = q.length * 2 := fun q => by
      induction q with
      | nil => rfl
      | cons a t ih => rw [List.flatMap_cons, List.length_append, ih, encA_len, List.length_cons]; omega
    exact this l
  by_cases h : t < l.length * 2
  · have e := fl_get encA_len l (t / 2) (by omega) (t % 2) (by omega)
    rw [show t / 2 * 2 + t % 2 = t by omega] at e
    show _ = (fl encA l)[t]?
    rw [e, Array.getElem?_toList, Array.getElem?_eq_getElem (by rw [hs]; exact h)]
    have g := get_flatK encA 2 l.toArray t (by simpa using h)
    rw [getElem!_pos _ t (by rw [hs]; exact h)] at g
    rw [g, getElem!_pos l.toArray (t / 2) (by simp; omega)]
    have hj : t % 2 < (encA l[t / 2]).length := by rw [encA_len]; omega
    rw [List.getElem?_eq_getElem hj]
    simp only [List.getElem_toArray]
    rw [getElem!_pos _ (t % 2) hj]
  · rw [List.getElem?_eq_none (by rw [Array.length_toList, hs]; omega), List.getElem?_eq_none (by omega)]
end Go.Proofs.YtlgdjmmjconbfaaDoor

/- slices.SortFunc at arcs, the bridge. -/
namespace Go.Proofs.YtlgdjmmjconbfaaDoor
set_option linter.unusedVariables false
set_option linter.unusedSimpArgs false
set_option maxHeartbeats 8000000
open Go.Shelf Go.RowKit Go.Lib Go.Sort
set_option maxRecDepth 4000

theorem sort_fnc (id : Nat) (l : List Arc) (x : Value) (hl : 0 < l.length) (hb : l.length ≤ 100000) (cf : Arc → Arc → Int) (hO : SWO (ltOf cf)) (g : Nat) (eg : ∀ args w, (callFunc g args).run Tryd.prog w = .ok (.enter g args) w)
    (hc : ∀ a b W, Calls Tryd.prog g #[.agg (encA a).toArray, .agg (encA b).toArray] W fun e w' => e = .returned (.int .i64 (cf a b)) ∧ ∃ q os', w' = grow (W.drewN q) os') :
    FnC Tryd.prog 39 [.ref id x, .fn (.func g) []] [(id, .own x 38 2 l.length (gOf Arc.cells l))]
      (fun r F' => r = .tup [] ∧ ∃ d : List Arc, d.Perm l ∧ d.Pairwise (fun a b => ltOf cf b a = false) ∧ F' = [(id, .own x 38 2 d.length (gOf Arc.cells d))]) := by
  intro off w vs hoff hS hlv hr
  match vs, hlv with
  | [v0, v1], _ =>
    have e0 := hr 0 _ v0 rfl rfl
    have e1 := hr 1 _ v1 rfl rfl
    cases e0
    cases e1 with
    | @fn _ _ us' hl' hh' =>
    obtain rfl : us' = [] := List.eq_nil_of_length_eq_zero hl'
    obtain ⟨us, ho, hlen, h1, hrr⟩ := hS.rows _ (List.mem_singleton.2 rfl)
    have hus : us = l.flatMap encA := flat_of l us ho.1 fun i hi j A hA => by
      obtain ⟨u, hu, hrep⟩ := hrr i hi j A hA
      exact ⟨u, hu, fun v hv => by subst hv; cases hrep; rfl⟩
    rcases ho.2 with ⟨rfl, h0⟩ | ⟨g0, cap, cur, rfl, hbg, hh, hnc, hcm, hcs, htk⟩
    · omega
    have hblk : g0 < w.heap.size := (Array.getElem?_eq_some_iff.1 hh).1
    have hfl := flatK_list l
    have hfs : (flatK encA 2 l.toArray).size = l.length * 2 := by simp
    have hH : HoldsK encA 2 w g0 0 l.toArray := fun j hj => by
      have hj' : j < l.length * 2 := by rw [hfs] at hj; exact hj
      have hcj : j < cur.size := by rw [hcs]; omega
      refine ⟨?_, ?_⟩
      · have e2 : cur[j]? = (flatK encA 2 l.toArray)[j]? := by
          rw [← Array.getElem?_toList, ← Array.getElem?_toList, hfl, ← hus, ← htk, List.getElem?_take_of_lt hj']
        rw [Array.getElem?_eq_getElem (show j < (flatK encA 2 l.toArray).size by rw [hfs]; exact hj')] at e2
        show w.cell? _ = some ((flatK encA 2 l.toArray)[j]!)
        rw [getElem!_pos _ j (by rw [hfs]; exact hj')]
        simp only [World.cell?, hh, Nat.zero_add]
        simpa using e2
      · simp [World.frozen?, hh]
    have hcon := AnyQ.slices_SortFunc Tryd.sortArc 2 aggA sizeA encA (fun _ => rfl) (fun a v hv => by simp [encA] at hv; rcases hv with rfl | rfl <;> rfl) cf hO g #[] g0 0 cap l.toArray w eg (fun m os dk _ a b => hc a b _) hH hblk (by simp; omega)
    have hcon : Calls Tryd.prog 39 #[.slice (some ⟨g0, 0, none⟩) l.toArray.size cap, .func (.func g) #[] #[]] w _ := hcon
    refine hcon.mono fun e w' hp => ?_
    obtain ⟨rfl, d', n, os, hperm, hsort, hw⟩ := hp
    have hsz : d'.toList.length = l.length := by have := hperm.1; simpa using this
    have hpm : d'.toList.Perm l := by
      have := hperm.2.2
      have e1 : d'.extract 0 l.toArray.size = d' := by rw [← hperm.1]; simp
      have e2 : l.toArray.extract 0 l.toArray.size = l.toArray := by simp
      rw [e1, e2] at this
      exact this
    have hF : (flatK encA 2 d').toList = d'.toList.flatMap encA := flatK_list d'.toList
    have hF2 : (flatK encA 2 d').size = l.length * 2 := by rw [size_flatK]; have : d'.size = l.length := by simpa using hsz
                                                           rw [this]
    have hheap : w'.heap[g0]? = some (.cells (putCells (fun v : Value => v) 0 (flatK encA 2 d') cur) 38 (0, 0)) := by
      rw [hw, sortWorldK, heap_grow_old _ _ (by simp [putRowK, putRow, mapBlock, Sort.ahead]; exact hblk)]
      simp [putRowK, putRow, mapBlock, Sort.ahead, Array.getElem?_modify, hh, onCells]
      rfl
    have hgr : w.grownBy w' (some g0) := by
      rw [hw]
      refine ⟨rfl, rfl, rfl, ?_, fun k hk hne => ?_⟩
      · simp [sortWorldK, grow, putRowK, putRow, mapBlock, Sort.ahead]
      · rw [sortWorldK, heap_grow_old _ _ (by simp [putRowK, putRow, mapBlock, Sort.ahead]; exact hk)]
        have : g0 ≠ k := fun e => hne (by rw [e])
        simp [putRowK, putRow, mapBlock, Sort.ahead, Array.getElem?_modify, this]
    have hpw : d'.toList.Pairwise (fun a b => ltOf cf b a = false) := List.pairwise_iff_getElem.2 fun i j hi hj hij => by
      have hd : d'.size = l.length := by simpa using hsz
      have := hsort i j (Nat.zero_le _) hij (by simp; rw [hsz] at hj; exact hj)
      rw [getElem!_pos d' j (by simpa using hj), getElem!_pos d' i (by simpa using hi)] at this
      simpa using this
    have hfm : (d'.toList.flatMap encA).length = d'.toList.length * 2 := by rw [← hF, Array.length_toList, hF2, hsz]
    obtain ⟨q1, q2, q3⟩ := ret_row (r' := .own (.slice (some ⟨g0, 0, none⟩) l.length cap) 38 2 d'.toList.length (gOf Arc.cells d'.toList)) hS hoff hgr (fun b hb _ => by cases hb; rfl) (fun b hb => by left; exact hb) fun he => by
      refine ⟨d'.toList.flatMap encA, ⟨hfm, .inr ⟨g0, cap, _, by rw [hsz], hbg, hheap, by rw [hsz]; exact hnc, hcm, by simp [putCells, hcs], ?_⟩⟩, fun i hi => rfl, fun u hu => ?_, fun i hi j A hA => ?_⟩
      · apply List.ext_getElem?
        intro t
        rw [hsz]
        by_cases ht : t < l.length * 2
        · rw [List.getElem?_take_of_lt ht, ← hF, Array.getElem?_toList, Array.getElem?_toList]
          have hct : t < cur.size := by rw [hcs]; omega
          have hft : t < (flatK encA 2 d').size := by rw [hF2]; exact ht
          rw [Array.getElem?_eq_getElem hft]
          simp only [putCells, Array.getElem?_mapIdx, Array.getElem?_eq_getElem hct, Option.map_some]
          rw [if_pos ⟨Nat.zero_le _, by omega⟩, Nat.sub_zero, getElem!_pos _ t hft]
        · rw [List.getElem?_eq_none (by rw [List.length_take]; omega), List.getElem?_eq_none (by rw [hfm, hsz]; omega)]
      · obtain ⟨a, -, ha⟩ := List.mem_flatMap.1 hu
        simp [encA] at ha
        rcases ha with rfl | rfl <;> rfl
      · have hj : j < 2 := (List.getElem?_eq_some_iff.1 hA).1
        have e := fl_get encA_len d'.toList i hi j hj
        have hg : gOf Arc.cells d'.toList i = (d'.toList[i]).cells := by rw [gOf, getD_get hi]
        rw [hg] at hA
        have : j = 0 ∨ j = 1 := by omega
        rcases this with rfl | rfl
        · exact ⟨.int .u32 (d'.toList[i]).at0, e, by cases hA; exact .v _⟩
        · exact ⟨.int .i64 (d'.toList[i]).shard, e, by cases hA; exact .v _⟩
    exact ⟨_, _, _, ⟨rfl, d'.toList, hpm, hpw, rfl⟩, rfl, .tup (us := []) rfl (by simp), q1, q2, q3⟩
end Go.Proofs.YtlgdjmmjconbfaaDoor

/- The order by points. -/
namespace Go.Proofs.YtlgdjmmjconbfaaDoor
set_option linter.unusedVariables false
set_option linter.unusedSimpArgs false
set_option maxHeartbeats 8000000
open Go.Shelf Go.RowKit Go.Lib Go.Sort
set_option maxRecDepth 4000

theorem lt_at (a b : Arc) : ltOf (fun x y : Arc => cmpI x.at0 y.at0) a b = decide (a.at0 < b.at0) := by
  show decide (cmpI a.at0 b.at0 < 0) = _
  unfold cmpI
  by_cases h : a.at0 < b.at0
  · simp [h]
  · rw [if_neg h]
    split <;> simp [h]
theorem swo_at : SWO (ltOf fun x y : Arc => cmpI x.at0 y.at0) where
  irrefl x := by rw [lt_at]; simp
  trans x y z h1 h2 := by rw [lt_at] at *; simp at *; omega
  ntrans x y z h1 h2 := by rw [lt_at] at *; simp at *; omega
theorem enter_half (args : Array Value) (w : World) : (callFunc 51 args).run Tryd.prog w = .ok (.enter 51 args) w := enters_of Tryd.func51 (by kernel_rfl) rfl args w
/-- Sorted by points. -/
theorem sort_half (id : Nat) (l : List Arc) (x : Value) (hl : 0 < l.length) (hb : l.length ≤ 100000) :
    FnC Tryd.prog 39 [.ref id x, .fn (.func 51) []] [(id, .own x 38 2 l.length (gOf Arc.cells l))]
      (fun r F' => r = .tup [] ∧ ∃ d : List Arc, d.Perm l ∧ d.Pairwise (fun a b => a.at0 ≤ b.at0) ∧ F' = [(id, .own x 38 2 d.length (gOf Arc.cells d))]) := by
  intro off w vs h1 h2 h3 h4
  refine (sort_fnc id l x hl hb _ swo_at 51 enter_half (fun a b W => half1 a b W) off w vs h1 h2 h3 h4).mono ?_
  rintro e w' ⟨r, F', u, ⟨hr, d, hd1, hd2, hF⟩, hrest⟩
  exact ⟨r, F', u, ⟨hr, d, hd1, hd2.imp fun {a b} h => by rw [lt_at] at h; simp at h; omega, hF⟩, hrest⟩
end Go.Proofs.YtlgdjmmjconbfaaDoor

/- slices.Clone, on abstract values. -/
namespace Go.Proofs.YtlgdjmmjconbfaaDoor
set_option linter.unusedVariables false
set_option linter.unusedSimpArgs false
set_option maxHeartbeats 8000000
open Go.RowKit
set_option maxRecDepth 4000

theorem ClnArc {n : Nat} {g : Nat → List AV} (hb : n * 16 ≤ 140737488355328) (id : Nat) :
    FnC Tryd.prog 50 [.lst 2 n g] [] (fun r F' => ∃ x, r = .ref id x ∧ F' = [(id, .own x 38 2 n g)]) := by
  refine FnC.intro Tryd.func50 rfl Tryd.ntmps50 rfl ?_; intro off w0
  ((repeat refine S.seq ?_); refine S.region (L.go (T := tt) tt_ok rfl rfl ?sd1 ?_); (try (case sd1 => (repeat' ((first | first | exact trivial | exact zA | with_reducible refine zI ?_ ?_ | exact zB | exact zC | exact zD | exact zE | rfl | exact zN rfl | omega | assumption | (simp; done) | (simp [splice]; done) | (simp; omega) | (unfold fits; omega) | (unfold fits; simp_all; omega) | (simp_all; omega) | (simp_all; done) | intro _ | exact zI ?_ ?_ | intro _))))); try (refine L.nil ?_))
  repeat refine S.seq ?_
  refine S.region (L.run (T := tt) 1 tt_ok rfl rfl (by (repeat' ((first | first | exact trivial | exact zA | with_reducible refine zI ?_ ?_ | exact zB | exact zC | exact zD | exact zE | rfl | exact zN rfl | omega | assumption | (simp; done) | (simp [splice]; done) | (simp; omega) | (unfold fits; omega) | (unfold fits; simp_all; omega) | (simp_all; omega) | (simp_all; done) | intro _ | exact zI ?_ ?_ | intro _)))) ?_)
  refine L.isNil (T := tt) tt_ok rfl rfl rfl rfl rfl rfl trivial fun b h0 => L.nil ?_
  ((repeat refine S.seq ?_); refine S.cond rfl (fun h => ?_) (fun h => ?_) <;> (try first | refine S.skip ?_ | refine S.exit ?_))
  · ((repeat refine S.seq ?_); refine S.region (L.go (T := tt) tt_ok rfl rfl ?sd2 ?_); (try (case sd2 => (repeat' ((first | first | exact trivial | exact zA | with_reducible refine zI ?_ ?_ | exact zB | exact zC | exact zD | exact zE | rfl | exact zN rfl | omega | assumption | (simp; done) | (simp [splice]; done) | (simp; omega) | (unfold fits; omega) | (unfold fits; simp_all; omega) | (simp_all; omega) | (simp_all; done) | intro _ | exact zI ?_ ?_ | intro _))))); try (refine L.nil ?_))
    have hn := h0 h
    subst hn
    exact S.ret (nilRow id 38 2 g (E.ret (T := tt) tt_ok rfl rfl (by (repeat' ((first | first | exact trivial | exact zA | with_reducible refine zI ?_ ?_ | exact zB | exact zC | exact zD | exact zE | rfl | exact zN rfl | omega | assumption | (simp; done) | (simp [splice]; done) | (simp; omega) | (unfold fits; omega) | (unfold fits; simp_all; omega) | (simp_all; omega) | (simp_all; done) | intro _ | exact zI ?_ ?_ | intro _)))) (Imp.vref rfl) (List.Sublist.refl _) ⟨_, rfl, rfl⟩))
  · repeat refine S.seq ?_
    refine S.region (L.buildSlice (T := tt) 0 tt_ok rfl rfl rfl rfl rfl rfl (by decide) (by decide) rfl rfl (by (repeat' ((first | first | exact trivial | exact zA | with_reducible refine zI ?_ ?_ | exact zB | exact zC | exact zD | exact zE | rfl | exact zN rfl | omega | assumption | (simp; done) | (simp [splice]; done) | (simp; omega) | (unfold fits; omega) | (unfold fits; simp_all; omega) | (simp_all; omega) | (simp_all; done) | intro _ | exact zI ?_ ?_ | intro _)))) fun x => ?_)
    refine L.run (T := tt) 1 tt_ok rfl rfl (by (repeat' ((first | first | exact trivial | exact zA | with_reducible refine zI ?_ ?_ | exact zB | exact zC | exact zD | exact zE | rfl | exact zN rfl | omega | assumption | (simp; done) | (simp [splice]; done) | (simp; omega) | (unfold fits; omega) | (unfold fits; simp_all; omega) | (simp_all; omega) | (simp_all; done) | intro _ | exact zI ?_ ?_ | intro _)))) ?_
    refine L.append (T := tt) tt_ok rfl rfl rfl rfl rfl rfl rfl rfl rfl rfl (by (repeat' ((first | first | exact trivial | exact zA | with_reducible refine zI ?_ ?_ | exact zB | exact zC | exact zD | exact zE | rfl | exact zN rfl | omega | assumption | (simp; done) | (simp [splice]; done) | (simp; omega) | (unfold fits; omega) | (unfold fits; simp_all; omega) | (simp_all; omega) | (simp_all; done) | intro _ | exact zI ?_ ?_ | intro _)))) ⟨rfl, by decide, by decide⟩ (by simpa using hb) fun x1 => ?_
    (refine L.go (T := tt) tt_ok rfl rfl ?sd3 ?_; (try (case sd3 => (repeat' ((first | first | exact trivial | exact zA | with_reducible refine zI ?_ ?_ | exact zB | exact zC | exact zD | exact zE | rfl | exact zN rfl | omega | assumption | (simp; done) | (simp [splice]; done) | (simp; omega) | (unfold fits; omega) | (unfold fits; simp_all; omega) | (simp_all; omega) | (simp_all; done) | intro _ | exact zI ?_ ?_ | intro _))))); try (refine L.nil ?_))
    refine S.ret (rowsEq [(0, .own x1 38 2 n g)] (by simp [setF, joinG_zero]) (renum [(id, .own x1 38 2 n g)] 2 (.ref id x1) rfl rfl Imp.ref ?_))
    exact E.ret (T := tt) tt_ok rfl rfl (by (repeat' ((first | first | exact trivial | exact zA | with_reducible refine zI ?_ ?_ | exact zB | exact zC | exact zD | exact zE | rfl | exact zN rfl | omega | assumption | (simp; done) | (simp [splice]; done) | (simp; omega) | (unfold fits; omega) | (unfold fits; simp_all; omega) | (simp_all; omega) | (simp_all; done) | intro _ | exact zI ?_ ?_ | intro _)))) (Imp.refl _) (List.Sublist.refl _) ⟨_, rfl, rfl⟩

end Go.Proofs.YtlgdjmmjconbfaaDoor

/- Halving at the program. -/
namespace Go.Proofs.YtlgdjmmjconbfaaDoor
set_option linter.unusedVariables false
set_option linter.unusedSimpArgs false
set_option maxHeartbeats 8000000
open Go.RowKit
set_option maxRecDepth 4000

def halveA (l : List Arc) (s o : Int) : List Arc := if (!mayA l || decide (o < 0) || decide (o ≥ 16)) = true then [] else hvS l s o
theorem exTo_len (l : List Arc) (s o : Int) : ∀ k, (exTo l s o k).length ≤ k
  | 0 => by simp [exTo]
  | k + 1 => by
    have ih := exTo_len l s o k
    rw [exTo, exE]
    split <;> simp only [List.length_append, List.length_cons, List.length_nil] <;> omega
theorem halve_p (l : List Arc) (s o : Int) (hl : l.length ≤ 500) (hft : ∀ a ∈ l, 0 ≤ a.at0 ∧ a.at0 < 4294967296) : PFn Tryd.prog 21 [arcs l, .v (.int .i64 s), .v (.int .i64 o)] (arcs (halveA l s o)) := by
  refine FnC.intro Tryd.func21 rfl Tryd.ntmps21 rfl ?_; intro off w0
  ((repeat refine S.seq ?_); refine S.region (L.go (T := tt) tt_ok rfl rfl ?sd4 ?_); (try (case sd4 => (repeat' ((first | first | exact trivial | exact zA | with_reducible refine zI ?_ ?_ | exact zB | exact zC | exact zD | exact zE | rfl | exact zN rfl | omega | assumption | (simp; done) | (simp [splice]; done) | (simp; omega) | (unfold fits; omega) | (unfold fits; simp_all; omega) | (simp_all; omega) | (simp_all; done) | intro _ | exact zI ?_ ?_ | intro _))))); try (refine L.nil ?_))
  ((repeat refine S.seq ?_); refine S.region (L.go (T := tt) tt_ok rfl rfl ?sd5 ?_); (try (case sd5 => (repeat' ((first | first | exact trivial | exact zA | with_reducible refine zI ?_ ?_ | exact zB | exact zC | exact zD | exact zE | rfl | exact zN rfl | omega | assumption | (simp; done) | (simp [splice]; done) | (simp; omega) | (unfold fits; omega) | (unfold fits; simp_all; omega) | (simp_all; omega) | (simp_all; done) | intro _ | exact zI ?_ ?_ | intro _))))); try (refine L.nil ?_))
  refine L.callP rfl rfl rfl rfl rfl rfl rfl ⟨trivial, by (repeat' ((first | first | exact trivial | exact zA | with_reducible refine zI ?_ ?_ | exact zB | exact zC | exact zD | exact zE | rfl | exact zN rfl | omega | assumption | (simp; done) | (simp [splice]; done) | (simp; omega) | (unfold fits; omega) | (unfold fits; simp_all; omega) | (simp_all; omega) | (simp_all; done) | intro _ | exact zI ?_ ?_ | intro _)))⟩ rfl (Imps.refl _) (ringmay_p l) ?_
  (refine L.go (T := tt) tt_ok rfl rfl ?sd16 ?_; (try (case sd16 => (repeat' ((first | first | exact trivial | exact zA | with_reducible refine zI ?_ ?_ | exact zB | exact zC | exact zD | exact zE | rfl | exact zN rfl | omega | assumption | (simp; done) | (simp [splice]; done) | (simp; omega) | (unfold fits; omega) | (unfold fits; simp_all; omega) | (simp_all; omega) | (simp_all; done) | intro _ | exact zI ?_ ?_ | intro _))))); try (refine L.nil ?_))
  ((repeat refine S.seq ?_); refine S.cond rfl (fun h1 => ?_) (fun h1 => ?_) <;> (try first | refine S.skip ?_ | refine S.exit ?_))
  · ((repeat refine S.seq ?_); refine S.region (L.go (T := tt) tt_ok rfl rfl ?sd6 ?_); (try (case sd6 => (repeat' ((first | first | exact trivial | exact zA | with_reducible refine zI ?_ ?_ | exact zB | exact zC | exact zD | exact zE | rfl | exact zN rfl | omega | assumption | (simp; done) | (simp [splice]; done) | (simp; omega) | (unfold fits; omega) | (unfold fits; simp_all; omega) | (simp_all; omega) | (simp_all; done) | intro _ | exact zI ?_ ?_ | intro _))))); try (refine L.nil ?_))
    ((repeat refine S.seq ?_); refine S.ret ?_)
    refine E.retP (T := tt) tt_ok rfl rfl (by (repeat' ((first | first | exact trivial | exact zA | with_reducible refine zI ?_ ?_ | exact zB | exact zC | exact zD | exact zE | rfl | exact zN rfl | omega | assumption | (simp; done) | (simp [splice]; done) | (simp; omega) | (unfold fits; omega) | (unfold fits; simp_all; omega) | (simp_all; omega) | (simp_all; done) | intro _ | exact zI ?_ ?_ | intro _)))) ?_
    rw [halveA, if_pos h1]
    exact Imp.nil _ _
  have h2 : mayA l = true := by
    simp only [Bool.or_eq_false_iff, Bool.not_eq_false'] at h1
    exact h1.1.1
  have hm := mayA_of h2
  have hf : Fit l := ⟨hm, hft⟩
  have hone := hm.one
  rw [halveA, if_neg (by rw [h1]; decide)]
  repeat refine S.seq ?_
  refine S.region ?_
  (refine L.go (T := tt) tt_ok rfl rfl ?sd17 ?_; (try (case sd17 => (repeat' ((first | first | exact trivial | exact zA | with_reducible refine zI ?_ ?_ | exact zB | exact zC | exact zD | exact zE | rfl | exact zN rfl | omega | assumption | (simp; done) | (simp [splice]; done) | (simp; omega) | (unfold fits; omega) | (unfold fits; simp_all; omega) | (simp_all; omega) | (simp_all; done) | intro _ | exact zI ?_ ?_ | intro _))))); try (refine L.nil ?_))
  refine L.call (G := []) (H := []) rfl rfl rfl rfl rfl rfl rfl ⟨trivial, by (repeat' ((first | first | exact trivial | exact zA | with_reducible refine zI ?_ ?_ | exact zB | exact zC | exact zD | exact zE | rfl | exact zN rfl | omega | assumption | (simp; done) | (simp [splice]; done) | (simp; omega) | (unfold fits; omega) | (unfold fits; simp_all; omega) | (simp_all; omega) | (simp_all; done) | intro _ | exact zI ?_ ?_ | intro _)))⟩ rfl (by exact Imps.refl [arcs l]) (List.Perm.refl _) (ClnArc (n := l.length) (g := gOf Arc.cells l) (by omega) 60) ?_
  rintro r F' ⟨x0, rfl, rfl⟩
  (refine L.go (T := tt) tt_ok rfl rfl ?sd18 ?_; (try (case sd18 => (repeat' ((first | first | exact trivial | exact zA | with_reducible refine zI ?_ ?_ | exact zB | exact zC | exact zD | exact zE | rfl | exact zN rfl | omega | assumption | (simp; done) | (simp [splice]; done) | (simp; omega) | (unfold fits; omega) | (unfold fits; simp_all; omega) | (simp_all; omega) | (simp_all; done) | intro _ | exact zI ?_ ?_ | intro _))))); try (refine L.nil ?_))
  ((repeat refine S.seq ?_); refine S.region (L.go (T := tt) tt_ok rfl rfl ?sd7 ?_); (try (case sd7 => (repeat' ((first | first | exact trivial | exact zA | with_reducible refine zI ?_ ?_ | exact zB | exact zC | exact zD | exact zE | rfl | exact zN rfl | omega | assumption | (simp; done) | (simp [splice]; done) | (simp; omega) | (unfold fits; omega) | (unfold fits; simp_all; omega) | (simp_all; omega) | (simp_all; done) | intro _ | exact zI ?_ ?_ | intro _))))); try (refine L.nil ?_))
  repeat refine S.seq ?_
  refine S.cut (ι := Value) (fun x => [(7, .ref 60 x)]) (fun x => [(60, .own x 38 2 (l ++ exTo l s o l.length).length (gOf Arc.cells (l ++ exTo l s o l.length)))]) ?_ ?_
  · refine S.block (S.loop (ι := { p : Nat × Value // p.1 ≤ l.length }) (fun p => [(0, arcs l), (1, .v (.int .i64 s)), (2, .v (.int .i64 o)), (7, .ref 60 p.1.2), (24, arcs l), (25, .v (.int .i64 l.length)), (26, .v (.int .i64 p.1.1))])
      (fun p => [(60, .own p.1.2 38 2 (l ++ exTo l s o p.1.1).length (gOf Arc.cells (l ++ exTo l s o p.1.1)))]) (fun p => l.length - p.1.1) ?_ ?_)
    · exact fun a w hR => ⟨⟨(0, x0), Nat.zero_le _⟩, hR.weakP (by (repeat' (first | exact True.intro | exact Imp.refl _ | refine ⟨?_, ?_⟩))) (Sub.of _ (by simp only [exTo, List.append_nil]; exact List.Perm.refl _))⟩
    rintro ⟨⟨k, x⟩, hk⟩
    dsimp only at hk ⊢
    have hxl := exTo_len l s o k
    obtain ⟨m, hmm⟩ : ∃ m, m = l ++ exTo l s o k := ⟨_, rfl⟩
    have hml : m.length ≤ 1000 := by rw [hmm, List.length_append]; omega
    rw [← hmm]
    ((repeat refine S.seq ?_); refine S.region (L.go (T := tt) tt_ok rfl rfl ?sd8 ?_); (try (case sd8 => (repeat' ((first | first | exact trivial | exact zA | with_reducible refine zI ?_ ?_ | exact zB | exact zC | exact zD | exact zE | rfl | exact zN rfl | omega | assumption | (simp; done) | (simp [splice]; done) | (simp; omega) | (unfold fits; omega) | (unfold fits; simp_all; omega) | (simp_all; omega) | (simp_all; done) | intro _ | exact zI ?_ ?_ | intro _))))); try (refine L.nil ?_))
    ((repeat refine S.seq ?_); refine S.cond rfl (fun hc => ?_) (fun hc => ?_) <;> (try first | refine S.skip ?_ | refine S.exit ?_))
    · have hk' : k < l.length := by have := of_dec hc; omega
      have hw := widA_le l k
      repeat refine S.seq ?_
      refine S.block ?_
      repeat refine S.seq ?_
      refine S.region ?_
      (refine L.go (T := tt) tt_ok rfl rfl ?sd19 ?_; (try (case sd19 => (repeat' ((first | first | exact trivial | exact zA | with_reducible refine zI ?_ ?_ | exact zB | exact zC | exact zD | exact zE | rfl | exact zN rfl | omega | assumption | (simp; done) | (simp [splice]; done) | (simp; omega) | (unfold fits; omega) | (unfold fits; simp_all; omega) | (simp_all; omega) | (simp_all; done) | intro _ | exact zI ?_ ?_ | intro _))))); try (refine L.nil ?_))
      refine L.alloc (T := tt) 9 tt_ok rfl rfl rfl rfl rfl fun b9 => ?_
      (refine L.go (T := tt) tt_ok rfl rfl ?sd20 ?_; (try (case sd20 => (repeat' ((first | first | exact trivial | exact zA | with_reducible refine zI ?_ ?_ | exact zB | exact zC | exact zD | exact zE | rfl | exact zN rfl | omega | assumption | (simp; done) | (simp [splice]; done) | (simp; omega) | (unfold fits; omega) | (unfold fits; simp_all; omega) | (simp_all; omega) | (simp_all; done) | intro _ | exact zI ?_ ?_ | intro _))))); try (refine L.nil ?_))
      (refine L.store (T := tt) tt_ok rfl rfl rfl rfl rfl rfl ?sd24 ?_; (try (case sd24 => (repeat' ((first | first | exact trivial | exact zA | with_reducible refine zI ?_ ?_ | exact zB | exact zC | exact zD | exact zE | rfl | exact zN rfl | omega | assumption | (simp; done) | (simp [splice]; done) | (simp; omega) | (unfold fits; omega) | (unfold fits; simp_all; omega) | (simp_all; omega) | (simp_all; done) | intro _ | exact zI ?_ ?_ | intro _))))))
      refine L.nil ?_
      ((repeat refine S.seq ?_); refine S.region (L.go (T := tt) tt_ok rfl rfl ?sd9 ?_); (try (case sd9 => (repeat' ((first | first | exact trivial | exact zA | with_reducible refine zI ?_ ?_ | exact zB | exact zC | exact zD | exact zE | rfl | exact zN rfl | omega | assumption | (simp; done) | (simp [splice]; done) | (simp; omega) | (unfold fits; omega) | (unfold fits; simp_all; omega) | (simp_all; omega) | (simp_all; done) | intro _ | exact zI ?_ ?_ | intro _))))); try (refine L.nil ?_))
      refine L.callP rfl rfl rfl rfl rfl rfl rfl ⟨trivial, by (repeat' ((first | first | exact trivial | exact zA | with_reducible refine zI ?_ ?_ | exact zB | exact zC | exact zD | exact zE | rfl | exact zN rfl | omega | assumption | (simp; done) | (simp [splice]; done) | (simp; omega) | (unfold fits; omega) | (unfold fits; simp_all; omega) | (simp_all; omega) | (simp_all; done) | intro _ | exact zI ?_ ?_ | intro _)))⟩ rfl (Imps.refl _) (width_p l k hk' (by omega)) ?_
      (refine L.go (T := tt) tt_ok rfl rfl ?sd21 ?_; (try (case sd21 => (repeat' ((first | first | exact trivial | exact zA | with_reducible refine zI ?_ ?_ | exact zB | exact zC | exact zD | exact zE | rfl | exact zN rfl | omega | assumption | (simp; done) | (simp [splice]; done) | (simp; omega) | (unfold fits; omega) | (unfold fits; simp_all; omega) | (simp_all; omega) | (simp_all; done) | intro _ | exact zI ?_ ?_ | intro _))))); try (refine L.nil ?_))
      ((repeat refine S.seq ?_); refine S.region (L.go (T := tt) tt_ok rfl rfl ?sd10 ?_); (try (case sd10 => (repeat' ((first | first | exact trivial | exact zA | with_reducible refine zI ?_ ?_ | exact zB | exact zC | exact zD | exact zE | rfl | exact zN rfl | omega | assumption | (simp; done) | (simp [splice]; done) | (simp; omega) | (unfold fits; omega) | (unfold fits; simp_all; omega) | (simp_all; omega) | (simp_all; done) | intro _ | exact zI ?_ ?_ | intro _))))); try (refine L.nil ?_))
      ((repeat refine S.seq ?_); refine S.cond rfl (fun h3 => ?_) (fun h3 => ?_) <;> (try first | refine S.skip ?_ | refine S.exit ?_))
      · have h3' : (l.getD k default).shard = s ∧ widA l k ≥ 2 := by
          simp only [Bool.and_eq_true, decide_eq_true_eq, beq_iff_eq] at h3
          exact h3
        obtain ⟨e, he⟩ : ∃ e : Arc, e = ⟨((l.getD k default).at0 + widA l k / 2) % 4294967296, o⟩ := ⟨_, rfl⟩
        ((repeat refine S.seq ?_); refine S.region (L.go (T := tt) tt_ok rfl rfl ?sd11 ?_); (try (case sd11 => (repeat' ((first | first | exact trivial | exact zA | with_reducible refine zI ?_ ?_ | exact zB | exact zC | exact zD | exact zE | rfl | exact zN rfl | omega | assumption | (simp; done) | (simp [splice]; done) | (simp; omega) | (unfold fits; omega) | (unfold fits; simp_all; omega) | (simp_all; omega) | (simp_all; done) | intro _ | exact zI ?_ ?_ | intro _))))); try (refine L.nil ?_))
        refine slotAs 50 e.av rfl (Imp.of_eq ?_) ?_
        · have e0 : IntKind.u32.wrap ((l.getD k default).at0 + IntKind.u32.wrap (IntKind.u64.wrap ((widA l k).tdiv 2))) = ((l.getD k default).at0 + widA l k / 2) % 4294967296 := by
            have e1 : (widA l k).tdiv 2 = widA l k / 2 := Int.tdiv_eq_ediv_of_nonneg hw.1
            have e2 : ∀ z, IntKind.u32.wrap z = z % 4294967296 := fun _ => rfl
            rw [e1, u64_id (by omega) (by omega), e2, e2]
            omega
          rw [he, ← e0]
          rfl
        refine L.buildSlice (T := tt) 61 tt_ok rfl rfl rfl rfl rfl rfl (by decide) (by decide) rfl rfl (by (repeat' ((first | first | exact trivial | exact zA | with_reducible refine zI ?_ ?_ | exact zB | exact zC | exact zD | exact zE | rfl | exact zN rfl | omega | assumption | (simp; done) | (simp [splice]; done) | (simp; omega) | (unfold fits; omega) | (unfold fits; simp_all; omega) | (simp_all; omega) | (simp_all; done) | intro _ | exact zI ?_ ?_ | intro _)))) fun x51 => ?_
        refine L.append (T := tt) tt_ok rfl rfl rfl rfl rfl rfl rfl rfl rfl rfl (by (repeat' ((first | first | exact trivial | exact zA | with_reducible refine zI ?_ ?_ | exact zB | exact zC | exact zD | exact zE | rfl | exact zN rfl | omega | assumption | (simp; done) | (simp [splice]; done) | (simp; omega) | (unfold fits; omega) | (unfold fits; simp_all; omega) | (simp_all; omega) | (simp_all; done) | intro _ | exact zI ?_ ?_ | intro _)))) ⟨rfl, by decide, by decide⟩ (by simp; omega) fun y52 => ?_
        refine ownAs 60 (gOf Arc.cells (m ++ [e])) rfl (show m.length + 1 = (m ++ [e]).length by simp) (fun i hi => app1_h Arc.cells m e _ rfl rfl hi) ?_
        (refine L.go (T := tt) tt_ok rfl rfl ?sd22 ?_; (try (case sd22 => (repeat' ((first | first | exact trivial | exact zA | with_reducible refine zI ?_ ?_ | exact zB | exact zC | exact zD | exact zE | rfl | exact zN rfl | omega | assumption | (simp; done) | (simp [splice]; done) | (simp; omega) | (unfold fits; omega) | (unfold fits; simp_all; omega) | (simp_all; omega) | (simp_all; done) | intro _ | exact zI ?_ ?_ | intro _))))); try (refine L.nil ?_))
        ((repeat refine S.seq ?_); refine S.region (L.go (T := tt) tt_ok rfl rfl ?sd12 ?_); (try (case sd12 => (repeat' ((first | first | exact trivial | exact zA | with_reducible refine zI ?_ ?_ | exact zB | exact zC | exact zD | exact zE | rfl | exact zN rfl | omega | assumption | (simp; done) | (simp [splice]; done) | (simp; omega) | (unfold fits; omega) | (unfold fits; simp_all; omega) | (simp_all; omega) | (simp_all; done) | intro _ | exact zI ?_ ?_ | intro _))))); try (refine L.nil ?_))
        exact fun a w hR => ⟨⟨(k + 1, y52), hk'⟩, by show l.length - (k + 1) < l.length - k; omega, (hR.weakP (by (repeat' (first | exact True.intro | exact Imp.refl _ | refine ⟨?_, ?_⟩))) (by rw [exTo, exE, if_pos h3', ← he, ← List.append_assoc, ← hmm]; (repeat (first | exact Sub.refl _ | refine Sub.pick (by first | exact p0 | exact pS p0 | exact pS (pS p0) | exact pS (pS (pS p0)) | exact pS (pS (pS (pS p0))) | exact pS (pS (pS (pS (pS p0))))) ?_))))⟩
      have h3' : ¬ ((l.getD k default).shard = s ∧ widA l k ≥ 2) := by
        rintro ⟨g1, g2⟩
        have g1 : (l.getD (k : Int).toNat default).shard = s := g1
        rw [g1, decide_eq_true g2] at h3
        simp at h3
      ((repeat refine S.seq ?_); refine S.region (L.go (T := tt) tt_ok rfl rfl ?sd13 ?_); (try (case sd13 => (repeat' ((first | first | exact trivial | exact zA | with_reducible refine zI ?_ ?_ | exact zB | exact zC | exact zD | exact zE | rfl | exact zN rfl | omega | assumption | (simp; done) | (simp [splice]; done) | (simp; omega) | (unfold fits; omega) | (unfold fits; simp_all; omega) | (simp_all; omega) | (simp_all; done) | intro _ | exact zI ?_ ?_ | intro _))))); try (refine L.nil ?_))
      exact fun a w hR => ⟨⟨(k + 1, x), hk'⟩, by show l.length - (k + 1) < l.length - k; omega, (hR.weakP (by (repeat' (first | exact True.intro | exact Imp.refl _ | refine ⟨?_, ?_⟩))) (by rw [exTo, exE, if_neg h3', List.append_nil, ← hmm]; (repeat (first | exact Sub.refl _ | refine Sub.pick (by first | exact p0 | exact pS p0 | exact pS (pS p0) | exact pS (pS (pS p0)) | exact pS (pS (pS (pS p0))) | exact pS (pS (pS (pS (pS p0))))) ?_))))⟩
    have hk' : k = l.length := by have := of_dec' hc; omega
    subst hk'
    rw [hmm]
    exact fun a w hR => ⟨x, hR.weakP (by (repeat' (first | exact True.intro | exact Imp.refl _ | refine ⟨?_, ?_⟩))) (by (repeat (first | exact Sub.refl _ | refine Sub.pick (by first | exact p0 | exact pS p0 | exact pS (pS p0) | exact pS (pS (pS p0)) | exact pS (pS (pS (pS p0))) | exact pS (pS (pS (pS (pS p0))))) ?_)))⟩
  intro x
  have hxl := exTo_len l s o l.length
  obtain ⟨m, hmm⟩ : ∃ m, m = l ++ exTo l s o l.length := ⟨_, rfl⟩
  have hml : m.length ≤ 1000 := by rw [hmm, List.length_append]; omega
  have hm1 : 0 < m.length := by rw [hmm, List.length_append]; omega
  rw [← hmm]
  repeat refine S.seq ?_
  refine S.region ?_
  (refine L.go (T := tt) tt_ok rfl rfl ?sd23 ?_; (try (case sd23 => (repeat' ((first | first | exact trivial | exact zA | with_reducible refine zI ?_ ?_ | exact zB | exact zC | exact zD | exact zE | rfl | exact zN rfl | omega | assumption | (simp; done) | (simp [splice]; done) | (simp; omega) | (unfold fits; omega) | (unfold fits; simp_all; omega) | (simp_all; omega) | (simp_all; done) | intro _ | exact zI ?_ ?_ | intro _))))); try (refine L.nil ?_))
  refine L.call (G := [(60, .own x 38 2 m.length (gOf Arc.cells m))]) (H := []) rfl rfl rfl rfl rfl rfl rfl ⟨trivial, by (repeat' ((first | first | exact trivial | exact zA | with_reducible refine zI ?_ ?_ | exact zB | exact zC | exact zD | exact zE | rfl | exact zN rfl | omega | assumption | (simp; done) | (simp [splice]; done) | (simp; omega) | (unfold fits; omega) | (unfold fits; simp_all; omega) | (simp_all; omega) | (simp_all; done) | intro _ | exact zI ?_ ?_ | intro _)))⟩ rfl (by exact Imps.refl [.ref 60 x, .fn (.func 51) []]) (List.Perm.refl _) (sort_half 60 m x hm1 (by omega)) ?_
  rintro r F' ⟨rfl, d, hd1, hd2, rfl⟩
  have hde : d = hvS l s o := sorted_eq hf s o (by rw [← hmm]; exact hd1) hd2
  have hdl : d.length ≤ 1000 := by rw [hd1.length_eq]; exact hml
  refine L.nil ?_
  refine rowsEq [(60, .own x 38 2 d.length (gOf Arc.cells d))] rfl ?_
  refine freezeSlot 7 60 rfl rfl rfl (slotAs 7 (arcs d) rfl (Imp.refl _) ?_)
  ((repeat refine S.seq ?_); refine S.region (L.go (T := tt) tt_ok rfl rfl ?sd14 ?_); (try (case sd14 => (repeat' ((first | first | exact trivial | exact zA | with_reducible refine zI ?_ ?_ | exact zB | exact zC | exact zD | exact zE | rfl | exact zN rfl | omega | assumption | (simp; done) | (simp [splice]; done) | (simp; omega) | (unfold fits; omega) | (unfold fits; simp_all; omega) | (simp_all; omega) | (simp_all; done) | intro _ | exact zI ?_ ?_ | intro _))))); try (refine L.nil ?_))
  ((repeat refine S.seq ?_); refine S.cond rfl (fun h4 => ?_) (fun h4 => ?_) <;> (try first | refine S.skip ?_ | refine S.exit ?_))
  · have := of_dec h4
    omega
  ((repeat refine S.seq ?_); refine S.region (L.go (T := tt) tt_ok rfl rfl ?sd15 ?_); (try (case sd15 => (repeat' ((first | first | exact trivial | exact zA | with_reducible refine zI ?_ ?_ | exact zB | exact zC | exact zD | exact zE | rfl | exact zN rfl | omega | assumption | (simp; done) | (simp [splice]; done) | (simp; omega) | (unfold fits; omega) | (unfold fits; simp_all; omega) | (simp_all; omega) | (simp_all; done) | intro _ | exact zI ?_ ?_ | intro _))))); try (refine L.nil ?_))
  (((repeat refine S.seq ?_); refine S.ret ?_); refine E.retP (T := tt) tt_ok rfl rfl (by (repeat' ((first | first | exact trivial | exact zA | with_reducible refine zI ?_ ?_ | exact zB | exact zC | exact zD | exact zE | rfl | exact zN rfl | omega | assumption | (simp; done) | (simp [splice]; done) | (simp; omega) | (unfold fits; omega) | (unfold fits; simp_all; omega) | (simp_all; omega) | (simp_all; done) | intro _ | exact zI ?_ ?_ | intro _)))) (Imp.of_eq ?_))
  rw [← hde]
  rfl
end Go.Proofs.YtlgdjmmjconbfaaDoor

/- The order of marks: cmp.Or. -/
namespace Go.Proofs.YtlgdjmmjconbfaaDoor
set_option linter.unusedVariables false
set_option linter.unusedSimpArgs false
set_option maxHeartbeats 8000000
open Go.RowKit Go.Lib
set_option maxRecDepth 100000

def orI (a b : Int) : Int := if a = 0 then b else a
theorem or_p (a b : Int) (g : Nat) (W : World) (h0 : W.cell? ⟨g, 0, none⟩ = some (.int .i64 a)) (h1 : W.cell? ⟨g, 1, none⟩ = some (.int .i64 b)) :
    Calls Tryd.prog 41 #[.slice (some ⟨g, 0, none⟩) 2 2] W fun e w' => e = .returned (.int .i64 (orI a b)) ∧ w' = W := by
  have hf : a ≠ 0 → orI a b = a := fun h => by rw [orI, if_neg h]
  have hg : a = 0 → orI a b = b := fun h => by rw [orI, if_pos h]
  have hb : b = 0 → b = 0 := id
  go_enter Tryd.func41, Tryd.ntmps41
  by_cases ha : a = 0
  · subst ha
    have e1 := hg rfl
    rw [e1]
    clear e1 hf hg
    by_cases hz : b = 0
    · subst hz
      go_wp2
      refine wp_loop_rounds 3 ?_
      rw [rounds_succ]
      go_wp2
      rw [rounds_succ]
      go_wp2
      rw [rounds_succ]
      go_wp2
      go_ret
      exact ⟨rfl, rfl⟩
    · go_wp2
      refine wp_loop_rounds 2 ?_
      rw [rounds_succ]
      go_wp2
      rw [rounds_succ]
      go_wp2
      go_ret
      exact ⟨rfl, rfl⟩
  · rw [hf ha]
    clear hf hg
    go_wp2
    refine wp_loop_rounds 1 ?_
    rw [rounds_succ]
    go_wp2
    go_ret
    exact ⟨rfl, rfl⟩
end Go.Proofs.YtlgdjmmjconbfaaDoor

/- Sorted by points, then by shards. -/
namespace Go.Proofs.YtlgdjmmjconbfaaDoor
set_option linter.unusedVariables false
set_option linter.unusedSimpArgs false
set_option maxHeartbeats 8000000
open Go.Shelf Go.RowKit Go.Lib Go.Sort
set_option maxRecDepth 100000

theorem nan64 (x : Int) (w : World) : Calls Tryd.prog 69 #[.int .i64 x] w fun e w' => e = .returned (.bool false) ∧ w' = w := by
  go_enter Tryd.func69, Tryd.ntmps69
  go_wp2
  go_ret
  exact ⟨by simp, rfl⟩
theorem cmp64 (x y : Int) (w : World) : Calls Tryd.prog 43 #[.int .i64 x, .int .i64 y] w fun e w' => e = .returned (.int .i64 (cmpI x y)) ∧ w' = w := by
  go_enter Tryd.func43, Tryd.ntmps43
  go_wp2_with (go_at_call 69; refine (nan64 _ _).mono ?_; rintro e w' ⟨rfl, hw⟩; rw [hw])
  all_goals (go_ret; refine ⟨?_, rfl⟩; unfold cmpI; (repeat' split) <;> first | rfl | (exfalso; omega))
theorem two_blocks (W : World) (o1 o2 : Obj) : ((W.alloc o1).alloc o2).drew.heap[W.heap.size]? = some o1 ∧ ((W.alloc o1).alloc o2).drew.heap[W.heap.size + 1]? = some o2 ∧ ((W.alloc o1).alloc o2).drew = grow (W.drewN 1) #[o1, o2] := by
  refine ⟨?_, ?_, ?_⟩
  · show ((W.heap.push o1).push o2)[W.heap.size]? = _
    rw [Array.getElem?_push, Array.getElem?_push, if_neg (by simp), if_pos rfl]
  · show ((W.heap.push o1).push o2)[W.heap.size + 1]? = _
    rw [Array.getElem?_push, if_pos (by simp)]
  · rw [alloc_eq_grow, alloc_eq_grow, grow_grow]; rfl
def cmpA (x y : Arc) : Int := orI (cmpI x.at0 y.at0) (cmpI x.shard y.shard)
theorem build2 (x y : Arc) (W : World) : Calls Tryd.prog 40 #[.agg #[.int .u32 x.at0, .int .i64 x.shard], .agg #[.int .u32 y.at0, .int .i64 y.shard]] W fun e w' => e = .returned (.int .i64 (cmpA x y)) ∧ ∃ q os', w' = grow (W.drewN q) os' := by
  have hcon := fun W' => cmp32 x.at0 y.at0 W'
  have hcon2 := fun W' => cmp64 x.shard y.shard W'
  have hor := or_p (cmpI x.at0 y.at0) (cmpI x.shard y.shard)
  rw [cmpA]
  generalize orI (cmpI x.at0 y.at0) (cmpI x.shard y.shard) = r0 at hor ⊢
  generalize cmpI x.at0 y.at0 = r at hcon hor
  generalize cmpI x.shard y.shard = s at hcon2 hor
  go_enter Tryd.func40, Tryd.ntmps40
  go_wp2_with fail
  obtain ⟨w1, hw1⟩ : ∃ w1, w1 = ((W.alloc (Obj.cells #[Value.int IntKind.u32 x.at0, Value.int IntKind.i64 x.shard] 38 (0, 0))).alloc (Obj.cells #[Value.int IntKind.u32 y.at0, Value.int IntKind.i64 y.shard] 38 (0, 0))) := ⟨_, rfl⟩
  obtain ⟨w2, hw2⟩ : ∃ w2, w2 = w1.drew := ⟨_, rfl⟩
  obtain ⟨b1, b2, b3⟩ := two_blocks W (Obj.cells #[Value.int IntKind.u32 x.at0, Value.int IntKind.i64 x.shard] 38 (0, 0)) (Obj.cells #[Value.int IntKind.u32 y.at0, Value.int IntKind.i64 y.shard] 38 (0, 0))
  rw [← hw1, ← hw2] at b1 b2 b3
  have c1 : w2.cell? ⟨W.heap.size, 0, none⟩ = some (.int .u32 x.at0) := by simp only [World.cell?, b1]; rfl
  have c2 : w2.cell? ⟨W.heap.size, 1, none⟩ = some (.int .i64 x.shard) := by simp only [World.cell?, b1]; rfl
  have c3 : w2.cell? ⟨W.heap.size + 1, 0, none⟩ = some (.int .u32 y.at0) := by simp only [World.cell?, b2]; rfl
  have c4 : w2.cell? ⟨W.heap.size + 1, 1, none⟩ = some (.int .i64 y.shard) := by simp only [World.cell?, b2]; rfl
  have hq : ∃ q os', w2 = grow (W.drewN q) os' := ⟨1, _, b3⟩
  clear b1 b2 b3
  rw [← hw1]
  refine wp_region_still_tail 10 mixed (by kernel_rfl) ?_
  simp only [List.take_succ_cons, List.take_zero, List.drop_succ_cons, List.drop_zero]
  change wpStill _ _ w1.drew _ _ _
  rw [← hw2]
  replace hw2 := Lib.hid hw2
  replace hw1 := Lib.hid hw1
  replace hq := Lib.hid hq
  iterate 4 still_step
  still_call (hcon _)
  iterate 4 still_step
  still_call (hcon2 _)
  refine wpStill_nil ?_
  change wpList _ _ _ _ _ w1.drew
  rw [← hw2.out]
  clear hw2 hw1 c1 c2 c3 c4
  go_wp2_with (go_at_call 41; refine (hor _ _ (by simp) (by simp)).mono ?_; rintro e w' ⟨rfl, rfl⟩)
  go_ret
  obtain ⟨q, os', h⟩ := hq.out
  exact ⟨rfl, q, _, by rw [h, alloc_eq_grow, grow_grow]⟩
theorem cmpA_neg (a b : Arc) : (cmpA a b < 0) ↔ (a.at0 < b.at0 ∨ a.at0 = b.at0 ∧ a.shard < b.shard) := by
  unfold cmpA orI cmpI
  by_cases h1 : a.at0 < b.at0
  · simp [h1]
  · by_cases h2 : a.at0 > b.at0
    · simp [h1, h2]; omega
    · have h3 : a.at0 = b.at0 := by omega
      by_cases h4 : a.shard < b.shard
      · simp [h3, h4]
      · by_cases h5 : a.shard > b.shard
        · simp [h3, h4, h5]
        · simp [h3, h4, h5]
theorem lt_lex (a b : Arc) : ltOf cmpA a b = decide (a.at0 < b.at0 ∨ a.at0 = b.at0 ∧ a.shard < b.shard) := by
  show decide (cmpA a b < 0) = _
  rw [decide_eq_decide]
  exact cmpA_neg a b
theorem swo_lex : SWO (ltOf cmpA) where
  irrefl x := by rw [lt_lex]; simp
  trans x y z h1 h2 := by rw [lt_lex] at *; simp at *; omega
  ntrans x y z h1 h2 := by rw [lt_lex] at *; simp at *; omega
theorem enter_build (args : Array Value) (w : World) : (callFunc 40 args).run Tryd.prog w = .ok (.enter 40 args) w := enters_of Tryd.func40 (by kernel_rfl) rfl args w
/-- Sorted by points, then by shards. -/
theorem sort_build (id : Nat) (l : List Arc) (x : Value) (hl : 0 < l.length) (hb : l.length ≤ 100000) :
    FnC Tryd.prog 39 [.ref id x, .fn (.func 40) []] [(id, .own x 38 2 l.length (gOf Arc.cells l))]
      (fun r F' => r = .tup [] ∧ ∃ d : List Arc, d.Perm l ∧ d.Pairwise lexA ∧ F' = [(id, .own x 38 2 d.length (gOf Arc.cells d))]) := by
  intro off w vs h1 h2 h3 h4
  refine (sort_fnc id l x hl hb cmpA swo_lex 40 enter_build (fun a b W => build2 a b W) off w vs h1 h2 h3 h4).mono ?_
  rintro e w' ⟨r, F', u, ⟨hr, d, hd1, hd2, hF⟩, hrest⟩
  exact ⟨r, F', u, ⟨hr, d, hd1, hd2.imp fun {a b} h => by rw [lt_lex] at h; simp at h; unfold lexA; omega, hF⟩, hrest⟩
end Go.Proofs.YtlgdjmmjconbfaaDoor

/- slices.IndexFunc over numbers, where the function looks at what is one's own. -/
namespace Go.Proofs.YtlgdjmmjconbfaaDoor
set_option linter.unusedVariables false
set_option linter.unusedSimpArgs false
set_option maxHeartbeats 8000000
open Go.RowKit
set_option maxRecDepth 4000

theorem IxI {n f : Nat} (el : Nat → Int) {caps : List AV} {F : Rows} (p : Nat → Bool) (hf : callable Tryd.prog f = true) (hp : ∀ i, i < n → FnC Tryd.prog f (.v (.int .i64 (el i)) :: caps) F (fun r F' => r = .v (.bool (p i)) ∧ F' = F)) :
    FnC Tryd.prog 63 [.lst 1 n (fun i => [.v (.int .i64 (el i))]), .fn (.func f) caps] F (fun r F' => r = .v (.int .i64 (pidx p n)) ∧ F' = F) := by
  refine FnC.intro Tryd.func63 rfl Tryd.ntmps63 rfl ?_; intro off w0
  refine lenAt (sz := 1) (n := n) (g := fun i => [.v (.int .i64 (el i))]) 0 rfl fun hn => ?_
  ((repeat refine S.seq ?_); refine S.region (L.go (T := tt) tt_ok rfl rfl ?sd1 ?_); (try (case sd1 => (repeat' ((first | first | exact trivial | exact zA | with_reducible refine zI ?_ ?_ | exact zB | exact zC | exact zD | exact zE | rfl | exact zN rfl | omega | assumption | (simp; done) | (simp [splice]; done) | (simp; omega) | (unfold fits; omega) | (unfold fits; simp_all; omega) | (simp_all; omega) | (simp_all; done) | intro _ | exact zI ?_ ?_ | intro _))))); try (refine L.nil ?_))
  ((repeat refine S.seq ?_); refine S.region (L.go (T := tt) tt_ok rfl rfl ?sd2 ?_); (try (case sd2 => (repeat' ((first | first | exact trivial | exact zA | with_reducible refine zI ?_ ?_ | exact zB | exact zC | exact zD | exact zE | rfl | exact zN rfl | omega | assumption | (simp; done) | (simp [splice]; done) | (simp; omega) | (unfold fits; omega) | (unfold fits; simp_all; omega) | (simp_all; omega) | (simp_all; done) | intro _ | exact zI ?_ ?_ | intro _))))); try (refine L.nil ?_))
  refine S.block (S.loop (ι := { k : Nat // k ≤ n ∧ ∀ j, j < k → p j = false }) (fun k => [(8, .v (.int .i64 k.1)), (7, .v (.int .i64 n)), (1, .fn (.func f) caps), (0, .lst 1 n (fun i => [.v (.int .i64 (el i))]))]) (fun _ => F) (fun k => n - k.1) ?_ ?_)
  · exact fun a w h => ⟨⟨0, Nat.zero_le _, fun j hj => absurd hj (by omega)⟩, h.weak (by (repeat' (first | exact True.intro | exact Imp.refl _ | refine ⟨?_, ?_⟩))) (List.Sublist.refl _)⟩
  rintro ⟨k, hk, hno⟩
  dsimp only
  ((repeat refine S.seq ?_); refine S.region (L.go (T := tt) tt_ok rfl rfl ?sd3 ?_); (try (case sd3 => (repeat' ((first | first | exact trivial | exact zA | with_reducible refine zI ?_ ?_ | exact zB | exact zC | exact zD | exact zE | rfl | exact zN rfl | omega | assumption | (simp; done) | (simp [splice]; done) | (simp; omega) | (unfold fits; omega) | (unfold fits; simp_all; omega) | (simp_all; omega) | (simp_all; done) | intro _ | exact zI ?_ ?_ | intro _))))); try (refine L.nil ?_))
  refine S.seq (S.cond rfl (fun h => S.skip ?_) (fun h => S.exit ?_))
  · have h := of_dec h
    refine S.seq (S.block ?_)
    ((repeat refine S.seq ?_); refine S.region (L.go (T := tt) tt_ok rfl rfl ?sd4 ?_); (try (case sd4 => (repeat' ((first | first | exact trivial | exact zA | with_reducible refine zI ?_ ?_ | exact zB | exact zC | exact zD | exact zE | rfl | exact zN rfl | omega | assumption | (simp; done) | (simp [splice]; done) | (simp; omega) | (unfold fits; omega) | (unfold fits; simp_all; omega) | (simp_all; omega) | (simp_all; done) | intro _ | exact zI ?_ ?_ | intro _))))); try (refine L.nil ?_))
    ((repeat refine S.seq ?_); refine S.region (L.go (T := tt) tt_ok rfl rfl ?sd5 ?_); (try (case sd5 => (repeat' ((first | first | exact trivial | exact zA | with_reducible refine zI ?_ ?_ | exact zB | exact zC | exact zD | exact zE | rfl | exact zN rfl | omega | assumption | (simp; done) | (simp [splice]; done) | (simp; omega) | (unfold fits; omega) | (unfold fits; simp_all; omega) | (simp_all; omega) | (simp_all; done) | intro _ | exact zI ?_ ?_ | intro _))))); try (refine L.nil ?_))
    refine L.call (G := F) (H := []) rfl rfl rfl rfl rfl rfl rfl ⟨trivial, by (repeat' ((first | first | exact trivial | exact zA | with_reducible refine zI ?_ ?_ | exact zB | exact zC | exact zD | exact zE | rfl | exact zN rfl | omega | assumption | (simp; done) | (simp [splice]; done) | (simp; omega) | (unfold fits; omega) | (unfold fits; simp_all; omega) | (simp_all; omega) | (simp_all; done) | intro _ | exact zI ?_ ?_ | intro _)))⟩ hf (Imps.refl (.v (.int .i64 (el k)) :: caps)) (by simp) (hp k (by omega)) ?_
    rintro r F' ⟨rfl, rfl⟩
    refine L.nil ?_
    refine rowsEq F' (List.append_nil _) ?_
    refine S.cond rfl (fun hb => ?_) (fun hb => S.skip ?_)
    · ((repeat refine S.seq ?_); refine S.region (L.go (T := tt) tt_ok rfl rfl ?sd6 ?_); (try (case sd6 => (repeat' ((first | first | exact trivial | exact zA | with_reducible refine zI ?_ ?_ | exact zB | exact zC | exact zD | exact zE | rfl | exact zN rfl | omega | assumption | (simp; done) | (simp [splice]; done) | (simp; omega) | (unfold fits; omega) | (unfold fits; simp_all; omega) | (simp_all; omega) | (simp_all; done) | intro _ | exact zI ?_ ?_ | intro _))))); try (refine L.nil ?_))
      refine S.ret (E.ret (T := tt) tt_ok rfl rfl (by (repeat' ((first | first | exact trivial | exact zA | with_reducible refine zI ?_ ?_ | exact zB | exact zC | exact zD | exact zE | rfl | exact zN rfl | omega | assumption | (simp; done) | (simp [splice]; done) | (simp; omega) | (unfold fits; omega) | (unfold fits; simp_all; omega) | (simp_all; omega) | (simp_all; done) | intro _ | exact zI ?_ ?_ | intro _)))) (Imp.of_eq ?_) (List.Sublist.refl _) ⟨rfl, rfl⟩)
      rw [pidx_some (by omega) hb hno]
      rfl
    · ((repeat refine S.seq ?_); refine S.region (L.go (T := tt) tt_ok rfl rfl ?sd7 ?_); (try (case sd7 => (repeat' ((first | first | exact trivial | exact zA | with_reducible refine zI ?_ ?_ | exact zB | exact zC | exact zD | exact zE | rfl | exact zN rfl | omega | assumption | (simp; done) | (simp [splice]; done) | (simp; omega) | (unfold fits; omega) | (unfold fits; simp_all; omega) | (simp_all; omega) | (simp_all; done) | intro _ | exact zI ?_ ?_ | intro _))))); try (refine L.nil ?_))
      exact fun a w hR => ⟨⟨k + 1, by omega, fun j hj => by rcases Nat.lt_or_ge j k with h | h; exact hno j h; (have : j = k := by omega); subst this; exact hb⟩, by simp only; omega, hR.weak (by (repeat' (first | exact True.intro | exact Imp.refl _ | refine ⟨?_, ?_⟩))) (List.Sublist.refl _)⟩
  · have h := of_dec' h
    ((repeat refine S.seq ?_); refine S.region (L.go (T := tt) tt_ok rfl rfl ?sd8 ?_); (try (case sd8 => (repeat' ((first | first | exact trivial | exact zA | with_reducible refine zI ?_ ?_ | exact zB | exact zC | exact zD | exact zE | rfl | exact zN rfl | omega | assumption | (simp; done) | (simp [splice]; done) | (simp; omega) | (unfold fits; omega) | (unfold fits; simp_all; omega) | (simp_all; omega) | (simp_all; done) | intro _ | exact zI ?_ ?_ | intro _))))); try (refine L.nil ?_))
    refine S.ret (E.ret (T := tt) tt_ok rfl rfl (by (repeat' ((first | first | exact trivial | exact zA | with_reducible refine zI ?_ ?_ | exact zB | exact zC | exact zD | exact zE | rfl | exact zN rfl | omega | assumption | (simp; done) | (simp [splice]; done) | (simp; omega) | (unfold fits; omega) | (unfold fits; simp_all; omega) | (simp_all; omega) | (simp_all; done) | intro _ | exact zI ?_ ?_ | intro _)))) (Imp.of_eq ?_) (List.Sublist.refl _) ⟨rfl, rfl⟩)
    rw [pidx_none (fun j hj => hno j (by omega))]
    rfl

end Go.Proofs.YtlgdjmmjconbfaaDoor

/- A ring of weights at the program. -/
namespace Go.Proofs.YtlgdjmmjconbfaaDoor
set_option linter.unusedVariables false
set_option linter.unusedSimpArgs false
set_option maxHeartbeats 8000000
open Go.RowKit
set_option maxRecDepth 4000

def intW (w : List Int) : AV := .lst 1 w.length (fun i => [.v (.int .i64 (w.getD i 0))])
theorem build1_p (z : Int) : PFn Tryd.prog 37 [.v (.int .i64 z)] (.v (.bool (!decide (z = 0)))) := by
  refine FnC.intro Tryd.func37 rfl Tryd.ntmps37 rfl ?_; intro off w0
  ((repeat refine S.seq ?_); refine S.region (L.go (T := tt) tt_ok rfl rfl ?sd1 ?_); (try (case sd1 => (repeat' ((first | first | exact trivial | exact zA | with_reducible refine zI ?_ ?_ | exact zB | exact zC | exact zD | exact zE | rfl | exact zN rfl | omega | assumption | (simp; done) | (simp [splice]; done) | (simp; omega) | (unfold fits; omega) | (unfold fits; simp_all; omega) | (simp_all; omega) | (simp_all; done) | intro _ | exact zI ?_ ?_ | intro _))))); try (refine L.nil ?_))
  ((repeat refine S.seq ?_); refine S.region (L.go (T := tt) tt_ok rfl rfl ?sd2 ?_); (try (case sd2 => (repeat' ((first | first | exact trivial | exact zA | with_reducible refine zI ?_ ?_ | exact zB | exact zC | exact zD | exact zE | rfl | exact zN rfl | omega | assumption | (simp; done) | (simp [splice]; done) | (simp; omega) | (unfold fits; omega) | (unfold fits; simp_all; omega) | (simp_all; omega) | (simp_all; done) | intro _ | exact zI ?_ ?_ | intro _))))); try (refine L.nil ?_))
  (((repeat refine S.seq ?_); refine S.ret ?_); refine E.retP (T := tt) tt_ok rfl rfl (by (repeat' ((first | first | exact trivial | exact zA | with_reducible refine zI ?_ ?_ | exact zB | exact zC | exact zD | exact zE | rfl | exact zN rfl | omega | assumption | (simp; done) | (simp [splice]; done) | (simp; omega) | (unfold fits; omega) | (unfold fits; simp_all; omega) | (simp_all; omega) | (simp_all; done) | intro _ | exact zI ?_ ?_ | intro _)))) (Imp.of_eq ?_))
  rfl
theorem pidx_any (p : Nat → Bool) (n : Nat) : decide (pidx p n ≥ 0) = (List.range n).any p := by
  rcases pidx_cases p n with ⟨h, hno⟩ | ⟨k, hk, hp, -, h⟩
  · rw [h]
    have : (List.range n).any p = false := by
      rw [List.any_eq_false]
      intro i hi
      rw [hno i (List.mem_range.1 hi)]
      decide
    rw [this]
    rfl
  · rw [h]
    have : (List.range n).any p = true := List.any_eq_true.2 ⟨k, List.mem_range.2 hk, hp⟩
    rw [this, decide_eq_true (by omega)]
theorem contains_p (w : List Int) : PFn Tryd.prog 36 [intW w, .fn (.func 37) []] (.v (.bool (someW w))) := by
  refine FnC.intro Tryd.func36 rfl Tryd.ntmps36 rfl ?_; intro off w0
  ((repeat refine S.seq ?_); refine S.region (L.go (T := tt) tt_ok rfl rfl ?sd3 ?_); (try (case sd3 => (repeat' ((first | first | exact trivial | exact zA | with_reducible refine zI ?_ ?_ | exact zB | exact zC | exact zD | exact zE | rfl | exact zN rfl | omega | assumption | (simp; done) | (simp [splice]; done) | (simp; omega) | (unfold fits; omega) | (unfold fits; simp_all; omega) | (simp_all; omega) | (simp_all; done) | intro _ | exact zI ?_ ?_ | intro _))))); try (refine L.nil ?_))
  repeat refine S.seq ?_
  refine S.region ?_
  (refine L.go (T := tt) tt_ok rfl rfl ?sd17 ?_; (try (case sd17 => (repeat' ((first | first | exact trivial | exact zA | with_reducible refine zI ?_ ?_ | exact zB | exact zC | exact zD | exact zE | rfl | exact zN rfl | omega | assumption | (simp; done) | (simp [splice]; done) | (simp; omega) | (unfold fits; omega) | (unfold fits; simp_all; omega) | (simp_all; omega) | (simp_all; done) | intro _ | exact zI ?_ ?_ | intro _))))); try (refine L.nil ?_))
  refine L.call (G := []) (H := []) rfl rfl rfl rfl rfl rfl rfl ⟨trivial, by (repeat' ((first | first | exact trivial | exact zA | with_reducible refine zI ?_ ?_ | exact zB | exact zC | exact zD | exact zE | rfl | exact zN rfl | omega | assumption | (simp; done) | (simp [splice]; done) | (simp; omega) | (unfold fits; omega) | (unfold fits; simp_all; omega) | (simp_all; omega) | (simp_all; done) | intro _ | exact zI ?_ ?_ | intro _)))⟩ rfl (by exact Imps.refl [intW w, .fn (.func 37) []]) (List.Perm.refl _) (IxI (n := w.length) (f := 37) (caps := []) (F := []) (fun i => w.getD i 0) (fun i => !decide (w.getD i 0 = 0)) rfl (fun i hi => build1_p (w.getD i 0))) ?_
  rintro r F' ⟨rfl, rfl⟩
  (refine L.go (T := tt) tt_ok rfl rfl ?sd18 ?_; (try (case sd18 => (repeat' ((first | first | exact trivial | exact zA | with_reducible refine zI ?_ ?_ | exact zB | exact zC | exact zD | exact zE | rfl | exact zN rfl | omega | assumption | (simp; done) | (simp [splice]; done) | (simp; omega) | (unfold fits; omega) | (unfold fits; simp_all; omega) | (simp_all; omega) | (simp_all; done) | intro _ | exact zI ?_ ?_ | intro _))))); try (refine L.nil ?_))
  (((repeat refine S.seq ?_); refine S.ret ?_); refine E.retP (T := tt) tt_ok rfl rfl (by (repeat' ((first | first | exact trivial | exact zA | with_reducible refine zI ?_ ?_ | exact zB | exact zC | exact zD | exact zE | rfl | exact zN rfl | omega | assumption | (simp; done) | (simp [splice]; done) | (simp; omega) | (unfold fits; omega) | (unfold fits; simp_all; omega) | (simp_all; omega) | (simp_all; done) | intro _ | exact zI ?_ ?_ | intro _)))) (Imp.of_eq ?_))
  rw [pidx_any]
  rfl
theorem bldA_bad {w : List Int} (h : okW w = false) : bldA w = [] ∧ bldE w = 1 := by
  rw [bldA, bldE, h]
  exact ⟨rfl, rfl⟩

theorem bad_fit {w : List Int} {k : Nat} (hk : k < w.length) (h : badW w k = true) : okW w = false := by
  have : fitW w = false := by
    unfold fitW
    rw [Bool.eq_false_iff]
    intro h2
    have := List.all_eq_true.1 h2 k (List.mem_range.2 hk)
    rw [h] at this
    cases this
  rw [okW, this, Bool.and_false]
theorem mksW_le {w : List Int} : ∀ k, (∀ i, i < k → badW w i = false) → (mksW w k).length ≤ 32 * k
  | 0, _ => by simp [mksW]
  | k + 1, ik => by
    have ih := mksW_le k fun i hi => ik i (by omega)
    have hb := ik k (by omega)
    unfold badW at hb
    rw [Bool.or_eq_false_iff, decide_eq_false_iff_not, decide_eq_false_iff_not] at hb
    rw [mksW, List.length_append, mks_len, wts]
    omega
theorem mksW_one (w : List Int) (k i : Nat) : mksW w k ++ mks k (i + 1) = (mksW w k ++ mks k i) ++ [⟨mrkF k i, k⟩] := by rw [mks, List.append_assoc]

theorem build_p (w : List Int) (hw : ∀ z ∈ w, fitI z) : PFn Tryd.prog 13 [intW w] (.tup [arcs (bldA w), .v (.int .i64 (bldE w))]) := by
  have hwf : ∀ i, fitI (w.getD i 0) := fun i => by
    by_cases h : i < w.length
    · rw [List.getD_eq_getElem?_getD, List.getElem?_eq_getElem h]
      exact hw _ (List.getElem_mem _)
    · rw [List.getD_eq_getElem?_getD, List.getElem?_eq_none (by omega)]
      unfold fitI; decide
  refine FnC.intro Tryd.func13 rfl Tryd.ntmps13 rfl ?_; intro off w0
  ((repeat refine S.seq ?_); refine S.region (L.go (T := tt) tt_ok rfl rfl ?sd4 ?_); (try (case sd4 => (repeat' ((first | first | exact trivial | exact zA | with_reducible refine zI ?_ ?_ | exact zB | exact zC | exact zD | exact zE | rfl | exact zN rfl | omega | assumption | (simp; done) | (simp [splice]; done) | (simp; omega) | (unfold fits; omega) | (unfold fits; simp_all; omega) | (simp_all; omega) | (simp_all; done) | intro _ | exact zI ?_ ?_ | intro _))))); try (refine L.nil ?_))
  repeat refine S.seq ?_
  refine S.region ?_
  (refine L.go (T := tt) tt_ok rfl rfl ?sd19 ?_; (try (case sd19 => (repeat' ((first | first | exact trivial | exact zA | with_reducible refine zI ?_ ?_ | exact zB | exact zC | exact zD | exact zE | rfl | exact zN rfl | omega | assumption | (simp; done) | (simp [splice]; done) | (simp; omega) | (unfold fits; omega) | (unfold fits; simp_all; omega) | (simp_all; omega) | (simp_all; done) | intro _ | exact zI ?_ ?_ | intro _))))); try (refine L.nil ?_))
  refine L.callG rfl rfl rfl rfl rfl rfl rfl (fun _ => ⟨trivial, by (repeat' ((first | first | exact trivial | exact zA | with_reducible refine zI ?_ ?_ | exact zB | exact zC | exact zD | exact zE | rfl | exact zN rfl | omega | assumption | (simp; done) | (simp [splice]; done) | (simp; omega) | (unfold fits; omega) | (unfold fits; simp_all; omega) | (simp_all; omega) | (simp_all; done) | intro _ | exact zI ?_ ?_ | intro _)))⟩) rfl (Imps.refl _) (fun _ => contains_p w) ?_
  (refine L.go (T := tt) tt_ok rfl rfl ?sd20 ?_; (try (case sd20 => (repeat' ((first | first | exact trivial | exact zA | with_reducible refine zI ?_ ?_ | exact zB | exact zC | exact zD | exact zE | rfl | exact zN rfl | omega | assumption | (simp; done) | (simp [splice]; done) | (simp; omega) | (unfold fits; omega) | (unfold fits; simp_all; omega) | (simp_all; omega) | (simp_all; done) | intro _ | exact zI ?_ ?_ | intro _))))); try (refine L.nil ?_))
  ((repeat refine S.seq ?_); refine S.cond rfl (fun h1 => ?_) (fun h1 => ?_) <;> (try first | refine S.skip ?_ | refine S.exit ?_))
  · ((repeat refine S.seq ?_); refine S.region (L.go (T := tt) tt_ok rfl rfl ?sd5 ?_); (try (case sd5 => (repeat' ((first | first | exact trivial | exact zA | with_reducible refine zI ?_ ?_ | exact zB | exact zC | exact zD | exact zE | rfl | exact zN rfl | omega | assumption | (simp; done) | (simp [splice]; done) | (simp; omega) | (unfold fits; omega) | (unfold fits; simp_all; omega) | (simp_all; omega) | (simp_all; done) | intro _ | exact zI ?_ ?_ | intro _))))); try (refine L.nil ?_))
    ((repeat refine S.seq ?_); refine S.ret ?_)
    have h1' : (lenW w || !someW w) = true := h1
    obtain ⟨e1, e2⟩ := bldA_bad (w := w) (by
      rw [okW]
      cases h : lenW w
      · rw [h, Bool.false_or, Bool.not_eq_true'] at h1'
        rw [h1']; rfl
      · rfl)
    refine E.retP (T := tt) tt_ok rfl rfl (by (repeat' ((first | first | exact trivial | exact zA | with_reducible refine zI ?_ ?_ | exact zB | exact zC | exact zD | exact zE | rfl | exact zN rfl | omega | assumption | (simp; done) | (simp [splice]; done) | (simp; omega) | (unfold fits; omega) | (unfold fits; simp_all; omega) | (simp_all; omega) | (simp_all; done) | intro _ | exact zI ?_ ?_ | intro _)))) ?_
    rw [e1, e2]
    exact Imp.tup ⟨Imp.nil _ _, Imp.refl _, trivial⟩
  have h1' : (lenW w || !someW w) = false := h1
  rw [Bool.or_eq_false_iff] at h1'
  have hlen : 1 ≤ w.length ∧ w.length ≤ 16 := by
    have := h1'.1
    unfold lenW at this
    rw [Bool.or_eq_false_iff, decide_eq_false_iff_not, decide_eq_false_iff_not] at this
    omega
  ((repeat refine S.seq ?_); refine S.region (L.go (T := tt) tt_ok rfl rfl ?sd6 ?_); (try (case sd6 => (repeat' ((first | first | exact trivial | exact zA | with_reducible refine zI ?_ ?_ | exact zB | exact zC | exact zD | exact zE | rfl | exact zN rfl | omega | assumption | (simp; done) | (simp [splice]; done) | (simp; omega) | (unfold fits; omega) | (unfold fits; simp_all; omega) | (simp_all; omega) | (simp_all; done) | intro _ | exact zI ?_ ?_ | intro _))))); try (refine L.nil ?_))
  ((repeat refine S.seq ?_); refine S.region (L.go (T := tt) tt_ok rfl rfl ?sd7 ?_); (try (case sd7 => (repeat' ((first | first | exact trivial | exact zA | with_reducible refine zI ?_ ?_ | exact zB | exact zC | exact zD | exact zE | rfl | exact zN rfl | omega | assumption | (simp; done) | (simp [splice]; done) | (simp; omega) | (unfold fits; omega) | (unfold fits; simp_all; omega) | (simp_all; omega) | (simp_all; done) | intro _ | exact zI ?_ ?_ | intro _))))); try (refine L.nil ?_))
  refine nilRow 60 38 2 (gOf Arc.cells []) (slotAs 4 (.ref 60 (.slice none 0 0)) rfl (Imp.vref rfl) ?_)
  repeat refine S.seq ?_
  refine S.cut (ι := { x : Value // fitW w = true }) (fun x => [(4, .ref 60 x.1)]) (fun x => [(60, .own x.1 38 2 (mksAll w).length (gOf Arc.cells (mksAll w)))]) ?_ ?_
  · refine S.block (S.loop (ι := { p : Nat × Value // p.1 ≤ w.length ∧ ∀ i, i < p.1 → badW w i = false }) (fun p => [(0, intW w), (4, .ref 60 p.1.2), (21, intW w), (22, .v (.int .i64 w.length)), (23, .v (.int .i64 p.1.1))])
      (fun p => [(60, .own p.1.2 38 2 (mksW w p.1.1).length (gOf Arc.cells (mksW w p.1.1)))]) (fun p => w.length - p.1.1) ?_ ?_)
    · exact fun a w1 h => ⟨⟨(0, .slice none 0 0), Nat.zero_le _, fun i hi => by omega⟩, h.weakP (by (repeat' (first | exact True.intro | exact Imp.refl _ | refine ⟨?_, ?_⟩))) (by (repeat (first | exact Sub.refl _ | refine Sub.pick (by first | exact p0 | exact pS p0 | exact pS (pS p0) | exact pS (pS (pS p0)) | exact pS (pS (pS (pS p0))) | exact pS (pS (pS (pS (pS p0))))) ?_)))⟩
    rintro ⟨⟨k, x⟩, hk, ik⟩
    dsimp only at hk ik ⊢
    have hwk := hwf k
    ((repeat refine S.seq ?_); refine S.region (L.go (T := tt) tt_ok rfl rfl ?sd8 ?_); (try (case sd8 => (repeat' ((first | first | exact trivial | exact zA | with_reducible refine zI ?_ ?_ | exact zB | exact zC | exact zD | exact zE | rfl | exact zN rfl | omega | assumption | (simp; done) | (simp [splice]; done) | (simp; omega) | (unfold fits; omega) | (unfold fits; simp_all; omega) | (simp_all; omega) | (simp_all; done) | intro _ | exact zI ?_ ?_ | intro _))))); try (refine L.nil ?_))
    ((repeat refine S.seq ?_); refine S.cond rfl (fun h2 => ?_) (fun h2 => ?_) <;> (try first | refine S.skip ?_ | refine S.exit ?_))
    · have h2 : k < w.length := by have := of_dec h2; omega
      have hml : (mksW w k).length ≤ 32 * k := mksW_le k ik
      repeat refine S.seq ?_
      refine S.block ?_
      ((repeat refine S.seq ?_); refine S.region (L.go (T := tt) tt_ok rfl rfl ?sd9 ?_); (try (case sd9 => (repeat' ((first | first | exact trivial | exact zA | with_reducible refine zI ?_ ?_ | exact zB | exact zC | exact zD | exact zE | rfl | exact zN rfl | omega | assumption | (simp; done) | (simp [splice]; done) | (simp; omega) | (unfold fits; omega) | (unfold fits; simp_all; omega) | (simp_all; omega) | (simp_all; done) | intro _ | exact zI ?_ ?_ | intro _))))); try (refine L.nil ?_))
      ((repeat refine S.seq ?_); refine S.region (L.go (T := tt) tt_ok rfl rfl ?sd10 ?_); (try (case sd10 => (repeat' ((first | first | exact trivial | exact zA | with_reducible refine zI ?_ ?_ | exact zB | exact zC | exact zD | exact zE | rfl | exact zN rfl | omega | assumption | (simp; done) | (simp [splice]; done) | (simp; omega) | (unfold fits; omega) | (unfold fits; simp_all; omega) | (simp_all; omega) | (simp_all; done) | intro _ | exact zI ?_ ?_ | intro _))))); try (refine L.nil ?_))
      ((repeat refine S.seq ?_); refine S.cond rfl (fun h3 => ?_) (fun h3 => ?_) <;> (try first | refine S.skip ?_ | refine S.exit ?_))
      · ((repeat refine S.seq ?_); refine S.region (L.go (T := tt) tt_ok rfl rfl ?sd11 ?_); (try (case sd11 => (repeat' ((first | first | exact trivial | exact zA | with_reducible refine zI ?_ ?_ | exact zB | exact zC | exact zD | exact zE | rfl | exact zN rfl | omega | assumption | (simp; done) | (simp [splice]; done) | (simp; omega) | (unfold fits; omega) | (unfold fits; simp_all; omega) | (simp_all; omega) | (simp_all; done) | intro _ | exact zI ?_ ?_ | intro _))))); try (refine L.nil ?_))
        ((repeat refine S.seq ?_); refine S.ret ?_)
        obtain ⟨e1, e2⟩ := bldA_bad (bad_fit h2 h3)
        refine E.retP (T := tt) tt_ok rfl rfl (by (repeat' ((first | first | exact trivial | exact zA | with_reducible refine zI ?_ ?_ | exact zB | exact zC | exact zD | exact zE | rfl | exact zN rfl | omega | assumption | (simp; done) | (simp [splice]; done) | (simp; omega) | (unfold fits; omega) | (unfold fits; simp_all; omega) | (simp_all; omega) | (simp_all; done) | intro _ | exact zI ?_ ?_ | intro _)))) ?_
        rw [e1, e2]
        exact Imp.tup ⟨Imp.nil _ _, Imp.refl _, trivial⟩
      have h3' : 0 ≤ w.getD k 0 ∧ w.getD k 0 ≤ 4 := by
        have h3' : badW w k = false := h3
        unfold badW at h3'
        rw [Bool.or_eq_false_iff, decide_eq_false_iff_not, decide_eq_false_iff_not] at h3'
        omega
      ((repeat refine S.seq ?_); refine S.region (L.go (T := tt) tt_ok rfl rfl ?sd12 ?_); (try (case sd12 => (repeat' ((first | first | exact trivial | exact zA | with_reducible refine zI ?_ ?_ | exact zB | exact zC | exact zD | exact zE | rfl | exact zN rfl | omega | assumption | (simp; done) | (simp [splice]; done) | (simp; omega) | (unfold fits; omega) | (unfold fits; simp_all; omega) | (simp_all; omega) | (simp_all; done) | intro _ | exact zI ?_ ?_ | intro _))))); try (refine L.nil ?_))
      obtain ⟨n, hn⟩ : ∃ n : Nat, n = wts w k := ⟨_, rfl⟩
      have hn1 : ((n : Nat) : Int) = w.getD k 0 * 8 := by rw [hn, wts]; omega
      have hn2 : n ≤ 32 := by omega
      refine slotAs 35 (.v (.int .i64 ((n : Nat) : Int))) rfl (Imp.of_eq (by rw [hn1]; rfl)) ?_
      repeat refine S.seq ?_
      refine S.cut (ι := Value) (fun x => [(0, intW w), (4, .ref 60 x), (21, intW w), (22, .v (.int .i64 w.length)), (23, .v (.int .i64 k))]) (fun x => [(60, .own x 38 2 (mksW w (k + 1)).length (gOf Arc.cells (mksW w (k + 1))))]) ?_ ?_
      · refine S.block (S.loop (ι := { p : Nat × Value // p.1 ≤ n }) (fun p => [(0, intW w), (4, .ref 60 p.1.2), (5, .v (.int .i64 k)), (21, intW w), (22, .v (.int .i64 w.length)), (23, .v (.int .i64 k)), (35, .v (.int .i64 ((n : Nat) : Int))), (36, .v (.int .i64 p.1.1))])
          (fun p => [(60, .own p.1.2 38 2 (mksW w k ++ mks k p.1.1).length (gOf Arc.cells (mksW w k ++ mks k p.1.1)))]) (fun p => n - p.1.1) ?_ ?_)
        · exact fun a w1 h => ⟨⟨(0, x), Nat.zero_le _⟩, h.weakP (by (repeat' (first | exact True.intro | exact Imp.refl _ | refine ⟨?_, ?_⟩))) (by rw [mks, List.append_nil]; (repeat (first | exact Sub.refl _ | refine Sub.pick (by first | exact p0 | exact pS p0 | exact pS (pS p0) | exact pS (pS (pS p0)) | exact pS (pS (pS (pS p0))) | exact pS (pS (pS (pS (pS p0))))) ?_)))⟩
        rintro ⟨⟨i, y⟩, hi⟩
        dsimp only at hi ⊢
        obtain ⟨m, hm⟩ : ∃ m, m = mksW w k ++ mks k i := ⟨_, rfl⟩
        have hmlen : m.length ≤ 1000 := by rw [hm, List.length_append, mks_len]; omega
        rw [← hm]
        ((repeat refine S.seq ?_); refine S.region (L.go (T := tt) tt_ok rfl rfl ?sd13 ?_); (try (case sd13 => (repeat' ((first | first | exact trivial | exact zA | with_reducible refine zI ?_ ?_ | exact zB | exact zC | exact zD | exact zE | rfl | exact zN rfl | omega | assumption | (simp; done) | (simp [splice]; done) | (simp; omega) | (unfold fits; omega) | (unfold fits; simp_all; omega) | (simp_all; omega) | (simp_all; done) | intro _ | exact zI ?_ ?_ | intro _))))); try (refine L.nil ?_))
        ((repeat refine S.seq ?_); refine S.cond rfl (fun h4 => ?_) (fun h4 => ?_) <;> (try first | refine S.skip ?_ | refine S.exit ?_))
        · have h4 : i < n := by have := of_dec h4; omega
          repeat refine S.seq ?_
          refine S.block ?_
          ((repeat refine S.seq ?_); refine S.region (L.go (T := tt) tt_ok rfl rfl ?sd14 ?_); (try (case sd14 => (repeat' ((first | first | exact trivial | exact zA | with_reducible refine zI ?_ ?_ | exact zB | exact zC | exact zD | exact zE | rfl | exact zN rfl | omega | assumption | (simp; done) | (simp [splice]; done) | (simp; omega) | (unfold fits; omega) | (unfold fits; simp_all; omega) | (simp_all; omega) | (simp_all; done) | intro _ | exact zI ?_ ?_ | intro _))))); try (refine L.nil ?_))
          repeat refine S.seq ?_
          refine S.region ?_
          (refine L.go (T := tt) tt_ok rfl rfl ?sd21 ?_; (try (case sd21 => (repeat' ((first | first | exact trivial | exact zA | with_reducible refine zI ?_ ?_ | exact zB | exact zC | exact zD | exact zE | rfl | exact zN rfl | omega | assumption | (simp; done) | (simp [splice]; done) | (simp; omega) | (unfold fits; omega) | (unfold fits; simp_all; omega) | (simp_all; omega) | (simp_all; done) | intro _ | exact zI ?_ ?_ | intro _))))); try (refine L.nil ?_))
          refine L.callP rfl rfl rfl rfl rfl rfl rfl ⟨trivial, by (repeat' ((first | first | exact trivial | exact zA | with_reducible refine zI ?_ ?_ | exact zB | exact zC | exact zD | exact zE | rfl | exact zN rfl | omega | assumption | (simp; done) | (simp [splice]; done) | (simp; omega) | (unfold fits; omega) | (unfold fits; simp_all; omega) | (simp_all; omega) | (simp_all; done) | intro _ | exact zI ?_ ?_ | intro _)))⟩ rfl (Imps.refl _) (mark_p (k : Int) (i : Int) (by omega) (by omega) (by omega) (by omega)) ?_
          rw [markT_eq (by omega) (by omega) (by omega) (by omega)]
          (refine L.go (T := tt) tt_ok rfl rfl ?sd22 ?_; (try (case sd22 => (repeat' ((first | first | exact trivial | exact zA | with_reducible refine zI ?_ ?_ | exact zB | exact zC | exact zD | exact zE | rfl | exact zN rfl | omega | assumption | (simp; done) | (simp [splice]; done) | (simp; omega) | (unfold fits; omega) | (unfold fits; simp_all; omega) | (simp_all; omega) | (simp_all; done) | intro _ | exact zI ?_ ?_ | intro _))))); try (refine L.nil ?_))
          obtain ⟨e, he⟩ : ∃ e : Arc, e = ⟨mrkF k i, k⟩ := ⟨_, rfl⟩
          refine slotAs 44 e.av rfl (Imp.of_eq (by rw [he]; rfl)) ?_
          refine L.buildSlice (T := tt) 61 tt_ok rfl rfl rfl rfl rfl rfl (by decide) (by decide) rfl rfl (by (repeat' ((first | first | exact trivial | exact zA | with_reducible refine zI ?_ ?_ | exact zB | exact zC | exact zD | exact zE | rfl | exact zN rfl | omega | assumption | (simp; done) | (simp [splice]; done) | (simp; omega) | (unfold fits; omega) | (unfold fits; simp_all; omega) | (simp_all; omega) | (simp_all; done) | intro _ | exact zI ?_ ?_ | intro _)))) fun x45 => ?_
          refine L.append (T := tt) tt_ok rfl rfl rfl rfl rfl rfl rfl rfl rfl rfl (by (repeat' ((first | first | exact trivial | exact zA | with_reducible refine zI ?_ ?_ | exact zB | exact zC | exact zD | exact zE | rfl | exact zN rfl | omega | assumption | (simp; done) | (simp [splice]; done) | (simp; omega) | (unfold fits; omega) | (unfold fits; simp_all; omega) | (simp_all; omega) | (simp_all; done) | intro _ | exact zI ?_ ?_ | intro _)))) ⟨rfl, by decide, by decide⟩ (by simp; omega) fun y46 => ?_
          refine ownAs 60 (gOf Arc.cells (m ++ [e])) rfl (show m.length + 1 = (m ++ [e]).length by simp) (fun j hj => app1_h Arc.cells m e _ rfl rfl hj) ?_
          (refine L.go (T := tt) tt_ok rfl rfl ?sd23 ?_; (try (case sd23 => (repeat' ((first | first | exact trivial | exact zA | with_reducible refine zI ?_ ?_ | exact zB | exact zC | exact zD | exact zE | rfl | exact zN rfl | omega | assumption | (simp; done) | (simp [splice]; done) | (simp; omega) | (unfold fits; omega) | (unfold fits; simp_all; omega) | (simp_all; omega) | (simp_all; done) | intro _ | exact zI ?_ ?_ | intro _))))); try (refine L.nil ?_))
          ((repeat refine S.seq ?_); refine S.region (L.go (T := tt) tt_ok rfl rfl ?sd15 ?_); (try (case sd15 => (repeat' ((first | first | exact trivial | exact zA | with_reducible refine zI ?_ ?_ | exact zB | exact zC | exact zD | exact zE | rfl | exact zN rfl | omega | assumption | (simp; done) | (simp [splice]; done) | (simp; omega) | (unfold fits; omega) | (unfold fits; simp_all; omega) | (simp_all; omega) | (simp_all; done) | intro _ | exact zI ?_ ?_ | intro _))))); try (refine L.nil ?_))
          exact fun a w1 hR => ⟨⟨(i + 1, y46), h4⟩, by show n - (i + 1) < n - i; omega, (hR.weakP (by (repeat' (first | exact True.intro | exact Imp.refl _ | refine ⟨?_, ?_⟩))) (by rw [mksW_one, ← hm, ← he]; (repeat (first | exact Sub.refl _ | refine Sub.pick (by first | exact p0 | exact pS p0 | exact pS (pS p0) | exact pS (pS (pS p0)) | exact pS (pS (pS (pS p0))) | exact pS (pS (pS (pS (pS p0))))) ?_))))⟩
        have h4 := of_dec' h4
        have hi' : i = n := by omega
        subst hi'
        rw [hm]
        exact fun a w1 hR => ⟨y, hR.weakP (by (repeat' (first | exact True.intro | exact Imp.refl _ | refine ⟨?_, ?_⟩))) (by rw [mksW, ← hn]; (repeat (first | exact Sub.refl _ | refine Sub.pick (by first | exact p0 | exact pS p0 | exact pS (pS p0) | exact pS (pS (pS p0)) | exact pS (pS (pS (pS p0))) | exact pS (pS (pS (pS (pS p0))))) ?_)))⟩
      intro y
      ((repeat refine S.seq ?_); refine S.region (L.go (T := tt) tt_ok rfl rfl ?sd16 ?_); (try (case sd16 => (repeat' ((first | first | exact trivial | exact zA | with_reducible refine zI ?_ ?_ | exact zB | exact zC | exact zD | exact zE | rfl | exact zN rfl | omega | assumption | (simp; done) | (simp [splice]; done) | (simp; omega) | (unfold fits; omega) | (unfold fits; simp_all; omega) | (simp_all; omega) | (simp_all; done) | intro _ | exact zI ?_ ?_ | intro _))))); try (refine L.nil ?_))
      refine fun a w1 hR => ⟨⟨(k + 1, y), h2, fun i hi => ?_⟩, by show w.length - (k + 1) < w.length - k; omega, hR.weakP (by (repeat' (first | exact True.intro | exact Imp.refl _ | refine ⟨?_, ?_⟩))) (by (repeat (first | exact Sub.refl _ | refine Sub.pick (by first | exact p0 | exact pS p0 | exact pS (pS p0) | exact pS (pS (pS p0)) | exact pS (pS (pS (pS p0))) | exact pS (pS (pS (pS (pS p0))))) ?_)))⟩
      by_cases e : i = k
      · rw [e]; exact h3
      · exact ik i (by omega)
    have h2 := of_dec' h2
    have hk' : k = w.length := by omega
    subst hk'
    refine fun a w1 hR => ⟨⟨x, ?_⟩, hR.weakP (by (repeat' (first | exact True.intro | exact Imp.refl _ | refine ⟨?_, ?_⟩))) (by (repeat (first | exact Sub.refl _ | refine Sub.pick (by first | exact p0 | exact pS p0 | exact pS (pS p0) | exact pS (pS (pS p0)) | exact pS (pS (pS (pS p0))) | exact pS (pS (pS (pS (pS p0))))) ?_)))⟩
    unfold fitW
    exact List.all_eq_true.2 fun i hi => by rw [ik i (List.mem_range.1 hi)]; rfl
  rintro ⟨x, hfw⟩
  dsimp only
  have hok : okW w = true := by rw [okW, h1'.1, hfw]; have := h1'.2; rw [Bool.not_eq_false'] at this; rw [this]; rfl
  have hOk := (okW_iff w).1 hok
  have hm1 : 1 ≤ (mksAll w).length := mksW_pos hOk
  have hm2 : (mksAll w).length ≤ 32 * w.length := mksW_len hOk w.length (Nat.le_refl _)
  obtain ⟨m, hm⟩ : ∃ m, m = mksAll w := ⟨_, rfl⟩
  rw [← hm] at hm1 hm2 ⊢
  repeat refine S.seq ?_
  refine S.region ?_
  (refine L.go (T := tt) tt_ok rfl rfl ?sd24 ?_; (try (case sd24 => (repeat' ((first | first | exact trivial | exact zA | with_reducible refine zI ?_ ?_ | exact zB | exact zC | exact zD | exact zE | rfl | exact zN rfl | omega | assumption | (simp; done) | (simp [splice]; done) | (simp; omega) | (unfold fits; omega) | (unfold fits; simp_all; omega) | (simp_all; omega) | (simp_all; done) | intro _ | exact zI ?_ ?_ | intro _))))); try (refine L.nil ?_))
  refine L.call (G := [(60, .own x 38 2 m.length (gOf Arc.cells m))]) (H := []) rfl rfl rfl rfl rfl rfl rfl ⟨trivial, by (repeat' ((first | first | exact trivial | exact zA | with_reducible refine zI ?_ ?_ | exact zB | exact zC | exact zD | exact zE | rfl | exact zN rfl | omega | assumption | (simp; done) | (simp [splice]; done) | (simp; omega) | (unfold fits; omega) | (unfold fits; simp_all; omega) | (simp_all; omega) | (simp_all; done) | intro _ | exact zI ?_ ?_ | intro _)))⟩ rfl (by exact Imps.refl [.ref 60 x, .fn (.func 40) []]) (List.Perm.refl _) (sort_build 60 m x hm1 (by omega)) ?_
  rintro r F' ⟨rfl, d, hd1, hd2, rfl⟩
  have hdl : d.length ≤ 1000 := by rw [hd1.length_eq]; omega
  refine L.nil ?_
  refine rowsEq [(60, .own x 38 2 d.length (gOf Arc.cells d))] rfl ?_
  repeat refine S.seq ?_
  refine S.region ?_
  (refine L.go (T := tt) tt_ok rfl rfl ?sd25 ?_; (try (case sd25 => (repeat' ((first | first | exact trivial | exact zA | with_reducible refine zI ?_ ?_ | exact zB | exact zC | exact zD | exact zE | rfl | exact zN rfl | omega | assumption | (simp; done) | (simp [splice]; done) | (simp; omega) | (unfold fits; omega) | (unfold fits; simp_all; omega) | (simp_all; omega) | (simp_all; done) | intro _ | exact zI ?_ ?_ | intro _))))); try (refine L.nil ?_))
  refine L.call (G := [(60, .own x 38 2 d.length (gOf Arc.cells d))]) (H := []) rfl rfl rfl rfl rfl rfl rfl ⟨trivial, by (repeat' ((first | first | exact trivial | exact zA | with_reducible refine zI ?_ ?_ | exact zB | exact zC | exact zD | exact zE | rfl | exact zN rfl | omega | assumption | (simp; done) | (simp [splice]; done) | (simp; omega) | (unfold fits; omega) | (unfold fits; simp_all; omega) | (simp_all; omega) | (simp_all; done) | intro _ | exact zI ?_ ?_ | intro _)))⟩ rfl (by exact Imps.refl [.ref 60 x, .fn (.func 45) []]) (List.Perm.refl _) (compact_p d x (by omega)) ?_
  rintro r F' ⟨y, rfl, rfl⟩
  rw [cpt_eq (w := w) (hm ▸ hd1) hd2]
  (refine L.go (T := tt) tt_ok rfl rfl ?sd26 ?_; (try (case sd26 => (repeat' ((first | first | exact trivial | exact zA | with_reducible refine zI ?_ ?_ | exact zB | exact zC | exact zD | exact zE | rfl | exact zN rfl | omega | assumption | (simp; done) | (simp [splice]; done) | (simp; omega) | (unfold fits; omega) | (unfold fits; simp_all; omega) | (simp_all; omega) | (simp_all; done) | intro _ | exact zI ?_ ?_ | intro _))))); try (refine L.nil ?_))
  have e1 : bldA w = (mksAll w).foldl putA [] := by rw [bldA, if_pos hok]
  have e2 : bldE w = 0 := by rw [bldE, if_pos hok]
  rw [← e1]
  refine rowsEq [(60, .own y 38 2 (bldA w).length (gOf Arc.cells (bldA w)))] rfl ?_
  refine freezeSlot 2 60 rfl rfl rfl ?_
  (((repeat refine S.seq ?_); refine S.ret ?_); refine E.retP (T := tt) tt_ok rfl rfl (by (repeat' ((first | first | exact trivial | exact zA | with_reducible refine zI ?_ ?_ | exact zB | exact zC | exact zD | exact zE | rfl | exact zN rfl | omega | assumption | (simp; done) | (simp [splice]; done) | (simp; omega) | (unfold fits; omega) | (unfold fits; simp_all; omega) | (simp_all; omega) | (simp_all; done) | intro _ | exact zI ?_ ?_ | intro _)))) ?_)
  rw [e2]
  exact Imp.refl _
end Go.Proofs.YtlgdjmmjconbfaaDoor
