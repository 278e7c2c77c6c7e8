/- Texts of this proof, laid together: DelOut, DlOut, IxI, AuA, AuB, AuC, AuE, AuG. -/
import Derived.Test.YtfdneepgpekmiaaDoorMgA
import Derived.Test.YtfdneepgpekmiaaDoorRows
import Derived.Test.YtfdneepgpekmiaaDoorMjC
import Derived.Test.YtfdneepgpekmiaaDoorMjD
import Derived.Test.YtfdneepgpekmiaaDoorMsE
/- slices.Delete of one element, at author.Out, in a row of the program's own. -/
namespace Go.Proofs.YtfdneepgpekmiaaDoor.DelOut
set_option linter.unusedVariables false
set_option linter.unusedSimpArgs false
open Go.RowKit
set_option maxRecDepth 20000

theorem und : Tryd.prog.underlying 46 = some (.slice 51) := by kernel_rfl
theorem info : (Tryd.prog.info? 51).map (fun i => (i.zero, i.size, i.bytes)) = some (some (.agg #[.int .i64 0, .slice none 0 0]), 2, 32) := by kernel_rfl
theorem zero : ∀ w : World, (zeroValue 51).run Tryd.prog w = .ok (.agg #[.int .i64 0, .slice none 0 0]) w := fun _ => by kernel_rfl

structure Post {α : Type} (enc : α → List Value) (base g cap : Nat) (l : List α) (k : Nat) (w : World) (e : Ending) (w' : World) : Prop where
  e : e = .returned (.slice (some ⟨g, 0, none⟩) (l.length - 1) cap)
  row : w'.ownsRow base 51 2 (.slice (some ⟨g, 0, none⟩) (l.length - 1) cap) (l.eraseIdx k).length (fl enc (l.eraseIdx k))
  grown : w.grownBy w' (some g)

theorem core {α : Type} {enc : α → List Value} (hs : ∀ x, (enc x).length = 2) (base g cap : Nat) (l : List α) (k : Nat) (hk : k < l.length) (w : World)
    (hrow : w.ownsRow base 51 2 (.slice (some ⟨g, 0, none⟩) l.length cap) l.length (fl enc l)) :
    let W1 := w.drew.setCells g (0 + k * 2) (fl enc (l.drop (k + 1)))
    (∀ j, j < 1 * (.agg #[.int .i64 0, .slice none 0 0] : Value).cells.size → (W1.cell? ⟨g, (l.length - 1) * 2 + j, none⟩).isSome = true) ∧ (∀ j, j < 1 * (.agg #[.int .i64 0, .slice none 0 0] : Value).cells.size → W1.frozen? ⟨g, (l.length - 1) * 2 + j, none⟩ = false) ∧
    Post enc base g cap l k w (.returned (.slice (some ⟨g, 0, none⟩) (l.length - 1) cap)) (W1.setCells g ((l.length - 1) * 2) (Builtin.zeroCells (.agg #[.int .i64 0, .slice none 0 0] : Value).cells 1).toList) := by
  intro W1
  obtain ⟨g', cap', cur, hv, hg, hh, hn, hc, hsz, ht⟩ := hrow.2.resolve_left (fun h => by cases h.1)
  cases hv
  have hb : Blk w g cur.toList 51 := by unfold Blk; simpa using hh
  have hb1 : Blk w.drew g cur.toList 51 := hb
  have hlen : (fl enc (l.drop (k + 1))).length = (l.length - (k + 1)) * 2 := by rw [fl_length hs, List.length_drop]
  have hz : (.agg #[.int .i64 0, .slice none 0 0] : Value).cells.size = 2 := rfl
  have hcl : cur.toList.length = cap * 2 := by simpa using hsz
  have hb2 : Blk W1 g _ 51 := hb1.setCells (fl enc (l.drop (k + 1))) (0 + k * 2) _ _ (by rw [hlen, hcl]; omega)
  have hl2 : (cur.toList.take (0 + k * 2) ++ fl enc (l.drop (k + 1)) ++ cur.toList.drop (0 + k * 2 + (fl enc (l.drop (k + 1))).length)).length = cap * 2 := by
    simp only [List.length_append, List.length_take, List.length_drop, hlen, hcl]; omega
  have htake : (cur.toList.take (0 + k * 2) ++ fl enc (l.drop (k + 1)) ++ cur.toList.drop (0 + k * 2 + (fl enc (l.drop (k + 1))).length)).take ((l.length - 1) * 2) = fl enc (l.eraseIdx k) := by
    rw [List.take_append_of_le_length (by simp only [List.length_append, List.length_take, hlen, hcl]; omega), List.take_of_length_le (by simp only [List.length_append, List.length_take, hlen, hcl]; omega)]
    have : cur.toList.take (0 + k * 2) = fl enc (l.take k) := by
      rw [← fl_take hs l k (by omega), ← ht, List.take_take]; congr 1; omega
    rw [this, ← fl_append, List.eraseIdx_eq_take_drop_succ]
  generalize cur.toList.take (0 + k * 2) ++ fl enc (l.drop (k + 1)) ++ cur.toList.drop (0 + k * 2 + (fl enc (l.drop (k + 1))).length) = cs at *
  refine ⟨fun j hj => ?_, fun j _ => hb2.frozen _, rfl, ?_, ?_⟩
  · rw [hb2.cell, List.getElem?_eq_getElem (by omega)]; rfl
  · have hb3 := hb2.setCells (Builtin.zeroCells (.agg #[.int .i64 0, .slice none 0 0] : Value).cells 1).toList ((l.length - 1) * 2) _ _ (by rw [zeroCells_length]; omega)
    have he : (l.eraseIdx k).length = l.length - 1 := by rw [List.length_eraseIdx, if_pos hk]
    refine ⟨by rw [fl_length hs], .inr ⟨g, cap, _, by rw [he], hg, hb3, by omega, hc, ?_, ?_⟩⟩
    · simp only [List.size_toArray, List.length_append, List.length_take, List.length_drop, zeroCells_length, hz]; omega
    · rw [he]
      show (cs.take ((l.length - 1) * 2) ++ (Builtin.zeroCells (.agg #[.int .i64 0, .slice none 0 0] : Value).cells 1).toList ++ cs.drop _).take ((l.length - 1) * 2) = _
      rw [List.append_assoc, List.take_append_of_le_length (by rw [List.length_take]; omega), List.take_take, Nat.min_self, htake]
  · have g1 : w.grownBy w.drew (some g) := ⟨rfl, rfl, rfl, Nat.le_refl _, fun _ _ _ => rfl⟩
    exact (g1.trans (setCells_grown _ _ _)).trans (setCells_grown _ _ _)

theorem del {α : Type} {enc : α → List Value} (hs : ∀ x, (enc x).length = 2) (h1 : ∀ x, ∀ u ∈ enc x, u.oneCell' = true) (base g cap : Nat) (l : List α) (k : Nat) (hk : k < l.length) (w : World)
    (hrow : w.ownsRow base 51 2 (.slice (some ⟨g, 0, none⟩) l.length cap) l.length (fl enc l)) :
    Calls Tryd.prog 47 #[.slice (some ⟨g, 0, none⟩) l.length cap, .int .i64 k, .int .i64 (k + 1)] w (Post enc base g cap l k w) := by
  obtain ⟨c1, c2, hfin⟩ := core hs base g cap l k hk w hrow
  obtain ⟨i0, hi, hzz⟩ := Option.map_eq_some_iff.1 info
  simp only [Prod.mk.injEq] at hzz
  obtain ⟨_, hz1, _⟩ := hzz
  have hcap : l.length ≤ cap ∧ cap ≤ 9223372036854775807 := by
    obtain ⟨A, c, hv, h1, h2⟩ := own_form0 hrow; cases hv; exact ⟨h1, by simpa [maxLen] using h2⟩
  obtain ⟨hcap1, hcap2⟩ := hcap
  have hlen : (fl enc (l.drop (k + 1))).length = (l.length - (k + 1)) * 2 := by rw [fl_length hs, List.length_drop]
  have hcells : ∀ j u, (fl enc (l.drop (k + 1)))[j]? = some u → w.drew.cell? ⟨g, (k + 1) * 2 + j, none⟩ = some u := by
    intro j u hu
    have := (own_cell hrow ((k + 1) * 2 + j) (by have := (List.getElem?_eq_some_iff.1 hu).1; rw [hlen] at this; rw [fl_length hs]; omega)).1
    rw [← List.getElem?_drop, fl_drop hs l (k + 1) (by omega), hu] at this
    exact this
  have hone : ∀ u ∈ fl enc (l.drop (k + 1)), u.oneCell' = true := by
    intro u hu; obtain ⟨x, _, hx⟩ := List.mem_flatMap.1 hu; exact h1 x u hx
  have hspare : ∀ j, j < (fl enc (l.drop (k + 1))).length → (w.drew.cell? ⟨g, 0 + k * 2 + j, none⟩).isSome = true ∧ w.drew.frozen? ⟨g, 0 + k * 2 + j, none⟩ = false := by
    intro j hj
    have := own_cell hrow (0 + k * 2 + j) (by rw [hlen] at hj; rw [fl_length hs]; omega)
    refine ⟨?_, this.2⟩
    show (w.cell? _).isSome = true
    rw [this.1, List.getElem?_eq_getElem (by rw [hlen] at hj; rw [fl_length hs]; omega)]; rfl
  have hclr : ∀ ty c, (Builtin.clear_ #[46] ty #[.slice (some ⟨g, (l.length - 1) * 2, none⟩) 1 c]).run Tryd.prog (w.drew.setCells g (0 + k * 2) (fl enc (l.drop (k + 1)))) = .ok (.tuple #[]) ((w.drew.setCells g (0 + k * 2) (fl enc (l.drop (k + 1)))).setCells g ((l.length - 1) * 2) (Builtin.zeroCells (.agg #[.int .i64 0, .slice none 0 0] : Value).cells 1).toList) :=
    fun ty c => run_clear_cells _ _ _ ty (.agg #[.int .i64 0, .slice none 0 0]) und zero (by decide) g ((l.length - 1) * 2) 1 _ (by decide) c1 c2
  obtain ⟨W1, hW1⟩ : ∃ W1, W1 = w.drew.setCells g (0 + k * 2) (fl enc (l.drop (k + 1))) := ⟨_, rfl⟩
  rw [← hW1] at hclr hfin
  replace hfin := Lib.hid hfin
  replace hcells := Lib.hid hcells
  replace hone := Lib.hid hone
  replace hspare := Lib.hid hspare
  replace hlen := Lib.hid hlen
  replace hW1 := Lib.hid hW1
  replace hz1 := Lib.hid hz1
  replace hi := Lib.hid hi
  clear c1 c2 hs h1 hrow
  generalize hn : l.length = n at *
  obtain ⟨n, rfl⟩ : ∃ m, n = m + 1 := ⟨n - 1, by omega⟩
  replace hn := Lib.hid hn
  simp only [Nat.add_sub_cancel] at hclr
  by_cases hend : k + 1 = cap
  · have hkn : k = n := by omega
    subst hkn
    subst hend
    have f1 : (k : Int) ≤ (k : Int) + 1 := by omega
    have f0 : (0 : Int) ≤ (k : Int) + 1 := by omega
    go_enter Tryd.func47, Tryd.ntmps47
    go_wp2
    go_region_law (refine step_append_room rfl (.tmp 22) (.tmp 25) 46 rfl 51 i0 2 und hi.out hz1.out g 0 k (k + 1) (by simp [Act.eval, Act.put]) ⟨g, 0, none⟩ 0 0 (fl enc (l.drop (k + 1))) (by simp [Act.eval, Act.put]) (by rw [hlen.out]; simp) (fun j u hu => absurd (List.getElem?_eq_some_iff.1 hu).1 (by rw [hlen.out]; simp)) hone.out (by omega) hspare.out ?_; rw [← hW1.out])
    go_wp2
    go_ret
    exact hfin.out
  · have hadd : (⟨g, 0, none⟩ : Addr).add ((k + 1) * 2) = ⟨g, (k + 1) * 2, none⟩ := by unfold Addr.add; split <;> simp_all
    have f0 : (0 : Int) ≤ (k : Int) + 1 := by omega
    have f4 : (k : Int) + 1 ≤ (n : Int) + 1 := by omega
    have f5 : (k : Int) ≤ n := by omega
    have f1 : k ≤ cap := by omega
    have f2 : k + 1 ≤ cap := by omega
    have f3 : k + 1 ≤ n + 1 := by omega
    have f6 : k + (n - k) = n := by omega
    have f7 : (k : Int) + ((n - k : Nat) : Int) = n := by omega
    have f8 : n + 1 - n = 1 := by omega
    have f9 : n ≤ cap := by omega
    go_enter Tryd.func47, Tryd.ntmps47
    go_wp2
    go_region_law (refine step_append_room rfl (.tmp 22) (.tmp 25) 46 rfl 51 i0 2 und hi.out hz1.out g 0 k cap (by simp [Act.eval, Act.put]) ⟨g, (k + 1) * 2, none⟩ (n + 1 - (k + 1)) (cap - (k + 1)) (fl enc (l.drop (k + 1))) (by simp [Act.eval, Act.put, show ¬ cap = k + 1 from fun h => hend h.symm]) (by rw [hlen.out]) (fun j u hu => by rw [Addr.add_lit]; exact hcells.out j u hu) hone.out (by omega) hspare.out ?_; rw [← hW1.out])
    go_wp2
    go_ret
    exact hfin.out

end Go.Proofs.YtfdneepgpekmiaaDoor.DelOut

/- slices.Delete of one element, as a contract. -/
namespace Go.Proofs.YtfdneepgpekmiaaDoor
set_option linter.unusedVariables false
set_option linter.unusedSimpArgs false
set_option maxHeartbeats 8000000
open Go.RowKit

theorem DlOut {n k : Nat} {g : Nat → List AV} {x : Value} (id : Nat) (hk : k < n) :
    FnC Tryd.prog 47 [.ref id x, .v (.int .i64 k), .v (.int .i64 (k + 1))] [(id, .own x 51 2 n g)]
      (fun r F' => ∃ x', r = .ref id x' ∧ F' = [(id, .own x' 51 2 (n - 1) (fun i => if i < k then g i else g (i + 1)))]) := by
  intro off w vs hoff hS hl hr
  match vs, hl with
  | [v0, v1, v2], _ =>
    have e0 := hr 0 _ v0 rfl rfl
    have e1 := hr 1 _ v1 rfl rfl
    have e2 := hr 2 _ v2 rfl rfl
    cases e0; cases e1; cases e2
    obtain ⟨L, rfl, ho, hlen, hel⟩ := (hS.rows _ (List.mem_singleton.2 rfl)).elems
    obtain ⟨g0, cap, rfl, hcap, -⟩ := own_form ho (by omega)
    refine (DelOut.del (fun c : Cz 2 => c.len) (fun c => c.one) 0 g0 cap L k hk w ho).mono fun e w' hp => ?_
    have hle : (L.eraseIdx k).length = L.length - 1 := by rw [List.length_eraseIdx, if_pos hk]
    obtain ⟨q1, q2, q3⟩ := ret_row (r' := .own (.slice (some ⟨g0, 0, none⟩) (L.length - 1) cap) 51 2 (L.length - 1) (fun i => if i < k then g i else g (i + 1))) hS hoff hp.grown (fun b hb _ => by cases hb; rfl) (fun b hb => by left; exact hb) fun he => by
      have key := Row.sat.of_elems (own := Own off [(id, .own (.slice (some ⟨g0, 0, none⟩) (L.length - 1) cap) 51 2 (L.length - 1) (fun i => if i < k then g i else g (i + 1)))]) (g := fun i => if i < k then g i else g (i + 1)) hp.row (fun i hi => by
        rw [hle] at hi
        split
        · exact hlen i (by omega)
        · exact hlen (i + 1) (by omega)) (fun i hi j A hA => by
        have hi' : i < L.length - 1 := by rw [hle] at hi; exact hi
        rw [List.getElem_eraseIdx]
        split at hA
        · rename_i h
          rw [dif_pos h]
          obtain ⟨u, hu, hrep⟩ := hel i (by omega) j A hA
          exact ⟨u, hu, hrep.ext he⟩
        · rename_i h
          rw [dif_neg h]
          obtain ⟨u, hu, hrep⟩ := hel (i + 1) (by omega) j A hA
          exact ⟨u, hu, hrep.ext he⟩)
      rw [hle] at key
      exact key
    exact ⟨_, _, _, ⟨_, rfl, rfl⟩, hp.e, .ref _ _ rfl, q1, q2, q3⟩

end Go.Proofs.YtfdneepgpekmiaaDoor

/- slices.IndexFunc over numbers, where the function looks at what is one's own. -/
namespace Go.Proofs.YtfdneepgpekmiaaDoor
set_option linter.unusedVariables false
set_option linter.unusedSimpArgs false
set_option maxHeartbeats 8000000
open Go.RowKit
set_option maxRecDepth 4000

theorem IxI {n f : Nat} (el : Nat → Int) {caps : List AV} {F : Rows} (p : Nat → Bool) (hf : callable Tryd.prog f = true) (hp : ∀ i, i < n → FnC Tryd.prog f (.v (.int .i64 (el i)) :: caps) F (fun r F' => r = .v (.bool (p i)) ∧ F' = F)) :
    FnC Tryd.prog 44 [.lst 1 n (fun i => [.v (.int .i64 (el i))]), .fn (.func f) caps] F (fun r F' => r = .v (.int .i64 (pidx p n)) ∧ F' = F) := by
  refine FnC.intro Tryd.func44 rfl Tryd.ntmps44 rfl ?_; intro off w0
  refine lenAt (sz := 1) (n := n) (g := fun i => [.v (.int .i64 (el i))]) 0 rfl fun hn => ?_
  ((repeat refine S.seq ?_); refine S.region (L.go (T := tt) tt_ok rfl rfl ?sd117 ?_); (try (case sd117 => (repeat' ((first | first | exact trivial | exact zA | with_reducible refine zI ?_ ?_ | exact zB | exact zC | exact zD | exact zE | rfl | exact zN rfl | omega | assumption | (simp; done) | (simp [splice]; done) | (simp; omega) | (unfold fits; omega) | (unfold fits; simp_all; omega) | (simp_all; omega) | (simp_all; done) | intro _ | exact zI ?_ ?_ | intro _))))); try (refine L.nil ?_))
  ((repeat refine S.seq ?_); refine S.region (L.go (T := tt) tt_ok rfl rfl ?sd118 ?_); (try (case sd118 => (repeat' ((first | first | exact trivial | exact zA | with_reducible refine zI ?_ ?_ | exact zB | exact zC | exact zD | exact zE | rfl | exact zN rfl | omega | assumption | (simp; done) | (simp [splice]; done) | (simp; omega) | (unfold fits; omega) | (unfold fits; simp_all; omega) | (simp_all; omega) | (simp_all; done) | intro _ | exact zI ?_ ?_ | intro _))))); try (refine L.nil ?_))
  refine S.block (S.loop (ι := { k : Nat // k ≤ n ∧ ∀ j, j < k → p j = false }) (fun k => [(8, .v (.int .i64 k.1)), (7, .v (.int .i64 n)), (1, .fn (.func f) caps), (0, .lst 1 n (fun i => [.v (.int .i64 (el i))]))]) (fun _ => F) (fun k => n - k.1) ?_ ?_)
  · exact fun a w h => ⟨⟨0, Nat.zero_le _, fun j hj => absurd hj (by omega)⟩, h.weak (by (repeat' (first | exact True.intro | exact Imp.refl _ | refine ⟨?_, ?_⟩))) (List.Sublist.refl _)⟩
  rintro ⟨k, hk, hno⟩
  dsimp only
  ((repeat refine S.seq ?_); refine S.region (L.go (T := tt) tt_ok rfl rfl ?sd119 ?_); (try (case sd119 => (repeat' ((first | first | exact trivial | exact zA | with_reducible refine zI ?_ ?_ | exact zB | exact zC | exact zD | exact zE | rfl | exact zN rfl | omega | assumption | (simp; done) | (simp [splice]; done) | (simp; omega) | (unfold fits; omega) | (unfold fits; simp_all; omega) | (simp_all; omega) | (simp_all; done) | intro _ | exact zI ?_ ?_ | intro _))))); try (refine L.nil ?_))
  refine S.seq (S.cond rfl (fun h => S.skip ?_) (fun h => S.exit ?_))
  · have h := of_dec h
    refine S.seq (S.block ?_)
    ((repeat refine S.seq ?_); refine S.region (L.go (T := tt) tt_ok rfl rfl ?sd120 ?_); (try (case sd120 => (repeat' ((first | first | exact trivial | exact zA | with_reducible refine zI ?_ ?_ | exact zB | exact zC | exact zD | exact zE | rfl | exact zN rfl | omega | assumption | (simp; done) | (simp [splice]; done) | (simp; omega) | (unfold fits; omega) | (unfold fits; simp_all; omega) | (simp_all; omega) | (simp_all; done) | intro _ | exact zI ?_ ?_ | intro _))))); try (refine L.nil ?_))
    ((repeat refine S.seq ?_); refine S.region (L.go (T := tt) tt_ok rfl rfl ?sd121 ?_); (try (case sd121 => (repeat' ((first | first | exact trivial | exact zA | with_reducible refine zI ?_ ?_ | exact zB | exact zC | exact zD | exact zE | rfl | exact zN rfl | omega | assumption | (simp; done) | (simp [splice]; done) | (simp; omega) | (unfold fits; omega) | (unfold fits; simp_all; omega) | (simp_all; omega) | (simp_all; done) | intro _ | exact zI ?_ ?_ | intro _))))); try (refine L.nil ?_))
    refine L.call (G := F) (H := []) rfl rfl rfl rfl rfl rfl rfl ⟨trivial, by (repeat' ((first | first | exact trivial | exact zA | with_reducible refine zI ?_ ?_ | exact zB | exact zC | exact zD | exact zE | rfl | exact zN rfl | omega | assumption | (simp; done) | (simp [splice]; done) | (simp; omega) | (unfold fits; omega) | (unfold fits; simp_all; omega) | (simp_all; omega) | (simp_all; done) | intro _ | exact zI ?_ ?_ | intro _)))⟩ hf (Imps.refl (.v (.int .i64 (el k)) :: caps)) (by simp) (hp k (by omega)) ?_
    rintro r F' ⟨rfl, rfl⟩
    refine L.nil ?_
    refine rowsEq F' (List.append_nil _) ?_
    refine S.cond rfl (fun hb => ?_) (fun hb => S.skip ?_)
    · ((repeat refine S.seq ?_); refine S.region (L.go (T := tt) tt_ok rfl rfl ?sd122 ?_); (try (case sd122 => (repeat' ((first | first | exact trivial | exact zA | with_reducible refine zI ?_ ?_ | exact zB | exact zC | exact zD | exact zE | rfl | exact zN rfl | omega | assumption | (simp; done) | (simp [splice]; done) | (simp; omega) | (unfold fits; omega) | (unfold fits; simp_all; omega) | (simp_all; omega) | (simp_all; done) | intro _ | exact zI ?_ ?_ | intro _))))); try (refine L.nil ?_))
      refine S.ret (E.ret (T := tt) tt_ok rfl rfl (by (repeat' ((first | first | exact trivial | exact zA | with_reducible refine zI ?_ ?_ | exact zB | exact zC | exact zD | exact zE | rfl | exact zN rfl | omega | assumption | (simp; done) | (simp [splice]; done) | (simp; omega) | (unfold fits; omega) | (unfold fits; simp_all; omega) | (simp_all; omega) | (simp_all; done) | intro _ | exact zI ?_ ?_ | intro _)))) (Imp.of_eq ?_) (List.Sublist.refl _) ⟨rfl, rfl⟩)
      rw [pidx_some (by omega) hb hno]
      rfl
    · ((repeat refine S.seq ?_); refine S.region (L.go (T := tt) tt_ok rfl rfl ?sd123 ?_); (try (case sd123 => (repeat' ((first | first | exact trivial | exact zA | with_reducible refine zI ?_ ?_ | exact zB | exact zC | exact zD | exact zE | rfl | exact zN rfl | omega | assumption | (simp; done) | (simp [splice]; done) | (simp; omega) | (unfold fits; omega) | (unfold fits; simp_all; omega) | (simp_all; omega) | (simp_all; done) | intro _ | exact zI ?_ ?_ | intro _))))); try (refine L.nil ?_))
      exact fun a w hR => ⟨⟨k + 1, by omega, fun j hj => by rcases Nat.lt_or_ge j k with h | h; exact hno j h; (have : j = k := by omega); subst this; exact hb⟩, by simp only; omega, hR.weak (by (repeat' (first | exact True.intro | exact Imp.refl _ | refine ⟨?_, ?_⟩))) (List.Sublist.refl _)⟩
  · have h := of_dec' h
    ((repeat refine S.seq ?_); refine S.region (L.go (T := tt) tt_ok rfl rfl ?sd124 ?_); (try (case sd124 => (repeat' ((first | first | exact trivial | exact zA | with_reducible refine zI ?_ ?_ | exact zB | exact zC | exact zD | exact zE | rfl | exact zN rfl | omega | assumption | (simp; done) | (simp [splice]; done) | (simp; omega) | (unfold fits; omega) | (unfold fits; simp_all; omega) | (simp_all; omega) | (simp_all; done) | intro _ | exact zI ?_ ?_ | intro _))))); try (refine L.nil ?_))
    refine S.ret (E.ret (T := tt) tt_ok rfl rfl (by (repeat' ((first | first | exact trivial | exact zA | with_reducible refine zI ?_ ?_ | exact zB | exact zC | exact zD | exact zE | rfl | exact zN rfl | omega | assumption | (simp; done) | (simp [splice]; done) | (simp; omega) | (unfold fits; omega) | (unfold fits; simp_all; omega) | (simp_all; omega) | (simp_all; done) | intro _ | exact zI ?_ ?_ | intro _)))) (Imp.of_eq ?_) (List.Sublist.refl _) ⟨rfl, rfl⟩)
    rw [pidx_none (fun j hj => hno j (by omega))]
    rfl

end Go.Proofs.YtfdneepgpekmiaaDoor

/- An author: beginning, publishing. -/
namespace Go.Proofs.YtfdneepgpekmiaaDoor
set_option linter.unusedVariables false
set_option linter.unusedSimpArgs false
set_option maxHeartbeats 8000000
open Go.RowKit
set_option maxRecDepth 4000

structure OutD where
  queue : Int
  l : List Msg
  deriving DecidableEq
instance : Inhabited OutD := ⟨⟨0, []⟩⟩
def OutD.cells (o : OutD) : List AV := [.v (.int .i64 o.queue), msgs o.l]
structure AuD where
  pub : Int
  seqs : List Mark
  l : List OutD
  deriving DecidableEq
noncomputable def auR (b mb : Nat) (x : Value) (A : AuD) : Rows := [(40, .blk b 81 [.v (.int .i64 A.pub), .ref 41 (.map (some mb)), .ref 42 x]), (41, .map mb (kOf Tryd.prog 83) (marksM A.seqs)), (42, .own x 51 2 A.l.length (gOf OutD.cells A.l))]

theorem anew_p (pub : Int) (h0 : 0 ≤ pub) (h1 : pub < 4) : FnC Tryd.prog 14 [.v (.int .i64 pub)] [] (fun r F' => ∃ b mb, r = .ptr 40 b 0 ∧ F' = auR b mb (.slice none 0 0) ⟨pub, [], []⟩) := by
  refine FnC.intro Tryd.func14 rfl Tryd.ntmps14 rfl ?_; intro off w0
  ((repeat refine S.seq ?_); refine S.region (L.go (T := tt) tt_ok rfl rfl ?sd125 ?_); (try (case sd125 => (repeat' ((first | first | exact trivial | exact zA | with_reducible refine zI ?_ ?_ | exact zB | exact zC | exact zD | exact zE | rfl | exact zN rfl | omega | assumption | (simp; done) | (simp [splice]; done) | (simp; omega) | (unfold fits; omega) | (unfold fits; simp_all; omega) | (simp_all; omega) | (simp_all; done) | intro _ | exact zI ?_ ?_ | intro _))))); try (refine L.nil ?_))
  ((repeat refine S.seq ?_); refine S.region (L.go (T := tt) tt_ok rfl rfl ?sd126 ?_); (try (case sd126 => (repeat' ((first | first | exact trivial | exact zA | with_reducible refine zI ?_ ?_ | exact zB | exact zC | exact zD | exact zE | rfl | exact zN rfl | omega | assumption | (simp; done) | (simp [splice]; done) | (simp; omega) | (unfold fits; omega) | (unfold fits; simp_all; omega) | (simp_all; omega) | (simp_all; done) | intro _ | exact zI ?_ ?_ | intro _))))); try (refine L.nil ?_))
  ((repeat refine S.seq ?_); refine S.cond rfl (fun hc => ?_) (fun hc => ?_) <;> (try first | refine S.skip ?_ | refine S.exit ?_))
  · exfalso
    simp only [Bool.or_eq_true, decide_eq_true_eq] at hc
    omega
  repeat refine S.seq ?_
  refine S.region ?_
  (refine L.go (T := tt) tt_ok rfl rfl ?sd148 ?_; (try (case sd148 => (repeat' ((first | first | exact trivial | exact zA | with_reducible refine zI ?_ ?_ | exact zB | exact zC | exact zD | exact zE | rfl | exact zN rfl | omega | assumption | (simp; done) | (simp [splice]; done) | (simp; omega) | (unfold fits; omega) | (unfold fits; simp_all; omega) | (simp_all; omega) | (simp_all; done) | intro _ | exact zI ?_ ?_ | intro _))))); try (refine L.nil ?_))
  refine L.makeMap 41 83 rfl rfl rfl rfl fun mb => ?_
  (refine L.go (T := tt) tt_ok rfl rfl ?sd149 ?_; (try (case sd149 => (repeat' ((first | first | exact trivial | exact zA | with_reducible refine zI ?_ ?_ | exact zB | exact zC | exact zD | exact zE | rfl | exact zN rfl | omega | assumption | (simp; done) | (simp [splice]; done) | (simp; omega) | (unfold fits; omega) | (unfold fits; simp_all; omega) | (simp_all; omega) | (simp_all; done) | intro _ | exact zI ?_ ?_ | intro _))))); try (refine L.nil ?_))
  refine L.box 40 rfl rfl rfl rfl rfl trivial rfl fun b12 => ?_
  (refine L.go (T := tt) tt_ok rfl rfl ?sd150 ?_; (try (case sd150 => (repeat' ((first | first | exact trivial | exact zA | with_reducible refine zI ?_ ?_ | exact zB | exact zC | exact zD | exact zE | rfl | exact zN rfl | omega | assumption | (simp; done) | (simp [splice]; done) | (simp; omega) | (unfold fits; omega) | (unfold fits; simp_all; omega) | (simp_all; omega) | (simp_all; done) | intro _ | exact zI ?_ ?_ | intro _))))); try (refine L.nil ?_))
  refine nilRow 42 51 2 (gOf OutD.cells []) ?_
  refine blkAs 40 [.v (.int .i64 pub), .ref 41 (.map (some mb)), .ref 42 (.slice none 0 0)] rfl ⟨Imp.refl _, Imp.refl _, Imp.vref rfl, trivial⟩ ?_
  refine rowsTo (auR b12 mb (.slice none 0 0) ⟨pub, [], []⟩) (by first | (unfold auR; (repeat (first | exact Sub.refl _ | refine Sub.pick (by first | exact p0 | exact pS p0 | exact pS (pS p0) | exact pS (pS (pS p0)) | exact pS (pS (pS (pS p0))) | exact pS (pS (pS (pS (pS p0))))) ?_))) | (repeat (first | exact Sub.refl _ | refine Sub.pick (by first | exact p0 | exact pS p0 | exact pS (pS p0) | exact pS (pS (pS p0)) | exact pS (pS (pS (pS p0))) | exact pS (pS (pS (pS (pS p0))))) ?_))) ?_
  ((repeat refine S.seq ?_); refine S.ret ?_)
  exact E.ret (T := tt) tt_ok rfl rfl (by (repeat' ((first | first | exact trivial | exact zA | with_reducible refine zI ?_ ?_ | exact zB | exact zC | exact zD | exact zE | rfl | exact zN rfl | omega | assumption | (simp; done) | (simp [splice]; done) | (simp; omega) | (unfold fits; omega) | (unfold fits; simp_all; omega) | (simp_all; omega) | (simp_all; done) | intro _ | exact zI ?_ ?_ | intro _)))) (Imp.refl _) (List.Sublist.refl _) ⟨b12, mb, rfl, rfl⟩
theorem anew0_p (pub : Int) (h : pub < 0 ∨ pub ≥ 4) : PFn Tryd.prog 14 [.v (.int .i64 pub)] (.v (.pointer none)) := by
  refine FnC.intro Tryd.func14 rfl Tryd.ntmps14 rfl ?_; intro off w0
  ((repeat refine S.seq ?_); refine S.region (L.go (T := tt) tt_ok rfl rfl ?sd127 ?_); (try (case sd127 => (repeat' ((first | first | exact trivial | exact zA | with_reducible refine zI ?_ ?_ | exact zB | exact zC | exact zD | exact zE | rfl | exact zN rfl | omega | assumption | (simp; done) | (simp [splice]; done) | (simp; omega) | (unfold fits; omega) | (unfold fits; simp_all; omega) | (simp_all; omega) | (simp_all; done) | intro _ | exact zI ?_ ?_ | intro _))))); try (refine L.nil ?_))
  ((repeat refine S.seq ?_); refine S.region (L.go (T := tt) tt_ok rfl rfl ?sd128 ?_); (try (case sd128 => (repeat' ((first | first | exact trivial | exact zA | with_reducible refine zI ?_ ?_ | exact zB | exact zC | exact zD | exact zE | rfl | exact zN rfl | omega | assumption | (simp; done) | (simp [splice]; done) | (simp; omega) | (unfold fits; omega) | (unfold fits; simp_all; omega) | (simp_all; omega) | (simp_all; done) | intro _ | exact zI ?_ ?_ | intro _))))); try (refine L.nil ?_))
  ((repeat refine S.seq ?_); refine S.cond rfl (fun hc => ?_) (fun hc => ?_) <;> (try first | refine S.skip ?_ | refine S.exit ?_))
  · ((repeat refine S.seq ?_); refine S.region (L.go (T := tt) tt_ok rfl rfl ?sd129 ?_); (try (case sd129 => (repeat' ((first | first | exact trivial | exact zA | with_reducible refine zI ?_ ?_ | exact zB | exact zC | exact zD | exact zE | rfl | exact zN rfl | omega | assumption | (simp; done) | (simp [splice]; done) | (simp; omega) | (unfold fits; omega) | (unfold fits; simp_all; omega) | (simp_all; omega) | (simp_all; done) | intro _ | exact zI ?_ ?_ | intro _))))); try (refine L.nil ?_))
    (((repeat refine S.seq ?_); refine S.ret ?_); refine E.retP (T := tt) tt_ok rfl rfl (by (repeat' ((first | first | exact trivial | exact zA | with_reducible refine zI ?_ ?_ | exact zB | exact zC | exact zD | exact zE | rfl | exact zN rfl | omega | assumption | (simp; done) | (simp [splice]; done) | (simp; omega) | (unfold fits; omega) | (unfold fits; simp_all; omega) | (simp_all; omega) | (simp_all; done) | intro _ | exact zI ?_ ?_ | intro _)))) (Imp.of_eq ?_))
    rfl
  exfalso
  simp only [Bool.or_eq_false_iff, decide_eq_false_iff_not] at hc
  omega

def bodyA (body : ByteArray) (many : Int) (i : Nat) : ByteArray := if many > 1 then body ++ numT i else body
def msgA (A : AuD) (q : Int) (key body : ByteArray) (many : Int) (i : Nat) : Msg := ⟨A.pub, lastSeq A.seqs q key + 1 + i, key, bodyA body many i, false⟩
def msgsA (A : AuD) (q : Int) (key body : ByteArray) (many : Int) (k : Nat) : List Msg := (List.range k).map (msgA A q key body many)
def argA (q many : Int) : Bool := ((decide (q < 0) || decide (q ≥ 4)) || decide (many < 1)) || decide (many > 8)
def pubE (A : AuD) (q : Int) (key body : ByteArray) (many : Int) : Int :=
  if argA q many then 1 else if (List.range many.toNat).all (fun i => mayMsg (msgA A q key body many i)) = false then 1 else if (A.l.length : Int) ≥ 16 then 4 else 0
def pubS (A : AuD) (q : Int) (key body : ByteArray) (many : Int) : AuD :=
  if pubE A q key body many = 0 then ⟨A.pub, A.seqs ++ [⟨q, key, lastSeq A.seqs q key + many⟩], A.l ++ [⟨q, msgsA A q key body many many.toNat⟩]⟩ else A
theorem msgsA_succ (A : AuD) (q : Int) (key body : ByteArray) (many : Int) (k : Nat) : msgsA A q key body many (k + 1) = msgsA A q key body many k ++ [msgA A q key body many k] := by
  simp [msgsA, List.range_succ]
theorem msgsA_len (A : AuD) (q : Int) (key body : ByteArray) (many : Int) (k : Nat) : (msgsA A q key body many k).length = k := by simp [msgsA]
theorem marksM_app (l : List Mark) (m : Mark) : marksM (l ++ [m]) = markM m :: marksM l := by simp [marksM]

structure AuOk (A : AuD) : Prop where
  len : A.l.length ≤ 16
  seq : ∀ q k, 0 ≤ lastSeq A.seqs q k ∧ lastSeq A.seqs q k ≤ 100000
  some1 : ∀ o ∈ A.l, 0 < o.l.length ∧ o.l.length ≤ 8 ∧ fitI o.queue ∧ ∀ m ∈ o.l, fitS m.key

theorem publish_p (b mb : Nat) (x : Value) (A : AuD) (q : Int) (key body : ByteArray) (many : Int) (ok : AuOk A) (hk : fitS key) (hb : body.size ≤ 1000) : FnC Tryd.prog 17 [.ptr 40 b 0, .v (.int .i64 q), .v (.string key), .v (.string body), .v (.int .i64 many)] (auR b mb x A)
    (fun r F' => ∃ x', r = .tup [.v (.int .i64 (if pubE A q key body many = 0 then lastSeq A.seqs q key + 1 else 0)), .v (.int .i64 (pubE A q key body many))] ∧ F' = auR b mb x' (pubS A q key body many)) := by
  have hseq := ok.seq q key
  have hlen := ok.len
  unfold auR
  refine FnC.intro Tryd.func17 rfl Tryd.ntmps17 rfl ?_; intro off w0
  ((repeat refine S.seq ?_); refine S.region (L.go (T := tt) tt_ok rfl rfl ?sd130 ?_); (try (case sd130 => (repeat' ((first | first | exact trivial | exact zA | with_reducible refine zI ?_ ?_ | exact zB | exact zC | exact zD | exact zE | rfl | exact zN rfl | omega | assumption | (simp; done) | (simp [splice]; done) | (simp; omega) | (unfold fits; omega) | (unfold fits; simp_all; omega) | (simp_all; omega) | (simp_all; done) | intro _ | exact zI ?_ ?_ | intro _))))); try (refine L.nil ?_))
  ((repeat refine S.seq ?_); refine S.region (L.go (T := tt) tt_ok rfl rfl ?sd131 ?_); (try (case sd131 => (repeat' ((first | first | exact trivial | exact zA | with_reducible refine zI ?_ ?_ | exact zB | exact zC | exact zD | exact zE | rfl | exact zN rfl | omega | assumption | (simp; done) | (simp [splice]; done) | (simp; omega) | (unfold fits; omega) | (unfold fits; simp_all; omega) | (simp_all; omega) | (simp_all; done) | intro _ | exact zI ?_ ?_ | intro _))))); try (refine L.nil ?_))
  ((repeat refine S.seq ?_); refine S.cond rfl (fun h0 => ?_) (fun h0 => ?_) <;> (try first | refine S.skip ?_ | refine S.exit ?_))
  · cases h0
  ((repeat refine S.seq ?_); refine S.region (L.go (T := tt) tt_ok rfl rfl ?sd132 ?_); (try (case sd132 => (repeat' ((first | first | exact trivial | exact zA | with_reducible refine zI ?_ ?_ | exact zB | exact zC | exact zD | exact zE | rfl | exact zN rfl | omega | assumption | (simp; done) | (simp [splice]; done) | (simp; omega) | (unfold fits; omega) | (unfold fits; simp_all; omega) | (simp_all; omega) | (simp_all; done) | intro _ | exact zI ?_ ?_ | intro _))))); try (refine L.nil ?_))
  ((repeat refine S.seq ?_); refine S.cond rfl (fun h1 => ?_) (fun h1 => ?_) <;> (try first | refine S.skip ?_ | refine S.exit ?_))
  · have e : pubE A q key body many = 1 := by
      have : argA q many = true := h1
      rw [pubE, if_pos this]
    have e2 : pubS A q key body many = A := by rw [pubS, if_neg (by omega)]
    ((repeat refine S.seq ?_); refine S.region (L.go (T := tt) tt_ok rfl rfl ?sd133 ?_); (try (case sd133 => (repeat' ((first | first | exact trivial | exact zA | with_reducible refine zI ?_ ?_ | exact zB | exact zC | exact zD | exact zE | rfl | exact zN rfl | omega | assumption | (simp; done) | (simp [splice]; done) | (simp; omega) | (unfold fits; omega) | (unfold fits; simp_all; omega) | (simp_all; omega) | (simp_all; done) | intro _ | exact zI ?_ ?_ | intro _))))); try (refine L.nil ?_))
    ((repeat refine S.seq ?_); refine S.ret ?_)
    rw [e, e2]
    exact E.ret (T := tt) tt_ok rfl rfl (by (repeat' ((first | first | exact trivial | exact zA | with_reducible refine zI ?_ ?_ | exact zB | exact zC | exact zD | exact zE | rfl | exact zN rfl | omega | assumption | (simp; done) | (simp [splice]; done) | (simp; omega) | (unfold fits; omega) | (unfold fits; simp_all; omega) | (simp_all; omega) | (simp_all; done) | intro _ | exact zI ?_ ?_ | intro _)))) (F' := auR b mb x A) (Imp.refl _) (by unfold auR; (repeat (first | exact List.nil_sublist _ | refine List.Sublist.cons_cons _ ?_ | refine List.Sublist.cons _ ?_))) ⟨x, rfl, rfl⟩
  have ha : argA q many = false := h1
  have hr : 0 ≤ q ∧ q < 4 ∧ 1 ≤ many ∧ many ≤ 8 := by
    simp only [Bool.or_eq_false_iff, decide_eq_false_iff_not] at h1
    omega
  have hkey : kOf Tryd.prog 83 (nameV q key) = true := KeyAut.kName_ok (by unfold fitI; omega) hk
  obtain ⟨s0, hs0⟩ : ∃ s0, s0 = lastSeq A.seqs q key := ⟨_, rfl⟩
  rw [← hs0] at hseq
  repeat refine S.seq ?_
  refine S.region ?_
  (refine L.go (T := tt) tt_ok rfl rfl ?sd151 ?_; (try (case sd151 => (repeat' ((first | first | exact trivial | exact zA | with_reducible refine zI ?_ ?_ | exact zB | exact zC | exact zD | exact zE | rfl | exact zN rfl | omega | assumption | (simp; done) | (simp [splice]; done) | (simp; omega) | (unfold fits; omega) | (unfold fits; simp_all; omega) | (simp_all; omega) | (simp_all; done) | intro _ | exact zI ?_ ?_ | intro _))))); try (refine L.nil ?_))
  refine L.sure (rd := [41]) (A := .v (.int .i64 (lastSeq A.seqs q key))) (look_sure (T := tt) tt_ok KeyAut.kName rfl rfl (by kernel_rfl) rfl rfl rfl (by (repeat' ((first | first | exact trivial | exact zA | with_reducible refine zI ?_ ?_ | exact zB | exact zC | exact zD | exact zE | rfl | exact zN rfl | omega | assumption | (simp; done) | (simp [splice]; done) | (simp; omega) | (unfold fits; omega) | (unfold fits; simp_all; omega) | (simp_all; omega) | (simp_all; done) | intro _ | exact zI ?_ ?_ | intro _)))) rfl (fun _ _ => rfl) rfl hkey (look_marks A.seqs q key)) rfl rfl rfl ?_
  rw [← hs0]
  (refine L.go (T := tt) tt_ok rfl rfl ?sd152 ?_; (try (case sd152 => (repeat' ((first | first | exact trivial | exact zA | with_reducible refine zI ?_ ?_ | exact zB | exact zC | exact zD | exact zE | rfl | exact zN rfl | omega | assumption | (simp; done) | (simp [splice]; done) | (simp; omega) | (unfold fits; omega) | (unfold fits; simp_all; omega) | (simp_all; omega) | (simp_all; done) | intro _ | exact zI ?_ ?_ | intro _))))); try (refine L.nil ?_))
  ((repeat refine S.seq ?_); refine S.region (L.go (T := tt) tt_ok rfl rfl ?sd134 ?_); (try (case sd134 => (repeat' ((first | first | exact trivial | exact zA | with_reducible refine zI ?_ ?_ | exact zB | exact zC | exact zD | exact zE | rfl | exact zN rfl | omega | assumption | (simp; done) | (simp [splice]; done) | (simp; omega) | (unfold fits; omega) | (unfold fits; simp_all; omega) | (simp_all; omega) | (simp_all; done) | intro _ | exact zI ?_ ?_ | intro _))))); try (refine L.nil ?_))
  ((repeat refine S.seq ?_); refine S.region (L.go (T := tt) tt_ok rfl rfl ?sd135 ?_); (try (case sd135 => (repeat' ((first | first | exact trivial | exact zA | with_reducible refine zI ?_ ?_ | exact zB | exact zC | exact zD | exact zE | rfl | exact zN rfl | omega | assumption | (simp; done) | (simp [splice]; done) | (simp; omega) | (unfold fits; omega) | (unfold fits; simp_all; omega) | (simp_all; omega) | (simp_all; done) | intro _ | exact zI ?_ ?_ | intro _))))); try (refine L.nil ?_))
  refine nilRow 44 42 5 (gOf Msg.cells (msgsA A q key body many 0)) ?_
  refine slotAs 13 (.ref 44 (.slice none 0 0)) rfl (Imp.vref rfl) ?_
  repeat refine S.seq ?_
  refine S.block (S.loop (ι := { k : Nat × Value // k.1 ≤ many.toNat ∧ ∀ j, j < k.1 → mayMsg (msgA A q key body many j) = true }) (fun k => [(0, .ptr 40 b 0), (1, .v (.int .i64 q)), (2, .v (.string key)), (3, .v (.string body)), (4, .v (.int .i64 many)), (12, .v (.int .i64 (s0 + 1))), (13, .ref 44 k.1.2), (41, .v (.int .i64 many)), (42, .v (.int .i64 k.1.1))])
    (fun k => (44, .own k.1.2 42 5 (msgsA A q key body many k.1.1).length (gOf Msg.cells (msgsA A q key body many k.1.1))) :: auR b mb x A) (fun k => many.toNat - k.1.1) ?_ ?_)
  · exact fun a w h => ⟨⟨(0, .slice none 0 0), Nat.zero_le _, fun j hj => absurd hj (by omega)⟩, h.weakP (by (repeat' (first | exact True.intro | exact Imp.refl _ | refine ⟨?_, ?_⟩))) (by first | (unfold auR; (repeat (first | exact Sub.refl _ | refine Sub.pick (by first | exact p0 | exact pS p0 | exact pS (pS p0) | exact pS (pS (pS p0)) | exact pS (pS (pS (pS p0))) | exact pS (pS (pS (pS (pS p0))))) ?_))) | (repeat (first | exact Sub.refl _ | refine Sub.pick (by first | exact p0 | exact pS p0 | exact pS (pS p0) | exact pS (pS (pS p0)) | exact pS (pS (pS (pS p0))) | exact pS (pS (pS (pS (pS p0))))) ?_)))⟩
  rintro ⟨⟨k, y⟩, hk1, ik⟩
  dsimp only at hk1 ik ⊢
  have hml := msgsA_len A q key body many k
  unfold auR
  ((repeat refine S.seq ?_); refine S.region (L.go (T := tt) tt_ok rfl rfl ?sd136 ?_); (try (case sd136 => (repeat' ((first | first | exact trivial | exact zA | with_reducible refine zI ?_ ?_ | exact zB | exact zC | exact zD | exact zE | rfl | exact zN rfl | omega | assumption | (simp; done) | (simp [splice]; done) | (simp; omega) | (unfold fits; omega) | (unfold fits; simp_all; omega) | (simp_all; omega) | (simp_all; done) | intro _ | exact zI ?_ ?_ | intro _))))); try (refine L.nil ?_))
  ((repeat refine S.seq ?_); refine S.cond rfl (fun h2 => ?_) (fun h2 => ?_) <;> (try first | refine S.skip ?_ | refine S.exit ?_))
  · have h2n : k < many.toNat := by have := of_dec h2; omega
    have hnt := numT_size (i := (k : Int)) (by omega) (by omega)
    repeat refine S.seq ?_
    refine S.block ?_
    ((repeat refine S.seq ?_); refine S.region (L.go (T := tt) tt_ok rfl rfl ?sd137 ?_); (try (case sd137 => (repeat' ((first | first | exact trivial | exact zA | with_reducible refine zI ?_ ?_ | exact zB | exact zC | exact zD | exact zE | rfl | exact zN rfl | omega | assumption | (simp; done) | (simp [splice]; done) | (simp; omega) | (unfold fits; omega) | (unfold fits; simp_all; omega) | (simp_all; omega) | (simp_all; done) | intro _ | exact zI ?_ ?_ | intro _))))); try (refine L.nil ?_))
    ((repeat refine S.seq ?_); refine S.region (L.go (T := tt) tt_ok rfl rfl ?sd138 ?_); (try (case sd138 => (repeat' ((first | first | exact trivial | exact zA | with_reducible refine zI ?_ ?_ | exact zB | exact zC | exact zD | exact zE | rfl | exact zN rfl | omega | assumption | (simp; done) | (simp [splice]; done) | (simp; omega) | (unfold fits; omega) | (unfold fits; simp_all; omega) | (simp_all; omega) | (simp_all; done) | intro _ | exact zI ?_ ?_ | intro _))))); try (refine L.nil ?_))
    refine L.alloc (T := tt) 47 tt_ok rfl rfl rfl rfl rfl fun b15 => ?_
    (refine L.store (T := tt) tt_ok rfl rfl rfl rfl rfl rfl ?sd159 ?_; (try (case sd159 => (repeat' ((first | first | exact trivial | exact zA | with_reducible refine zI ?_ ?_ | exact zB | exact zC | exact zD | exact zE | rfl | exact zN rfl | omega | assumption | (simp; done) | (simp [splice]; done) | (simp; omega) | (unfold fits; omega) | (unfold fits; simp_all; omega) | (simp_all; omega) | (simp_all; done) | intro _ | exact zI ?_ ?_ | intro _))))))
    refine L.nil ?_
    ((repeat refine S.seq ?_); refine S.region (L.go (T := tt) tt_ok rfl rfl ?sd139 ?_); (try (case sd139 => (repeat' ((first | first | exact trivial | exact zA | with_reducible refine zI ?_ ?_ | exact zB | exact zC | exact zD | exact zE | rfl | exact zN rfl | omega | assumption | (simp; done) | (simp [splice]; done) | (simp; omega) | (unfold fits; omega) | (unfold fits; simp_all; omega) | (simp_all; omega) | (simp_all; done) | intro _ | exact zI ?_ ?_ | intro _))))); try (refine L.nil ?_))
    refine S.cut (ι := Unit) (fun _ => [(0, .ptr 40 b 0), (1, .v (.int .i64 q)), (2, .v (.string key)), (3, .v (.string body)), (4, .v (.int .i64 many)), (12, .v (.int .i64 (s0 + 1))), (13, .ref 44 y), (15, .ptr 47 b15 0), (41, .v (.int .i64 many)), (42, .v (.int .i64 k))])
      (fun _ => (47, .blk b15 42 (msgA A q key body many k).cells) :: (44, .own y 42 5 (msgsA A q key body many k).length (gOf Msg.cells (msgsA A q key body many k))) :: auR b mb x A) ?_ ?_
    · ((repeat refine S.seq ?_); refine S.cond rfl (fun h3 => ?_) (fun h3 => ?_) <;> (try first | refine S.skip ?_ | refine S.exit ?_))
      · have h3n : many > 1 := of_dec h3
        repeat refine S.seq ?_
        refine S.region ?_
        (refine L.go (T := tt) tt_ok rfl rfl ?sd153 ?_; (try (case sd153 => (repeat' ((first | first | exact trivial | exact zA | with_reducible refine zI ?_ ?_ | exact zB | exact zC | exact zD | exact zE | rfl | exact zN rfl | omega | assumption | (simp; done) | (simp [splice]; done) | (simp; omega) | (unfold fits; omega) | (unfold fits; simp_all; omega) | (simp_all; omega) | (simp_all; done) | intro _ | exact zI ?_ ?_ | intro _))))); try (refine L.nil ?_))
        refine L.callP rfl rfl rfl rfl rfl rfl rfl ⟨trivial, by (repeat' ((first | first | exact trivial | exact zA | with_reducible refine zI ?_ ?_ | exact zB | exact zC | exact zD | exact zE | rfl | exact zN rfl | omega | assumption | (simp; done) | (simp [splice]; done) | (simp; omega) | (unfold fits; omega) | (unfold fits; simp_all; omega) | (simp_all; omega) | (simp_all; done) | intro _ | exact zI ?_ ?_ | intro _)))⟩ rfl (Imps.refl _) (itoa_p (k : Int) (by omega) (by omega)) ?_
        (refine L.go (T := tt) tt_ok rfl rfl ?sd154 ?_; (try (case sd154 => (repeat' ((first | first | exact trivial | exact zA | with_reducible refine zI ?_ ?_ | exact zB | exact zC | exact zD | exact zE | rfl | exact zN rfl | omega | assumption | (simp; done) | (simp [splice]; done) | (simp; omega) | (unfold fits; omega) | (unfold fits; simp_all; omega) | (simp_all; omega) | (simp_all; done) | intro _ | exact zI ?_ ?_ | intro _))))); try (refine L.nil ?_))
        (refine L.store (T := tt) tt_ok rfl rfl rfl rfl rfl rfl ?sd160 ?_; (try (case sd160 => (repeat' ((first | first | exact trivial | exact zA | with_reducible refine zI ?_ ?_ | exact zB | exact zC | exact zD | exact zE | rfl | exact zN rfl | omega | assumption | (simp; done) | (simp [splice]; done) | (simp; omega) | (unfold fits; omega) | (unfold fits; simp_all; omega) | (simp_all; omega) | (simp_all; done) | intro _ | exact zI ?_ ?_ | intro _))))))
        refine L.nil ?_
        have e : (msgA A q key body many k).cells = [.v (.int .i64 A.pub), .v (.int .i64 (s0 + 1 + k)), .v (.string key), .v (.string (body ++ numT k)), .v (.bool false)] := by rw [msgA, bodyA, if_pos h3n, ← hs0]; rfl
        refine blkAs 47 (msgA A q key body many k).cells rfl (by rw [e]; exact Imps.refl _) ?_
        exact fun a w h => ⟨(), h.weakP (by (repeat' (first | exact True.intro | exact Imp.refl _ | refine ⟨?_, ?_⟩))) (by first | (unfold auR; (repeat (first | exact Sub.refl _ | refine Sub.pick (by first | exact p0 | exact pS p0 | exact pS (pS p0) | exact pS (pS (pS p0)) | exact pS (pS (pS (pS p0))) | exact pS (pS (pS (pS (pS p0))))) ?_))) | (repeat (first | exact Sub.refl _ | refine Sub.pick (by first | exact p0 | exact pS p0 | exact pS (pS p0) | exact pS (pS (pS p0)) | exact pS (pS (pS (pS p0))) | exact pS (pS (pS (pS (pS p0))))) ?_)))⟩
      · have h3n : ¬ many > 1 := of_dec' h3
        have e : (msgA A q key body many k).cells = [.v (.int .i64 A.pub), .v (.int .i64 (s0 + 1 + k)), .v (.string key), .v (.string body), .v (.bool false)] := by rw [msgA, bodyA, if_neg h3n, ← hs0]; rfl
        refine blkAs 47 (msgA A q key body many k).cells rfl (by rw [e]; exact Imps.refl _) ?_
        exact fun a w h => ⟨(), h.weakP (by (repeat' (first | exact True.intro | exact Imp.refl _ | refine ⟨?_, ?_⟩))) (by first | (unfold auR; (repeat (first | exact Sub.refl _ | refine Sub.pick (by first | exact p0 | exact pS p0 | exact pS (pS p0) | exact pS (pS (pS p0)) | exact pS (pS (pS (pS p0))) | exact pS (pS (pS (pS (pS p0))))) ?_))) | (repeat (first | exact Sub.refl _ | refine Sub.pick (by first | exact p0 | exact pS p0 | exact pS (pS p0) | exact pS (pS (pS p0)) | exact pS (pS (pS (pS p0))) | exact pS (pS (pS (pS (pS p0))))) ?_)))⟩
    rintro ⟨⟩
    try dsimp only
    unfold auR
    ((repeat refine S.seq ?_); refine S.region (L.go (T := tt) tt_ok rfl rfl ?sd140 ?_); (try (case sd140 => (repeat' ((first | first | exact trivial | exact zA | with_reducible refine zI ?_ ?_ | exact zB | exact zC | exact zD | exact zE | rfl | exact zN rfl | omega | assumption | (simp; done) | (simp [splice]; done) | (simp; omega) | (unfold fits; omega) | (unfold fits; simp_all; omega) | (simp_all; omega) | (simp_all; done) | intro _ | exact zI ?_ ?_ | intro _))))); try (refine L.nil ?_))
    refine L.buildSlice (T := tt) 64 tt_ok rfl rfl rfl rfl rfl rfl (by decide) (by decide) rfl rfl (by (repeat' ((first | first | exact trivial | exact zA | with_reducible refine zI ?_ ?_ | exact zB | exact zC | exact zD | exact zE | rfl | exact zN rfl | omega | assumption | (simp; done) | (simp [splice]; done) | (simp; omega) | (unfold fits; omega) | (unfold fits; simp_all; omega) | (simp_all; omega) | (simp_all; done) | intro _ | exact zI ?_ ?_ | intro _)))) fun x64 => ?_
    refine L.append (T := tt) tt_ok rfl rfl rfl rfl rfl rfl rfl rfl rfl rfl (by (repeat' ((first | first | exact trivial | exact zA | with_reducible refine zI ?_ ?_ | exact zB | exact zC | exact zD | exact zE | rfl | exact zN rfl | omega | assumption | (simp; done) | (simp [splice]; done) | (simp; omega) | (unfold fits; omega) | (unfold fits; simp_all; omega) | (simp_all; omega) | (simp_all; done) | intro _ | exact zI ?_ ?_ | intro _)))) ⟨rfl, by decide, by decide⟩ (by simp; omega) fun y65 => ?_
    (refine L.go (T := tt) tt_ok rfl rfl ?sd155 ?_; (try (case sd155 => (repeat' ((first | first | exact trivial | exact zA | with_reducible refine zI ?_ ?_ | exact zB | exact zC | exact zD | exact zE | rfl | exact zN rfl | omega | assumption | (simp; done) | (simp [splice]; done) | (simp; omega) | (unfold fits; omega) | (unfold fits; simp_all; omega) | (simp_all; omega) | (simp_all; done) | intro _ | exact zI ?_ ?_ | intro _))))); try (refine L.nil ?_))
    refine ownAs 44 (gOf Msg.cells (msgsA A q key body many (k + 1))) rfl (show (msgsA A q key body many k).length + 1 = (msgsA A q key body many (k + 1)).length by rw [msgsA_succ]; simp) (fun i hi => ?_) ?_
    · rw [msgsA_succ]
      exact app1_h Msg.cells (msgsA A q key body many k) _ _ rfl rfl hi
    ((repeat refine S.seq ?_); refine S.region (L.go (T := tt) tt_ok rfl rfl ?sd141 ?_); (try (case sd141 => (repeat' ((first | first | exact trivial | exact zA | with_reducible refine zI ?_ ?_ | exact zB | exact zC | exact zD | exact zE | rfl | exact zN rfl | omega | assumption | (simp; done) | (simp [splice]; done) | (simp; omega) | (unfold fits; omega) | (unfold fits; simp_all; omega) | (simp_all; omega) | (simp_all; done) | intro _ | exact zI ?_ ?_ | intro _))))); try (refine L.nil ?_))
    refine L.callP rfl rfl rfl rfl rfl rfl rfl ⟨trivial, by (repeat' ((first | first | exact trivial | exact zA | with_reducible refine zI ?_ ?_ | exact zB | exact zC | exact zD | exact zE | rfl | exact zN rfl | omega | assumption | (simp; done) | (simp [splice]; done) | (simp; omega) | (unfold fits; omega) | (unfold fits; simp_all; omega) | (simp_all; omega) | (simp_all; done) | intro _ | exact zI ?_ ?_ | intro _)))⟩ rfl (Imps.refl _) (mayMsg_p (msgA A q key body many k)) ?_
    (refine L.go (T := tt) tt_ok rfl rfl ?sd156 ?_; (try (case sd156 => (repeat' ((first | first | exact trivial | exact zA | with_reducible refine zI ?_ ?_ | exact zB | exact zC | exact zD | exact zE | rfl | exact zN rfl | omega | assumption | (simp; done) | (simp [splice]; done) | (simp; omega) | (unfold fits; omega) | (unfold fits; simp_all; omega) | (simp_all; omega) | (simp_all; done) | intro _ | exact zI ?_ ?_ | intro _))))); try (refine L.nil ?_))
    ((repeat refine S.seq ?_); refine S.cond rfl (fun h4 => ?_) (fun h4 => ?_) <;> (try first | refine S.skip ?_ | refine S.exit ?_))
    · have e : pubE A q key body many = 1 := by
        have h4n : mayMsg (msgA A q key body many k) = false := by simpa using h4
        rw [pubE, ha, if_neg (by decide), if_pos]
        rw [List.all_eq_false]
        exact ⟨k, List.mem_range.2 h2n, by simp [h4n]⟩
      have e2 : pubS A q key body many = A := by rw [pubS, if_neg (by omega)]
      ((repeat refine S.seq ?_); refine S.region (L.go (T := tt) tt_ok rfl rfl ?sd142 ?_); (try (case sd142 => (repeat' ((first | first | exact trivial | exact zA | with_reducible refine zI ?_ ?_ | exact zB | exact zC | exact zD | exact zE | rfl | exact zN rfl | omega | assumption | (simp; done) | (simp [splice]; done) | (simp; omega) | (unfold fits; omega) | (unfold fits; simp_all; omega) | (simp_all; omega) | (simp_all; done) | intro _ | exact zI ?_ ?_ | intro _))))); try (refine L.nil ?_))
      ((repeat refine S.seq ?_); refine S.ret ?_)
      rw [e, e2]
      exact E.ret (T := tt) tt_ok rfl rfl (by (repeat' ((first | first | exact trivial | exact zA | with_reducible refine zI ?_ ?_ | exact zB | exact zC | exact zD | exact zE | rfl | exact zN rfl | omega | assumption | (simp; done) | (simp [splice]; done) | (simp; omega) | (unfold fits; omega) | (unfold fits; simp_all; omega) | (simp_all; omega) | (simp_all; done) | intro _ | exact zI ?_ ?_ | intro _)))) (F' := auR b mb x A) (Imp.refl _) (by unfold auR; (repeat (first | exact List.nil_sublist _ | refine List.Sublist.cons_cons _ ?_ | refine List.Sublist.cons _ ?_))) ⟨x, rfl, rfl⟩
    have h4n : mayMsg (msgA A q key body many k) = true := by simpa using h4
    ((repeat refine S.seq ?_); refine S.region (L.go (T := tt) tt_ok rfl rfl ?sd143 ?_); (try (case sd143 => (repeat' ((first | first | exact trivial | exact zA | with_reducible refine zI ?_ ?_ | exact zB | exact zC | exact zD | exact zE | rfl | exact zN rfl | omega | assumption | (simp; done) | (simp [splice]; done) | (simp; omega) | (unfold fits; omega) | (unfold fits; simp_all; omega) | (simp_all; omega) | (simp_all; done) | intro _ | exact zI ?_ ?_ | intro _))))); try (refine L.nil ?_))
    exact fun a w h => ⟨⟨(k + 1, y65), by show k + 1 ≤ _; omega, upto_succ ik h4n⟩, by show many.toNat - (k + 1) < many.toNat - k; omega, h.weakP (by (repeat' (first | exact True.intro | exact Imp.refl _ | refine ⟨?_, ?_⟩))) (by first | (unfold auR; (repeat (first | exact Sub.refl _ | refine Sub.pick (by first | exact p0 | exact pS p0 | exact pS (pS p0) | exact pS (pS (pS p0)) | exact pS (pS (pS (pS p0))) | exact pS (pS (pS (pS (pS p0))))) ?_))) | (repeat (first | exact Sub.refl _ | refine Sub.pick (by first | exact p0 | exact pS p0 | exact pS (pS p0) | exact pS (pS (pS p0)) | exact pS (pS (pS (pS p0))) | exact pS (pS (pS (pS (pS p0))))) ?_)))⟩
  have h2n : k = many.toNat := by have := of_dec' h2; omega
  subst h2n
  have hall : (List.range many.toNat).all (fun i => mayMsg (msgA A q key body many i)) = true := List.all_eq_true.2 fun j hj => ik j (List.mem_range.1 hj)
  ((repeat refine S.seq ?_); refine S.region (L.go (T := tt) tt_ok rfl rfl ?sd144 ?_); (try (case sd144 => (repeat' ((first | first | exact trivial | exact zA | with_reducible refine zI ?_ ?_ | exact zB | exact zC | exact zD | exact zE | rfl | exact zN rfl | omega | assumption | (simp; done) | (simp [splice]; done) | (simp; omega) | (unfold fits; omega) | (unfold fits; simp_all; omega) | (simp_all; omega) | (simp_all; done) | intro _ | exact zI ?_ ?_ | intro _))))); try (refine L.nil ?_))
  ((repeat refine S.seq ?_); refine S.cond rfl (fun h5 => ?_) (fun h5 => ?_) <;> (try first | refine S.skip ?_ | refine S.exit ?_))
  · have e : pubE A q key body many = 4 := by
      rw [pubE, ha, if_neg (by decide), hall, if_neg (by decide), if_pos (of_dec h5)]
    have e2 : pubS A q key body many = A := by rw [pubS, if_neg (by omega)]
    ((repeat refine S.seq ?_); refine S.region (L.go (T := tt) tt_ok rfl rfl ?sd145 ?_); (try (case sd145 => (repeat' ((first | first | exact trivial | exact zA | with_reducible refine zI ?_ ?_ | exact zB | exact zC | exact zD | exact zE | rfl | exact zN rfl | omega | assumption | (simp; done) | (simp [splice]; done) | (simp; omega) | (unfold fits; omega) | (unfold fits; simp_all; omega) | (simp_all; omega) | (simp_all; done) | intro _ | exact zI ?_ ?_ | intro _))))); try (refine L.nil ?_))
    ((repeat refine S.seq ?_); refine S.ret ?_)
    rw [e, e2]
    exact E.ret (T := tt) tt_ok rfl rfl (by (repeat' ((first | first | exact trivial | exact zA | with_reducible refine zI ?_ ?_ | exact zB | exact zC | exact zD | exact zE | rfl | exact zN rfl | omega | assumption | (simp; done) | (simp [splice]; done) | (simp; omega) | (unfold fits; omega) | (unfold fits; simp_all; omega) | (simp_all; omega) | (simp_all; done) | intro _ | exact zI ?_ ?_ | intro _)))) (F' := auR b mb x A) (Imp.refl _) (by unfold auR; (repeat (first | exact List.nil_sublist _ | refine List.Sublist.cons_cons _ ?_ | refine List.Sublist.cons _ ?_))) ⟨x, rfl, rfl⟩
  have e : pubE A q key body many = 0 := by
    rw [pubE, ha, if_neg (by decide), hall, if_neg (by decide), if_neg (of_dec' h5)]
  repeat refine S.seq ?_
  refine S.region ?_
  (refine L.go (T := tt) tt_ok rfl rfl ?sd157 ?_; (try (case sd157 => (repeat' ((first | first | exact trivial | exact zA | with_reducible refine zI ?_ ?_ | exact zB | exact zC | exact zD | exact zE | rfl | exact zN rfl | omega | assumption | (simp; done) | (simp [splice]; done) | (simp; omega) | (unfold fits; omega) | (unfold fits; simp_all; omega) | (simp_all; omega) | (simp_all; done) | intro _ | exact zI ?_ ?_ | intro _))))); try (refine L.nil ?_))
  refine L.mapSet (T := tt) tt_ok KeyAut.kName rfl rfl rfl rfl rfl rfl rfl rfl (by (repeat' ((first | first | exact trivial | exact zA | with_reducible refine zI ?_ ?_ | exact zB | exact zC | exact zD | exact zE | rfl | exact zN rfl | omega | assumption | (simp; done) | (simp [splice]; done) | (simp; omega) | (unfold fits; omega) | (unfold fits; simp_all; omega) | (simp_all; omega) | (simp_all; done) | intro _ | exact zI ?_ ?_ | intro _)))) rfl rfl hkey (L.nil ?_)
  refine freezeSlot 13 44 rfl rfl rfl ?_
  ((repeat refine S.seq ?_); refine S.region (L.go (T := tt) tt_ok rfl rfl ?sd146 ?_); (try (case sd146 => (repeat' ((first | first | exact trivial | exact zA | with_reducible refine zI ?_ ?_ | exact zB | exact zC | exact zD | exact zE | rfl | exact zN rfl | omega | assumption | (simp; done) | (simp [splice]; done) | (simp; omega) | (unfold fits; omega) | (unfold fits; simp_all; omega) | (simp_all; omega) | (simp_all; done) | intro _ | exact zI ?_ ?_ | intro _))))); try (refine L.nil ?_))
  refine L.buildSlice (T := tt) 95 tt_ok rfl rfl rfl rfl rfl rfl (by decide) (by decide) rfl rfl (by (repeat' ((first | first | exact trivial | exact zA | with_reducible refine zI ?_ ?_ | exact zB | exact zC | exact zD | exact zE | rfl | exact zN rfl | omega | assumption | (simp; done) | (simp [splice]; done) | (simp; omega) | (unfold fits; omega) | (unfold fits; simp_all; omega) | (simp_all; omega) | (simp_all; done) | intro _ | exact zI ?_ ?_ | intro _)))) fun x95 => ?_
  refine L.append (T := tt) tt_ok rfl rfl rfl rfl rfl rfl rfl rfl rfl rfl (by (repeat' ((first | first | exact trivial | exact zA | with_reducible refine zI ?_ ?_ | exact zB | exact zC | exact zD | exact zE | rfl | exact zN rfl | omega | assumption | (simp; done) | (simp [splice]; done) | (simp; omega) | (unfold fits; omega) | (unfold fits; simp_all; omega) | (simp_all; omega) | (simp_all; done) | intro _ | exact zI ?_ ?_ | intro _)))) ⟨rfl, by decide, by decide⟩ (by simp; omega) fun y96 => ?_
  (refine L.go (T := tt) tt_ok rfl rfl ?sd158 ?_; (try (case sd158 => (repeat' ((first | first | exact trivial | exact zA | with_reducible refine zI ?_ ?_ | exact zB | exact zC | exact zD | exact zE | rfl | exact zN rfl | omega | assumption | (simp; done) | (simp [splice]; done) | (simp; omega) | (unfold fits; omega) | (unfold fits; simp_all; omega) | (simp_all; omega) | (simp_all; done) | intro _ | exact zI ?_ ?_ | intro _))))); try (refine L.nil ?_))
  (refine L.store (T := tt) tt_ok rfl rfl rfl rfl rfl rfl ?sd161 ?_; (try (case sd161 => (repeat' ((first | first | exact trivial | exact zA | with_reducible refine zI ?_ ?_ | exact zB | exact zC | exact zD | exact zE | rfl | exact zN rfl | omega | assumption | (simp; done) | (simp [splice]; done) | (simp; omega) | (unfold fits; omega) | (unfold fits; simp_all; omega) | (simp_all; omega) | (simp_all; done) | intro _ | exact zI ?_ ?_ | intro _))))))
  refine L.nil ?_
  refine ownAs 42 (gOf OutD.cells (A.l ++ [(⟨q, msgsA A q key body many many.toNat⟩ : OutD)])) rfl (show A.l.length + 1 = (A.l ++ [(⟨q, msgsA A q key body many many.toNat⟩ : OutD)]).length by simp) (fun i hi => app1_h OutD.cells A.l _ _ rfl rfl hi) ?_
  ((repeat refine S.seq ?_); refine S.region (L.go (T := tt) tt_ok rfl rfl ?sd147 ?_); (try (case sd147 => (repeat' ((first | first | exact trivial | exact zA | with_reducible refine zI ?_ ?_ | exact zB | exact zC | exact zD | exact zE | rfl | exact zN rfl | omega | assumption | (simp; done) | (simp [splice]; done) | (simp; omega) | (unfold fits; omega) | (unfold fits; simp_all; omega) | (simp_all; omega) | (simp_all; done) | intro _ | exact zI ?_ ?_ | intro _))))); try (refine L.nil ?_))
  ((repeat refine S.seq ?_); refine S.ret ?_)
  have e2 : pubS A q key body many = ⟨A.pub, A.seqs ++ [⟨q, key, lastSeq A.seqs q key + many⟩], A.l ++ [⟨q, msgsA A q key body many many.toNat⟩]⟩ := by rw [pubS, if_pos e]
  rw [e, e2, ← hs0]
  refine rowsTo (auR b mb y96 ⟨A.pub, A.seqs ++ [⟨q, key, s0 + many⟩], A.l ++ [⟨q, msgsA A q key body many many.toNat⟩]⟩) ?_ ?_
  · unfold auR
    rw [marksM_app, show markM ⟨q, key, s0 + many⟩ = (nameV q key, .v (.int .i64 (s0 + 1 + many - 1))) by rw [show s0 + 1 + many - 1 = s0 + many by omega]; rfl]
    (repeat (first | exact Sub.refl _ | refine Sub.pick (by first | exact p0 | exact pS p0 | exact pS (pS p0) | exact pS (pS (pS p0)) | exact pS (pS (pS (pS p0))) | exact pS (pS (pS (pS (pS p0))))) ?_))
  exact E.ret (T := tt) tt_ok rfl rfl (by (repeat' ((first | first | exact trivial | exact zA | with_reducible refine zI ?_ ?_ | exact zB | exact zC | exact zD | exact zE | rfl | exact zN rfl | omega | assumption | (simp; done) | (simp [splice]; done) | (simp; omega) | (unfold fits; omega) | (unfold fits; simp_all; omega) | (simp_all; omega) | (simp_all; done) | intro _ | exact zI ?_ ?_ | intro _)))) (Imp.refl _) (List.Sublist.refl _) ⟨y96, rfl, rfl⟩

end Go.Proofs.YtfdneepgpekmiaaDoor

/- An author: which batches are to be sent now. -/
namespace Go.Proofs.YtfdneepgpekmiaaDoor
set_option linter.unusedVariables false
set_option linter.unusedSimpArgs false
set_option maxHeartbeats 8000000
open Go.RowKit
set_option maxRecDepth 4000

def OutD.key0 (o : OutD) : ByteArray := (o.l.getD 0 default).key
def sameB (l : List OutD) (i j : Nat) : Bool := (l.getD i default).queue == (l.getD j default).queue && (l.getD i default).key0 == (l.getD j default).key0
def firstB (l : List OutD) (i : Nat) : Bool := (List.range i).all fun j => !sameB l j i
def plcL (l : List OutD) (k : Nat) : List Nat := (List.range k).filter (firstB l)
def plcI (l : List OutD) (k : Nat) : List Int := (plcL l k).map fun i : Nat => (i : Int)
def seenM (l : List OutD) (k : Nat) : List (Value × AV) := ((plcL l k).map fun i => (nameV (l.getD i default).queue (l.getD i default).key0, AV.v (.bool true))).reverse
def seenB (l : List OutD) (k i : Nat) : Bool := (List.range k).any fun j => sameB l j i
theorem plcL_succ (l : List OutD) (k : Nat) : plcL l (k + 1) = plcL l k ++ if firstB l k then [k] else [] := by
  unfold plcL
  rw [List.range_succ, List.filter_append, List.filter_cons, List.filter_nil]
theorem plcL_len (l : List OutD) (k : Nat) : (plcL l k).length ≤ k := by
  unfold plcL
  exact Nat.le_trans (List.length_filter_le _ _) (by rw [List.length_range]; exact Nat.le_refl _)
theorem plcI_succ (l : List OutD) (k : Nat) : plcI l (k + 1) = plcI l k ++ if firstB l k then [(k : Int)] else [] := by
  unfold plcI
  rw [plcL_succ, List.map_append]
  congr 1
  split <;> rfl
theorem seenM_succ (l : List OutD) (k : Nat) : seenM l (k + 1) = if firstB l k then (nameV (l.getD k default).queue (l.getD k default).key0, AV.v (.bool true)) :: seenM l k else seenM l k := by
  unfold seenM
  rw [plcL_succ]
  split <;> simp
theorem sameB_iff {l : List OutD} {i j : Nat} : sameB l i j = true ↔ nameV (l.getD i default).queue (l.getD i default).key0 = nameV (l.getD j default).queue (l.getD j default).key0 := by
  unfold sameB
  rw [Bool.and_eq_true, beq_iff_eq, beq_iff_eq, nameV_inj]
theorem seen_first {l : List OutD} {i : Nat} (hi : i = i) : (!seenB l i i) = firstB l i := by
  unfold seenB firstB
  rw [Bool.eq_iff_iff]
  simp
/-- The first of those of a name is a place. -/
theorem firstB_of {l : List OutD} {k i : Nat} (h : seenB l k i = true) : ∃ j ∈ plcL l k, sameB l j i = true := by
  unfold seenB at h
  rw [List.any_eq_true] at h
  obtain ⟨j, hj, hs⟩ := h
  rw [List.mem_range] at hj
  induction j using Nat.strongRecOn with
  | ind j ih =>
    cases hf : firstB l j with
    | true => exact ⟨j, List.mem_filter.2 ⟨List.mem_range.2 hj, hf⟩, hs⟩
    | false =>
      unfold firstB at hf
      rw [List.all_eq_false] at hf
      obtain ⟨m, hm, hm2⟩ := hf
      rw [List.mem_range] at hm
      have hm3 : sameB l m j = true := by simpa using hm2
      exact ih m hm (by omega) (sameB_iff.2 ((sameB_iff.1 hm3).trans (sameB_iff.1 hs)))
theorem look_seen (l : List OutD) (k i : Nat) : mlook (seenM l k) (nameV (l.getD i default).queue (l.getD i default).key0) (.bool false) = .v (.bool (seenB l k i)) := by
  have key : ∀ (r : List Nat), mget (r.map fun j => (nameV (l.getD j default).queue (l.getD j default).key0, AV.v (.bool true))) (nameV (l.getD i default).queue (l.getD i default).key0) = if r.any (fun j => sameB l j i) then some (.v (.bool true)) else none := by
    intro r
    induction r with
    | nil => rfl
    | cons j r ih =>
      rw [List.map_cons, List.any_cons]
      cases hs : sameB l j i with
      | true =>
        rw [sameB_iff.1 hs, mget_cons_same]
        rfl
      | false =>
        have hne : nameV (l.getD j default).queue (l.getD j default).key0 ≠ nameV (l.getD i default).queue (l.getD i default).key0 := fun e => by
          rw [sameB_iff.2 e] at hs
          cases hs
        rw [mget_cons_other _ _ hne, ih]
        rfl
  unfold mlook seenM
  rw [← List.map_reverse, key]
  cases hb : seenB l k i with
  | true =>
    obtain ⟨j, hj, hs⟩ := firstB_of hb
    rw [if_pos (List.any_eq_true.2 ⟨j, List.mem_reverse.2 hj, hs⟩)]
    rfl
  | false =>
    have : ((plcL l k).reverse.any fun j => sameB l j i) = false := by
      rw [List.any_eq_false]
      intro j hj
      have hj2 := List.mem_filter.1 (List.mem_reverse.1 hj)
      unfold seenB at hb
      rw [List.any_eq_false] at hb
      exact hb j hj2.1
    rw [this]
    rfl

theorem places_p (b mb : Nat) (x : Value) (A : AuD) (ok : AuOk A) : FnC Tryd.prog 45 [.ptr 40 b 0] (auR b mb x A)
    (fun r F' => ∃ y, r = .ref 43 y ∧ F' = (43, .own y 3 1 (plcI A.l A.l.length).length (gOf intC (plcI A.l A.l.length))) :: auR b mb x A) := by
  have hlen := ok.len
  unfold auR
  refine FnC.intro Tryd.func45 rfl Tryd.ntmps45 rfl ?_; intro off w0
  ((repeat refine S.seq ?_); refine S.region (L.go (T := tt) tt_ok rfl rfl ?sd162 ?_); (try (case sd162 => (repeat' ((first | first | exact trivial | exact zA | with_reducible refine zI ?_ ?_ | exact zB | exact zC | exact zD | exact zE | rfl | exact zN rfl | omega | assumption | (simp; done) | (simp [splice]; done) | (simp; omega) | (unfold fits; omega) | (unfold fits; simp_all; omega) | (simp_all; omega) | (simp_all; done) | intro _ | exact zI ?_ ?_ | intro _))))); try (refine L.nil ?_))
  repeat refine S.seq ?_
  refine S.scopeE 0 (ι := { k : Nat × Value × Nat // k.1 ≤ A.l.length }) (fun k => [(0, .ptr 40 b 0), (3, .ref 43 k.1.2.1), (4, .ref 45 (.map (some k.1.2.2))), (5, .v (.int .i64 k.1.1))])
    (fun k => (43, .own k.1.2.1 3 1 (plcI A.l k.1.1).length (gOf intC (plcI A.l k.1.1))) :: (45, .map k.1.2.2 (kOf Tryd.prog 83) (seenM A.l k.1.1)) :: auR b mb x A) (fun k => A.l.length - k.1.1) rfl ?_ ?_
  · rintro ⟨⟨k, y, sb⟩, hk⟩ J hJ
    dsimp only at hk hJ ⊢
    have hpl := plcL_len A.l k
    have hpi : (plcI A.l k).length = (plcL A.l k).length := by simp [plcI]
    unfold auR
    ((repeat refine S.seq ?_); refine S.region (L.go (T := tt) tt_ok rfl rfl ?sd163 ?_); (try (case sd163 => (repeat' ((first | first | exact trivial | exact zA | with_reducible refine zI ?_ ?_ | exact zB | exact zC | exact zD | exact zE | rfl | exact zN rfl | omega | assumption | (simp; done) | (simp [splice]; done) | (simp; omega) | (unfold fits; omega) | (unfold fits; simp_all; omega) | (simp_all; omega) | (simp_all; done) | intro _ | exact zI ?_ ?_ | intro _))))); try (refine L.nil ?_))
    ((repeat refine S.seq ?_); refine S.cond rfl (fun h1 => ?_) (fun h1 => ?_) <;> (try first | refine S.skip ?_ | refine S.exit ?_))
    · have h1n : k < A.l.length := by have := of_dec h1; omega
      obtain ⟨o1, o2, o3, o4⟩ := ok.some1 (A.l.getD k default) (by rw [getD_get h1n]; exact List.getElem_mem _)
      have hkey : kOf Tryd.prog 83 (nameV (A.l.getD k default).queue (A.l.getD k default).key0) = true := KeyAut.kName_ok o3 (by
        rw [OutD.key0, getD_get o1]
        exact o4 _ (List.getElem_mem _))
      repeat refine S.seq ?_
      refine S.draw [(3, [40]), (7, [42]), (11, [40]), (15, [42])] mixed ?_
      (refine H.ts (T := tt) [0, 1, 2, 3, 4, 5, 6, 7, 8, 9, 10, 11, 12, 13, 14, 15, 16, 17, 18, 19] tt_ok (by kernel_rfl) (by kernel_rfl) (by kernel_rfl) (by intro ch a a' w h; obtain ⟨_, _, _, _, _, h, _⟩ := h; cases h) rfl ?sd174 ?_; (try (case sd174 => (repeat' ((first | first | exact trivial | exact zA | with_reducible refine zI ?_ ?_ | exact zB | exact zC | exact zD | exact zE | rfl | exact zN rfl | omega | assumption | (simp; done) | (simp [splice]; done) | (simp; omega) | (unfold fits; omega) | (unfold fits; simp_all; omega) | (simp_all; omega) | (simp_all; done) | intro _ | exact zI ?_ ?_ | intro _))))))
      refine H.o1 20 rfl (by kernel_rfl) (by kernel_rfl) (O.alloc (T := tt) 46 tt_ok rfl rfl rfl rfl rfl) (.inr rfl) rfl fun b6 => ?_
      (refine H.store (T := tt) 21 rfl (by kernel_rfl) (by kernel_rfl) tt_ok rfl rfl rfl rfl rfl rfl ?sd175 rfl (by kernel_rfl) ?_; (try (case sd175 => (repeat' ((first | first | exact trivial | exact zA | with_reducible refine zI ?_ ?_ | exact zB | exact zC | exact zD | exact zE | rfl | exact zN rfl | omega | assumption | (simp; done) | (simp [splice]; done) | (simp; omega) | (unfold fits; omega) | (unfold fits; simp_all; omega) | (simp_all; omega) | (simp_all; done) | intro _ | exact zI ?_ ?_ | intro _))))))
      refine H.done (by kernel_rfl) ?_
      repeat refine S.seq ?_
      refine S.region ?_
      (refine L.go (T := tt) tt_ok rfl rfl ?sd169 ?_; (try (case sd169 => (repeat' ((first | first | exact trivial | exact zA | with_reducible refine zI ?_ ?_ | exact zB | exact zC | exact zD | exact zE | rfl | exact zN rfl | omega | assumption | (simp; done) | (simp [splice]; done) | (simp; omega) | (unfold fits; omega) | (unfold fits; simp_all; omega) | (simp_all; omega) | (simp_all; done) | intro _ | exact zI ?_ ?_ | intro _))))); try (refine L.nil ?_))
      refine L.sure (rd := [45]) (A := .v (.bool (seenB A.l k k))) (look_sure (T := tt) tt_ok KeyAut.kName rfl rfl (by kernel_rfl) rfl rfl rfl (by (repeat' ((first | first | exact trivial | exact zA | with_reducible refine zI ?_ ?_ | exact zB | exact zC | exact zD | exact zE | rfl | exact zN rfl | omega | assumption | (simp; done) | (simp [splice]; done) | (simp; omega) | (unfold fits; omega) | (unfold fits; simp_all; omega) | (simp_all; omega) | (simp_all; done) | intro _ | exact zI ?_ ?_ | intro _)))) rfl (fun _ _ => rfl) rfl hkey (look_seen A.l k k)) rfl rfl rfl ?_
      (refine L.go (T := tt) tt_ok rfl rfl ?sd170 ?_; (try (case sd170 => (repeat' ((first | first | exact trivial | exact zA | with_reducible refine zI ?_ ?_ | exact zB | exact zC | exact zD | exact zE | rfl | exact zN rfl | omega | assumption | (simp; done) | (simp [splice]; done) | (simp; omega) | (unfold fits; omega) | (unfold fits; simp_all; omega) | (simp_all; omega) | (simp_all; done) | intro _ | exact zI ?_ ?_ | intro _))))); try (refine L.nil ?_))
      have hsf := seen_first (l := A.l) (i := k) rfl
      rw [hsf]
      refine S.cut (ι := Value) (fun y => [(0, .ptr 40 b 0), (3, .ref 43 y), (4, .ref 45 (.map (some sb))), (5, .v (.int .i64 k))])
        (fun y => (43, .own y 3 1 (plcI A.l (k + 1)).length (gOf intC (plcI A.l (k + 1)))) :: (45, .map sb (kOf Tryd.prog 83) (seenM A.l (k + 1))) :: auR b mb x A) ?_ ?_
      · ((repeat refine S.seq ?_); refine S.cond rfl (fun h2 => ?_) (fun h2 => ?_) <;> (try first | refine S.skip ?_ | refine S.exit ?_))
        · have hs := seenM_succ A.l k
          rw [if_pos h2] at hs
          have hp := plcI_succ A.l k
          rw [if_pos h2] at hp
          repeat refine S.seq ?_
          refine S.region ?_
          (refine L.go (T := tt) tt_ok rfl rfl ?sd171 ?_; (try (case sd171 => (repeat' ((first | first | exact trivial | exact zA | with_reducible refine zI ?_ ?_ | exact zB | exact zC | exact zD | exact zE | rfl | exact zN rfl | omega | assumption | (simp; done) | (simp [splice]; done) | (simp; omega) | (unfold fits; omega) | (unfold fits; simp_all; omega) | (simp_all; omega) | (simp_all; done) | intro _ | exact zI ?_ ?_ | intro _))))); try (refine L.nil ?_))
          refine L.mapSet (T := tt) tt_ok KeyAut.kName rfl rfl rfl rfl rfl rfl rfl rfl (by (repeat' ((first | first | exact trivial | exact zA | with_reducible refine zI ?_ ?_ | exact zB | exact zC | exact zD | exact zE | rfl | exact zN rfl | omega | assumption | (simp; done) | (simp [splice]; done) | (simp; omega) | (unfold fits; omega) | (unfold fits; simp_all; omega) | (simp_all; omega) | (simp_all; done) | intro _ | exact zI ?_ ?_ | intro _)))) rfl rfl hkey (L.nil ?_)
          ((repeat refine S.seq ?_); refine S.region (L.go (T := tt) tt_ok rfl rfl ?sd164 ?_); (try (case sd164 => (repeat' ((first | first | exact trivial | exact zA | with_reducible refine zI ?_ ?_ | exact zB | exact zC | exact zD | exact zE | rfl | exact zN rfl | omega | assumption | (simp; done) | (simp [splice]; done) | (simp; omega) | (unfold fits; omega) | (unfold fits; simp_all; omega) | (simp_all; omega) | (simp_all; done) | intro _ | exact zI ?_ ?_ | intro _))))); try (refine L.nil ?_))
          refine L.buildSlice (T := tt) 48 tt_ok rfl rfl rfl rfl rfl rfl (by decide) (by decide) rfl rfl (by (repeat' ((first | first | exact trivial | exact zA | with_reducible refine zI ?_ ?_ | exact zB | exact zC | exact zD | exact zE | rfl | exact zN rfl | omega | assumption | (simp; done) | (simp [splice]; done) | (simp; omega) | (unfold fits; omega) | (unfold fits; simp_all; omega) | (simp_all; omega) | (simp_all; done) | intro _ | exact zI ?_ ?_ | intro _)))) fun x43 => ?_
          refine L.append (T := tt) tt_ok rfl rfl rfl rfl rfl rfl rfl rfl rfl rfl (by (repeat' ((first | first | exact trivial | exact zA | with_reducible refine zI ?_ ?_ | exact zB | exact zC | exact zD | exact zE | rfl | exact zN rfl | omega | assumption | (simp; done) | (simp [splice]; done) | (simp; omega) | (unfold fits; omega) | (unfold fits; simp_all; omega) | (simp_all; omega) | (simp_all; done) | intro _ | exact zI ?_ ?_ | intro _)))) ⟨rfl, by decide, by decide⟩ (by simp; omega) fun y44 => ?_
          (refine L.go (T := tt) tt_ok rfl rfl ?sd172 ?_; (try (case sd172 => (repeat' ((first | first | exact trivial | exact zA | with_reducible refine zI ?_ ?_ | exact zB | exact zC | exact zD | exact zE | rfl | exact zN rfl | omega | assumption | (simp; done) | (simp [splice]; done) | (simp; omega) | (unfold fits; omega) | (unfold fits; simp_all; omega) | (simp_all; omega) | (simp_all; done) | intro _ | exact zI ?_ ?_ | intro _))))); try (refine L.nil ?_))
          refine ownAs 43 (gOf intC (plcI A.l (k + 1))) rfl (show (plcI A.l k).length + 1 = (plcI A.l (k + 1)).length by rw [hp]; simp) (fun i hi => ?_) ?_
          · rw [hp]
            exact app1_h intC (plcI A.l k) _ _ rfl rfl hi
          refine fun a w h => ⟨y44, ?_⟩
          try dsimp only
          rw [hs]
          exact h.weakP (by (repeat' (first | exact True.intro | exact Imp.refl _ | refine ⟨?_, ?_⟩))) (by first | (unfold auR; (repeat (first | exact Sub.refl _ | refine Sub.pick (by first | exact p0 | exact pS p0 | exact pS (pS p0) | exact pS (pS (pS p0)) | exact pS (pS (pS (pS p0))) | exact pS (pS (pS (pS (pS p0))))) ?_))) | (repeat (first | exact Sub.refl _ | refine Sub.pick (by first | exact p0 | exact pS p0 | exact pS (pS p0) | exact pS (pS (pS p0)) | exact pS (pS (pS (pS p0))) | exact pS (pS (pS (pS (pS p0))))) ?_)))
        · have hs := seenM_succ A.l k
          rw [if_neg (by rw [h2]; decide)] at hs
          have hp := plcI_succ A.l k
          rw [if_neg (by rw [h2]; decide), List.append_nil] at hp
          refine fun a w h => ⟨y, ?_⟩
          try dsimp only
          rw [hs, hp]
          exact h.weakP (by (repeat' (first | exact True.intro | exact Imp.refl _ | refine ⟨?_, ?_⟩))) (by first | (unfold auR; (repeat (first | exact Sub.refl _ | refine Sub.pick (by first | exact p0 | exact pS p0 | exact pS (pS p0) | exact pS (pS (pS p0)) | exact pS (pS (pS (pS p0))) | exact pS (pS (pS (pS (pS p0))))) ?_))) | (repeat (first | exact Sub.refl _ | refine Sub.pick (by first | exact p0 | exact pS p0 | exact pS (pS p0) | exact pS (pS (pS p0)) | exact pS (pS (pS (pS p0))) | exact pS (pS (pS (pS (pS p0))))) ?_)))
      intro y
      try dsimp only
      unfold auR
      ((repeat refine S.seq ?_); refine S.region (L.go (T := tt) tt_ok rfl rfl ?sd165 ?_); (try (case sd165 => (repeat' ((first | first | exact trivial | exact zA | with_reducible refine zI ?_ ?_ | exact zB | exact zC | exact zD | exact zE | rfl | exact zN rfl | omega | assumption | (simp; done) | (simp [splice]; done) | (simp; omega) | (unfold fits; omega) | (unfold fits; simp_all; omega) | (simp_all; omega) | (simp_all; done) | intro _ | exact zI ?_ ?_ | intro _))))); try (refine L.nil ?_))
      repeat refine S.seq ?_
      refine S.goto ?_
      exact fun a w hR => ⟨rfl, hJ a w ⟨(k + 1, y, sb), by show k + 1 ≤ _; omega⟩ (by show A.l.length - (k + 1) < A.l.length - k; omega) (hR.weakP (by (repeat' (first | exact True.intro | exact Imp.refl _ | refine ⟨?_, ?_⟩))) (by first | (unfold auR; (repeat (first | exact Sub.refl _ | refine Sub.pick (by first | exact p0 | exact pS p0 | exact pS (pS p0) | exact pS (pS (pS p0)) | exact pS (pS (pS (pS p0))) | exact pS (pS (pS (pS (pS p0))))) ?_))) | (repeat (first | exact Sub.refl _ | refine Sub.pick (by first | exact p0 | exact pS p0 | exact pS (pS p0) | exact pS (pS (pS p0)) | exact pS (pS (pS (pS p0))) | exact pS (pS (pS (pS (pS p0))))) ?_))))⟩
    have h1n : k = A.l.length := by have := of_dec' h1; omega
    subst h1n
    ((repeat refine S.seq ?_); refine S.region (L.go (T := tt) tt_ok rfl rfl ?sd166 ?_); (try (case sd166 => (repeat' ((first | first | exact trivial | exact zA | with_reducible refine zI ?_ ?_ | exact zB | exact zC | exact zD | exact zE | rfl | exact zN rfl | omega | assumption | (simp; done) | (simp [splice]; done) | (simp; omega) | (unfold fits; omega) | (unfold fits; simp_all; omega) | (simp_all; omega) | (simp_all; done) | intro _ | exact zI ?_ ?_ | intro _))))); try (refine L.nil ?_))
    refine rowsTo ((43, .own y 3 1 (plcI A.l A.l.length).length (gOf intC (plcI A.l A.l.length))) :: auR b mb x A) (by first | (unfold auR; (repeat (first | exact Sub.refl _ | refine Sub.pick (by first | exact p0 | exact pS p0 | exact pS (pS p0) | exact pS (pS (pS p0)) | exact pS (pS (pS (pS p0))) | exact pS (pS (pS (pS (pS p0))))) ?_))) | (repeat (first | exact Sub.refl _ | refine Sub.pick (by first | exact p0 | exact pS p0 | exact pS (pS p0) | exact pS (pS (pS p0)) | exact pS (pS (pS (pS p0))) | exact pS (pS (pS (pS (pS p0))))) ?_))) ?_
    ((repeat refine S.seq ?_); refine S.ret ?_)
    exact E.ret (T := tt) tt_ok rfl rfl (by (repeat' ((first | first | exact trivial | exact zA | with_reducible refine zI ?_ ?_ | exact zB | exact zC | exact zD | exact zE | rfl | exact zN rfl | omega | assumption | (simp; done) | (simp [splice]; done) | (simp; omega) | (unfold fits; omega) | (unfold fits; simp_all; omega) | (simp_all; omega) | (simp_all; done) | intro _ | exact zI ?_ ?_ | intro _)))) (Imp.refl _) (List.Sublist.refl _) ⟨y, rfl, rfl⟩
  · intro hJ
    ((repeat refine S.seq ?_); refine S.region (L.go (T := tt) tt_ok rfl rfl ?sd167 ?_); (try (case sd167 => (repeat' ((first | first | exact trivial | exact zA | with_reducible refine zI ?_ ?_ | exact zB | exact zC | exact zD | exact zE | rfl | exact zN rfl | omega | assumption | (simp; done) | (simp [splice]; done) | (simp; omega) | (unfold fits; omega) | (unfold fits; simp_all; omega) | (simp_all; omega) | (simp_all; done) | intro _ | exact zI ?_ ?_ | intro _))))); try (refine L.nil ?_))
    repeat refine S.seq ?_
    refine S.region ?_
    refine L.makeMap 45 83 rfl rfl rfl rfl fun sb => ?_
    (refine L.go (T := tt) tt_ok rfl rfl ?sd173 ?_; (try (case sd173 => (repeat' ((first | first | exact trivial | exact zA | with_reducible refine zI ?_ ?_ | exact zB | exact zC | exact zD | exact zE | rfl | exact zN rfl | omega | assumption | (simp; done) | (simp [splice]; done) | (simp; omega) | (unfold fits; omega) | (unfold fits; simp_all; omega) | (simp_all; omega) | (simp_all; done) | intro _ | exact zI ?_ ?_ | intro _))))); try (refine L.nil ?_))
    ((repeat refine S.seq ?_); refine S.region (L.go (T := tt) tt_ok rfl rfl ?sd168 ?_); (try (case sd168 => (repeat' ((first | first | exact trivial | exact zA | with_reducible refine zI ?_ ?_ | exact zB | exact zC | exact zD | exact zE | rfl | exact zN rfl | omega | assumption | (simp; done) | (simp [splice]; done) | (simp; omega) | (unfold fits; omega) | (unfold fits; simp_all; omega) | (simp_all; omega) | (simp_all; done) | intro _ | exact zI ?_ ?_ | intro _))))); try (refine L.nil ?_))
    refine nilRow 43 3 1 (gOf intC (plcI A.l 0)) ?_
    refine slotAs 3 (.ref 43 (.slice none 0 0)) rfl (Imp.vref rfl) ?_
    repeat refine S.seq ?_
    refine S.label ?_
    exact fun a w hR => hJ ⟨(0, .slice none 0 0, sb), Nat.zero_le _⟩ a w (hR.weakP (by (repeat' (first | exact True.intro | exact Imp.refl _ | refine ⟨?_, ?_⟩))) (by first | (unfold auR; (repeat (first | exact Sub.refl _ | refine Sub.pick (by first | exact p0 | exact pS p0 | exact pS (pS p0) | exact pS (pS (pS p0)) | exact pS (pS (pS (pS p0))) | exact pS (pS (pS (pS (pS p0))))) ?_))) | (repeat (first | exact Sub.refl _ | refine Sub.pick (by first | exact p0 | exact pS p0 | exact pS (pS p0) | exact pS (pS (pS p0)) | exact pS (pS (pS (pS p0))) | exact pS (pS (pS (pS (pS p0))))) ?_))))

end Go.Proofs.YtfdneepgpekmiaaDoor

/- An author: what is sent now, what came back. -/
namespace Go.Proofs.YtfdneepgpekmiaaDoor
set_option linter.unusedVariables false
set_option linter.unusedSimpArgs false
set_option maxHeartbeats 8000000
open Go.RowKit
set_option maxRecDepth 4000

theorem alen_p (b mb : Nat) (x : Value) (A : AuD) : FnC Tryd.prog 24 [.ptr 40 b 0] (auR b mb x A) (fun r F' => r = .v (.int .i64 A.l.length) ∧ F' = auR b mb x A) := by
  unfold auR
  refine FnC.intro Tryd.func24 rfl Tryd.ntmps24 rfl ?_; intro off w0
  ((repeat refine S.seq ?_); refine S.region (L.go (T := tt) tt_ok rfl rfl ?sd176 ?_); (try (case sd176 => (repeat' ((first | first | exact trivial | exact zA | with_reducible refine zI ?_ ?_ | exact zB | exact zC | exact zD | exact zE | rfl | exact zN rfl | omega | assumption | (simp; done) | (simp [splice]; done) | (simp; omega) | (unfold fits; omega) | (unfold fits; simp_all; omega) | (simp_all; omega) | (simp_all; done) | intro _ | exact zI ?_ ?_ | intro _))))); try (refine L.nil ?_))
  ((repeat refine S.seq ?_); refine S.region (L.go (T := tt) tt_ok rfl rfl ?sd177 ?_); (try (case sd177 => (repeat' ((first | first | exact trivial | exact zA | with_reducible refine zI ?_ ?_ | exact zB | exact zC | exact zD | exact zE | rfl | exact zN rfl | omega | assumption | (simp; done) | (simp [splice]; done) | (simp; omega) | (unfold fits; omega) | (unfold fits; simp_all; omega) | (simp_all; omega) | (simp_all; done) | intro _ | exact zI ?_ ?_ | intro _))))); try (refine L.nil ?_))
  ((repeat refine S.seq ?_); refine S.cond rfl (fun hc => ?_) (fun hc => ?_) <;> (try first | refine S.skip ?_ | refine S.exit ?_))
  · cases hc
  ((repeat refine S.seq ?_); refine S.region (L.go (T := tt) tt_ok rfl rfl ?sd178 ?_); (try (case sd178 => (repeat' ((first | first | exact trivial | exact zA | with_reducible refine zI ?_ ?_ | exact zB | exact zC | exact zD | exact zE | rfl | exact zN rfl | omega | assumption | (simp; done) | (simp [splice]; done) | (simp; omega) | (unfold fits; omega) | (unfold fits; simp_all; omega) | (simp_all; omega) | (simp_all; done) | intro _ | exact zI ?_ ?_ | intro _))))); try (refine L.nil ?_))
  ((repeat refine S.seq ?_); refine S.ret ?_)
  exact E.ret (T := tt) tt_ok rfl rfl (by (repeat' ((first | first | exact trivial | exact zA | with_reducible refine zI ?_ ?_ | exact zB | exact zC | exact zD | exact zE | rfl | exact zN rfl | omega | assumption | (simp; done) | (simp [splice]; done) | (simp; omega) | (unfold fits; omega) | (unfold fits; simp_all; omega) | (simp_all; omega) | (simp_all; done) | intro _ | exact zI ?_ ?_ | intro _)))) (Imp.refl _) (by (repeat (first | exact List.nil_sublist _ | refine List.Sublist.cons_cons _ ?_ | refine List.Sublist.cons _ ?_))) ⟨rfl, rfl⟩

def nextO (l : List OutD) (k : Nat) : List OutD := ((plcL l l.length).take k).map fun i => l.getD i default
theorem nextO_succ {l : List OutD} {k : Nat} (h : k < (plcL l l.length).length) : nextO l (k + 1) = nextO l k ++ [l.getD ((plcL l l.length)[k]) default] := by
  unfold nextO
  rw [List.take_add_one, List.getElem?_eq_getElem h, List.map_append]
  rfl
theorem plcL_lt {l : List OutD} {k : Nat} {i : Nat} (h : i ∈ plcL l k) : i < k := List.mem_range.1 (List.mem_filter.1 h).1
theorem plcI_at {l : List OutD} {k : Nat} (h : k < (plcL l l.length).length) : (plcI l l.length).getD k default = (((plcL l l.length)[k] : Nat) : Int) := by
  unfold plcI
  rw [List.getD_eq_getElem?_getD, List.getElem?_map, List.getElem?_eq_getElem h]
  rfl

theorem next_p (b mb : Nat) (x : Value) (A : AuD) (ok : AuOk A) : FnC Tryd.prog 23 [.ptr 40 b 0] (auR b mb x A)
    (fun r F' => ∃ y, r = .ref 46 y ∧ F' = (46, .own y 51 2 (nextO A.l A.l.length).length (gOf OutD.cells (nextO A.l A.l.length))) :: auR b mb x A) := by
  have hlen := ok.len
  have hpl := plcL_len A.l A.l.length
  obtain ⟨n, hn⟩ : ∃ n, n = (plcL A.l A.l.length).length := ⟨_, rfl⟩
  have hpi : (plcI A.l A.l.length).length = n := by rw [hn]; simp [plcI]
  unfold auR
  refine FnC.intro Tryd.func23 rfl Tryd.ntmps23 rfl ?_; intro off w0
  ((repeat refine S.seq ?_); refine S.region (L.go (T := tt) tt_ok rfl rfl ?sd179 ?_); (try (case sd179 => (repeat' ((first | first | exact trivial | exact zA | with_reducible refine zI ?_ ?_ | exact zB | exact zC | exact zD | exact zE | rfl | exact zN rfl | omega | assumption | (simp; done) | (simp [splice]; done) | (simp; omega) | (unfold fits; omega) | (unfold fits; simp_all; omega) | (simp_all; omega) | (simp_all; done) | intro _ | exact zI ?_ ?_ | intro _))))); try (refine L.nil ?_))
  ((repeat refine S.seq ?_); refine S.region (L.go (T := tt) tt_ok rfl rfl ?sd180 ?_); (try (case sd180 => (repeat' ((first | first | exact trivial | exact zA | with_reducible refine zI ?_ ?_ | exact zB | exact zC | exact zD | exact zE | rfl | exact zN rfl | omega | assumption | (simp; done) | (simp [splice]; done) | (simp; omega) | (unfold fits; omega) | (unfold fits; simp_all; omega) | (simp_all; omega) | (simp_all; done) | intro _ | exact zI ?_ ?_ | intro _))))); try (refine L.nil ?_))
  ((repeat refine S.seq ?_); refine S.cond rfl (fun h0 => ?_) (fun h0 => ?_) <;> (try first | refine S.skip ?_ | refine S.exit ?_))
  · cases h0
  ((repeat refine S.seq ?_); refine S.region (L.go (T := tt) tt_ok rfl rfl ?sd181 ?_); (try (case sd181 => (repeat' ((first | first | exact trivial | exact zA | with_reducible refine zI ?_ ?_ | exact zB | exact zC | exact zD | exact zE | rfl | exact zN rfl | omega | assumption | (simp; done) | (simp [splice]; done) | (simp; omega) | (unfold fits; omega) | (unfold fits; simp_all; omega) | (simp_all; omega) | (simp_all; done) | intro _ | exact zI ?_ ?_ | intro _))))); try (refine L.nil ?_))
  repeat refine S.seq ?_
  refine S.region ?_
  (refine L.go (T := tt) tt_ok rfl rfl ?sd199 ?_; (try (case sd199 => (repeat' ((first | first | exact trivial | exact zA | with_reducible refine zI ?_ ?_ | exact zB | exact zC | exact zD | exact zE | rfl | exact zN rfl | omega | assumption | (simp; done) | (simp [splice]; done) | (simp; omega) | (unfold fits; omega) | (unfold fits; simp_all; omega) | (simp_all; omega) | (simp_all; done) | intro _ | exact zI ?_ ?_ | intro _))))); try (refine L.nil ?_))
  refine L.call (G := auR b mb x A) (H := []) rfl rfl rfl rfl rfl rfl rfl ⟨trivial, by (repeat' ((first | first | exact trivial | exact zA | with_reducible refine zI ?_ ?_ | exact zB | exact zC | exact zD | exact zE | rfl | exact zN rfl | omega | assumption | (simp; done) | (simp [splice]; done) | (simp; omega) | (unfold fits; omega) | (unfold fits; simp_all; omega) | (simp_all; omega) | (simp_all; done) | intro _ | exact zI ?_ ?_ | intro _)))⟩ rfl (by exact Imps.refl [.ptr 40 b 0]) (by unfold auR; (repeat (first | exact pick0 | refine pickS (by first | exact p0 | exact pS p0 | exact pS (pS p0) | exact pS (pS (pS p0)) | exact pS (pS (pS (pS p0))) | exact pS (pS (pS (pS (pS p0)))) | exact pS (pS (pS (pS (pS (pS p0)))))) ?_))) (places_p b mb x A ok) ?_
  rintro r F' ⟨y43, rfl, rfl⟩
  refine freezeSlot 9 43 rfl rfl rfl ?_
  rw [hpi]
  (refine L.go (T := tt) tt_ok rfl rfl ?sd200 ?_; (try (case sd200 => (repeat' ((first | first | exact trivial | exact zA | with_reducible refine zI ?_ ?_ | exact zB | exact zC | exact zD | exact zE | rfl | exact zN rfl | omega | assumption | (simp; done) | (simp [splice]; done) | (simp; omega) | (unfold fits; omega) | (unfold fits; simp_all; omega) | (simp_all; omega) | (simp_all; done) | intro _ | exact zI ?_ ?_ | intro _))))); try (refine L.nil ?_))
  refine nilRow 46 51 2 (gOf OutD.cells (nextO A.l 0)) ?_
  refine slotAs 3 (.ref 46 (.slice none 0 0)) rfl (Imp.vref rfl) ?_
  repeat refine S.seq ?_
  refine S.block (S.loop (ι := { k : Nat × Value // k.1 ≤ n }) (fun k => [(0, .ptr 40 b 0), (3, .ref 46 k.1.2), (9, .lst 1 n (gOf intC (plcI A.l A.l.length))), (10, .v (.int .i64 n)), (11, .v (.int .i64 k.1.1))])
    (fun k => (46, .own k.1.2 51 2 (nextO A.l k.1.1).length (gOf OutD.cells (nextO A.l k.1.1))) :: auR b mb x A) (fun k => n - k.1.1) ?_ ?_)
  · exact fun a w h => ⟨⟨(0, .slice none 0 0), Nat.zero_le _⟩, h.weakP (by (repeat' (first | exact True.intro | exact Imp.refl _ | refine ⟨?_, ?_⟩))) (by first | (unfold auR; (repeat (first | exact Sub.refl _ | refine Sub.pick (by first | exact p0 | exact pS p0 | exact pS (pS p0) | exact pS (pS (pS p0)) | exact pS (pS (pS (pS p0))) | exact pS (pS (pS (pS (pS p0))))) ?_))) | (repeat (first | exact Sub.refl _ | refine Sub.pick (by first | exact p0 | exact pS p0 | exact pS (pS p0) | exact pS (pS (pS p0)) | exact pS (pS (pS (pS p0))) | exact pS (pS (pS (pS (pS p0))))) ?_)))⟩
  rintro ⟨⟨k, y⟩, hk⟩
  dsimp only at hk ⊢
  unfold auR
  ((repeat refine S.seq ?_); refine S.region (L.go (T := tt) tt_ok rfl rfl ?sd182 ?_); (try (case sd182 => (repeat' ((first | first | exact trivial | exact zA | with_reducible refine zI ?_ ?_ | exact zB | exact zC | exact zD | exact zE | rfl | exact zN rfl | omega | assumption | (simp; done) | (simp [splice]; done) | (simp; omega) | (unfold fits; omega) | (unfold fits; simp_all; omega) | (simp_all; omega) | (simp_all; done) | intro _ | exact zI ?_ ?_ | intro _))))); try (refine L.nil ?_))
  ((repeat refine S.seq ?_); refine S.cond rfl (fun h1 => ?_) (fun h1 => ?_) <;> (try first | refine S.skip ?_ | refine S.exit ?_))
  · have h1n : k < (plcL A.l A.l.length).length := by have := of_dec h1; omega
    have hat := plcI_at h1n
    obtain ⟨i, hi⟩ : ∃ i, i = (plcL A.l A.l.length)[k] := ⟨_, rfl⟩
    have hil : i < A.l.length := by rw [hi]; exact plcL_lt (List.getElem_mem _)
    rw [← hi] at hat
    have hks := nextO_succ h1n
    rw [← hi] at hks
    have hnl : (nextO A.l k).length ≤ 16 := by unfold nextO; rw [List.length_map, List.length_take]; omega
    obtain ⟨o1, o2, o3, o4⟩ := ok.some1 (A.l.getD i default) (by rw [getD_get hil]; exact List.getElem_mem _)
    repeat refine S.seq ?_
    refine S.block ?_
    ((repeat refine S.seq ?_); refine S.region (L.go (T := tt) tt_ok rfl rfl ?sd183 ?_); (try (case sd183 => (repeat' ((first | first | exact trivial | exact zA | with_reducible refine zI ?_ ?_ | exact zB | exact zC | exact zD | exact zE | rfl | exact zN rfl | omega | assumption | (simp; done) | (simp [splice]; done) | (simp; omega) | (unfold fits; omega) | (unfold fits; simp_all; omega) | (simp_all; omega) | (simp_all; done) | intro _ | exact zI ?_ ?_ | intro _))))); try (refine L.nil ?_))
    refine slotAs 5 (.v (.int .i64 i)) rfl (Imp.of_eq (by rw [← hat]; rfl)) ?_
    repeat refine S.seq ?_
    refine S.draw [(4, [40]), (8, [42]), (12, [40]), (16, [42])] mixed ?_
    (refine H.ts (T := tt) [0, 1, 2, 3, 4, 5, 6, 7, 8, 9, 10, 11, 12, 13, 14, 15, 16] tt_ok (by kernel_rfl) (by kernel_rfl) (by kernel_rfl) (by intro ch a a' w h; obtain ⟨_, _, _, _, _, h, _⟩ := h; cases h) rfl ?sd207 ?_; (try (case sd207 => (repeat' ((first | first | exact trivial | exact zA | with_reducible refine zI ?_ ?_ | exact zB | exact zC | exact zD | exact zE | rfl | exact zN rfl | omega | assumption | (simp; done) | (simp [splice]; done) | (simp; omega) | (unfold fits; omega) | (unfold fits; simp_all; omega) | (simp_all; omega) | (simp_all; done) | intro _ | exact zI ?_ ?_ | intro _))))))
    refine H.call 17 [] _ rfl (by kernel_rfl) (by kernel_rfl) rfl rfl rfl rfl rfl rfl rfl ⟨trivial, by (repeat' ((first | first | exact trivial | exact zA | with_reducible refine zI ?_ ?_ | exact zB | exact zC | exact zD | exact zE | rfl | exact zN rfl | omega | assumption | (simp; done) | (simp [splice]; done) | (simp; omega) | (unfold fits; omega) | (unfold fits; simp_all; omega) | (simp_all; omega) | (simp_all; done) | intro _ | exact zI ?_ ?_ | intro _)))⟩ rfl (by exact Imps.refl [msgs (A.l.getD i default).l]) (List.Perm.refl _) (ClnMsg (n := (A.l.getD i default).l.length) (g := gOf Msg.cells (A.l.getD i default).l) (by omega) 49) rfl rfl ?_
    rintro r F' ⟨x32, rfl, rfl⟩
    refine H.freeze 32 49 rfl rfl rfl rfl ?_
    (refine H.ts (T := tt) [18] tt_ok (by kernel_rfl) (by kernel_rfl) (by kernel_rfl) (by intro ch a a' w h; obtain ⟨_, _, _, _, _, h, _⟩ := h; cases h) rfl ?sd208 ?_; (try (case sd208 => (repeat' ((first | first | exact trivial | exact zA | with_reducible refine zI ?_ ?_ | exact zB | exact zC | exact zD | exact zE | rfl | exact zN rfl | omega | assumption | (simp; done) | (simp [splice]; done) | (simp; omega) | (unfold fits; omega) | (unfold fits; simp_all; omega) | (simp_all; omega) | (simp_all; done) | intro _ | exact zI ?_ ?_ | intro _))))))
    refine H.o1 19 rfl (by kernel_rfl) (by kernel_rfl) (O.buildSlice (T := tt) 50 tt_ok rfl rfl rfl rfl rfl rfl (by decide) (by decide) rfl rfl (by (repeat' ((first | first | exact trivial | exact zA | with_reducible refine zI ?_ ?_ | exact zB | exact zC | exact zD | exact zE | rfl | exact zN rfl | omega | assumption | (simp; done) | (simp [splice]; done) | (simp; omega) | (unfold fits; omega) | (unfold fits; simp_all; omega) | (simp_all; omega) | (simp_all; done) | intro _ | exact zI ?_ ?_ | intro _))))) (.inr rfl) rfl fun x34 => ?_
    refine H.o1 20 rfl (by kernel_rfl) (by kernel_rfl) (O.append (T := tt) tt_ok rfl rfl rfl rfl rfl rfl rfl rfl rfl rfl (by (repeat' ((first | first | exact trivial | exact zA | with_reducible refine zI ?_ ?_ | exact zB | exact zC | exact zD | exact zE | rfl | exact zN rfl | omega | assumption | (simp; done) | (simp [splice]; done) | (simp; omega) | (unfold fits; omega) | (unfold fits; simp_all; omega) | (simp_all; omega) | (simp_all; done) | intro _ | exact zI ?_ ?_ | intro _)))) ⟨rfl, by decide, by decide⟩ (by simp; omega)) (.inl (by kernel_rfl)) (by kernel_rfl) fun y35 => ?_
    (refine H.ts (T := tt) [21] tt_ok (by kernel_rfl) (by kernel_rfl) (by kernel_rfl) (by intro ch a a' w h; obtain ⟨_, _, _, _, _, h, _⟩ := h; cases h) rfl ?sd209 ?_; (try (case sd209 => (repeat' ((first | first | exact trivial | exact zA | with_reducible refine zI ?_ ?_ | exact zB | exact zC | exact zD | exact zE | rfl | exact zN rfl | omega | assumption | (simp; done) | (simp [splice]; done) | (simp; omega) | (unfold fits; omega) | (unfold fits; simp_all; omega) | (simp_all; omega) | (simp_all; done) | intro _ | exact zI ?_ ?_ | intro _))))))
    refine H.done (by kernel_rfl) ?_
    refine ownAs 46 (gOf OutD.cells (nextO A.l (k + 1))) rfl (show (nextO A.l k).length + 1 = (nextO A.l (k + 1)).length by rw [hks]; simp) (fun i hi => ?_) ?_
    · rw [hks]
      exact app1_h OutD.cells (nextO A.l k) _ _ rfl rfl hi
    ((repeat refine S.seq ?_); refine S.region (L.go (T := tt) tt_ok rfl rfl ?sd184 ?_); (try (case sd184 => (repeat' ((first | first | exact trivial | exact zA | with_reducible refine zI ?_ ?_ | exact zB | exact zC | exact zD | exact zE | rfl | exact zN rfl | omega | assumption | (simp; done) | (simp [splice]; done) | (simp; omega) | (unfold fits; omega) | (unfold fits; simp_all; omega) | (simp_all; omega) | (simp_all; done) | intro _ | exact zI ?_ ?_ | intro _))))); try (refine L.nil ?_))
    exact fun a w h => ⟨⟨(k + 1, y35), by show k + 1 ≤ n; omega⟩, by show n - (k + 1) < n - k; omega, h.weakP (by (repeat' (first | exact True.intro | exact Imp.refl _ | refine ⟨?_, ?_⟩))) (by first | (unfold auR; (repeat (first | exact Sub.refl _ | refine Sub.pick (by first | exact p0 | exact pS p0 | exact pS (pS p0) | exact pS (pS (pS p0)) | exact pS (pS (pS (pS p0))) | exact pS (pS (pS (pS (pS p0))))) ?_))) | (repeat (first | exact Sub.refl _ | refine Sub.pick (by first | exact p0 | exact pS p0 | exact pS (pS p0) | exact pS (pS (pS p0)) | exact pS (pS (pS (pS p0))) | exact pS (pS (pS (pS (pS p0))))) ?_)))⟩
  have h1n : k = n := by have := of_dec' h1; omega
  subst h1n
  have e : nextO A.l k = nextO A.l A.l.length := by
    unfold nextO
    rw [List.take_of_length_le (by omega), List.take_of_length_le (by omega)]
  rw [e]
  ((repeat refine S.seq ?_); refine S.region (L.go (T := tt) tt_ok rfl rfl ?sd185 ?_); (try (case sd185 => (repeat' ((first | first | exact trivial | exact zA | with_reducible refine zI ?_ ?_ | exact zB | exact zC | exact zD | exact zE | rfl | exact zN rfl | omega | assumption | (simp; done) | (simp [splice]; done) | (simp; omega) | (unfold fits; omega) | (unfold fits; simp_all; omega) | (simp_all; omega) | (simp_all; done) | intro _ | exact zI ?_ ?_ | intro _))))); try (refine L.nil ?_))
  ((repeat refine S.seq ?_); refine S.ret ?_)
  exact E.ret (T := tt) tt_ok rfl rfl (by (repeat' ((first | first | exact trivial | exact zA | with_reducible refine zI ?_ ?_ | exact zB | exact zC | exact zD | exact zE | rfl | exact zN rfl | omega | assumption | (simp; done) | (simp [splice]; done) | (simp; omega) | (unfold fits; omega) | (unfold fits; simp_all; omega) | (simp_all; omega) | (simp_all; done) | intro _ | exact zI ?_ ?_ | intro _)))) (F' := (46, .own y 51 2 (nextO A.l A.l.length).length (gOf OutD.cells (nextO A.l A.l.length))) :: auR b mb x A) (Imp.refl _) (by unfold auR; (repeat (first | exact List.nil_sublist _ | refine List.Sublist.cons_cons _ ?_ | refine List.Sublist.cons _ ?_))) ⟨y, rfl, rfl⟩

def lastM (o : OutD) : Msg := o.l.getD ((o.l.length : Int) - 1).toNat default
def toldB (l : List OutD) (q : Int) (key : ByteArray) (seq : Int) (i : Nat) : Bool := ((l.getD i default).queue == q && (l.getD i default).key0 == key) && (lastM (l.getD i default)).seq == seq
theorem told1_p (b mb : Nat) (x : Value) (A : AuD) (q : Int) (key : ByteArray) (seq : Int) (i : Nat) (ok : AuOk A) (hi : i < A.l.length) :
    FnC Tryd.prog 46 [.v (.int .i64 i), .pel 1 [.ptr 40 b 0], .pel 1 [.v (.int .i64 q)], .pel 1 [.v (.string key)], .pel 1 [.v (.int .i64 seq)]] (auR b mb x A) (fun r F' => r = .v (.bool (toldB A.l q key seq i)) ∧ F' = auR b mb x A) := by
  have hlen := ok.len
  obtain ⟨o1, o2, o3, o4⟩ := ok.some1 (A.l.getD i default) (by rw [getD_get hi]; exact List.getElem_mem _)
  unfold auR
  refine FnC.intro Tryd.func46 rfl Tryd.ntmps46 rfl ?_; intro off w0
  ((repeat refine S.seq ?_); refine S.region (L.go (T := tt) tt_ok rfl rfl ?sd186 ?_); (try (case sd186 => (repeat' ((first | first | exact trivial | exact zA | with_reducible refine zI ?_ ?_ | exact zB | exact zC | exact zD | exact zE | rfl | exact zN rfl | omega | assumption | (simp; done) | (simp [splice]; done) | (simp; omega) | (unfold fits; omega) | (unfold fits; simp_all; omega) | (simp_all; omega) | (simp_all; done) | intro _ | exact zI ?_ ?_ | intro _))))); try (refine L.nil ?_))
  ((repeat refine S.seq ?_); refine S.region (L.go (T := tt) tt_ok rfl rfl ?sd187 ?_); (try (case sd187 => (repeat' ((first | first | exact trivial | exact zA | with_reducible refine zI ?_ ?_ | exact zB | exact zC | exact zD | exact zE | rfl | exact zN rfl | omega | assumption | (simp; done) | (simp [splice]; done) | (simp; omega) | (unfold fits; omega) | (unfold fits; simp_all; omega) | (simp_all; omega) | (simp_all; done) | intro _ | exact zI ?_ ?_ | intro _))))); try (refine L.nil ?_))
  repeat refine S.seq ?_
  refine S.draw [(3, [40]), (7, [42])] mixed ?_
  (refine H.ts (T := tt) [0, 1, 2, 3, 4, 5, 6, 7, 8, 9, 10, 11, 12, 13, 14, 15, 16, 17, 18, 19, 20, 21, 22, 23, 24, 25, 26, 27, 28, 29] tt_ok (by kernel_rfl) (by kernel_rfl) (by kernel_rfl) (by intro ch a a' w h; obtain ⟨_, _, _, _, _, h, _⟩ := h; cases h) rfl ?sd210 ?_; (try (case sd210 => (repeat' ((first | first | exact trivial | exact zA | with_reducible refine zI ?_ ?_ | exact zB | exact zC | exact zD | exact zE | rfl | exact zN rfl | omega | assumption | (simp; done) | (simp [splice]; done) | (simp; omega) | (unfold fits; omega) | (unfold fits; simp_all; omega) | (simp_all; omega) | (simp_all; done) | intro _ | exact zI ?_ ?_ | intro _))))))
  refine H.done (by kernel_rfl) ?_
  ((repeat refine S.seq ?_); refine S.ret ?_)
  exact E.ret (T := tt) tt_ok rfl rfl (by (repeat' ((first | first | exact trivial | exact zA | with_reducible refine zI ?_ ?_ | exact zB | exact zC | exact zD | exact zE | rfl | exact zN rfl | omega | assumption | (simp; done) | (simp [splice]; done) | (simp; omega) | (unfold fits; omega) | (unfold fits; simp_all; omega) | (simp_all; omega) | (simp_all; done) | intro _ | exact zI ?_ ?_ | intro _)))) (F' := auR b mb x A) (Imp.refl _) (by unfold auR; (repeat (first | exact List.nil_sublist _ | refine List.Sublist.cons_cons _ ?_ | refine List.Sublist.cons _ ?_))) ⟨rfl, rfl⟩

def atA (A : AuD) (q : Int) (key : ByteArray) (seq : Int) : Int := pidx (fun i => toldB A.l q key seq ((plcI A.l A.l.length).getD i default).toNat) (plcI A.l A.l.length).length
def placeA (A : AuD) (q : Int) (key : ByteArray) (seq : Int) : Nat := ((plcI A.l A.l.length).getD (atA A q key seq).toNat default).toNat
def codeA (code : Int) : Int := if code = 0 ∨ code = 8 then 0 else if code = 4 ∨ code = 1 then code else 7
def toldE (A : AuD) (q : Int) (key : ByteArray) (seq code : Int) : Int := if atA A q key seq < 0 then 3 else codeA code
def toldS (A : AuD) (q : Int) (key : ByteArray) (seq code : Int) : AuD := if atA A q key seq < 0 ∨ codeA code = 7 then A else { A with l := A.l.eraseIdx (placeA A q key seq) }
theorem atA_lt (A : AuD) (q : Int) (key : ByteArray) (seq : Int) : -1 ≤ atA A q key seq ∧ atA A q key seq < (plcI A.l A.l.length).length := by
  unfold atA
  rcases pidx_cases (fun i => toldB A.l q key seq ((plcI A.l A.l.length).getD i default).toNat) (plcI A.l A.l.length).length with ⟨h, -⟩ | ⟨k, hk, -, -, h⟩ <;> rw [h] <;> omega

theorem told_p (b mb : Nat) (x : Value) (A : AuD) (q : Int) (key : ByteArray) (seq code : Int) (ok : AuOk A) : FnC Tryd.prog 20 [.ptr 40 b 0, .v (.int .i64 q), .v (.string key), .v (.int .i64 seq), .v (.int .i64 code)] (auR b mb x A)
    (fun r F' => ∃ x', r = .v (.int .i64 (toldE A q key seq code)) ∧ F' = auR b mb x' (toldS A q key seq code)) := by
  have hlen := ok.len
  have hpl := plcL_len A.l A.l.length
  obtain ⟨n, hn⟩ : ∃ n, n = (plcI A.l A.l.length).length := ⟨_, rfl⟩
  have hpi : (plcL A.l A.l.length).length = n := by rw [hn]; simp [plcI]
  have hpos : ∀ i, i < n → ∃ j : Nat, (plcI A.l A.l.length).getD i default = j ∧ j < A.l.length := fun i hi => by
    have h1 : i < (plcL A.l A.l.length).length := by omega
    exact ⟨_, plcI_at h1, plcL_lt (List.getElem_mem h1)⟩
  have hat := atA_lt A q key seq
  rw [← hn] at hat
  unfold auR
  refine FnC.intro Tryd.func20 rfl Tryd.ntmps20 rfl ?_; intro off w0
  repeat refine S.seq ?_
  refine S.region ?_
  refine L.box 50 rfl rfl rfl rfl rfl trivial rfl fun b5 => ?_
  refine L.box 51 rfl rfl rfl rfl rfl trivial rfl fun b6 => ?_
  refine L.box 52 rfl rfl rfl rfl rfl trivial rfl fun b7 => ?_
  refine L.box 53 rfl rfl rfl rfl rfl trivial rfl fun b8 => ?_
  (refine L.go (T := tt) tt_ok rfl rfl ?sd201 ?_; (try (case sd201 => (repeat' ((first | first | exact trivial | exact zA | with_reducible refine zI ?_ ?_ | exact zB | exact zC | exact zD | exact zE | rfl | exact zN rfl | omega | assumption | (simp; done) | (simp [splice]; done) | (simp; omega) | (unfold fits; omega) | (unfold fits; simp_all; omega) | (simp_all; omega) | (simp_all; done) | intro _ | exact zI ?_ ?_ | intro _))))); try (refine L.nil ?_))
  refine freezeBlk 5 50 rfl rfl rfl ?_
  refine freezeBlk 6 51 rfl rfl rfl ?_
  refine freezeBlk 7 52 rfl rfl rfl ?_
  refine freezeBlk 8 53 rfl rfl rfl ?_
  ((repeat refine S.seq ?_); refine S.region (L.go (T := tt) tt_ok rfl rfl ?sd188 ?_); (try (case sd188 => (repeat' ((first | first | exact trivial | exact zA | with_reducible refine zI ?_ ?_ | exact zB | exact zC | exact zD | exact zE | rfl | exact zN rfl | omega | assumption | (simp; done) | (simp [splice]; done) | (simp; omega) | (unfold fits; omega) | (unfold fits; simp_all; omega) | (simp_all; omega) | (simp_all; done) | intro _ | exact zI ?_ ?_ | intro _))))); try (refine L.nil ?_))
  ((repeat refine S.seq ?_); refine S.cond rfl (fun h0 => ?_) (fun h0 => ?_) <;> (try first | refine S.skip ?_ | refine S.exit ?_))
  · cases h0
  repeat refine S.seq ?_
  refine S.region ?_
  (refine L.go (T := tt) tt_ok rfl rfl ?sd202 ?_; (try (case sd202 => (repeat' ((first | first | exact trivial | exact zA | with_reducible refine zI ?_ ?_ | exact zB | exact zC | exact zD | exact zE | rfl | exact zN rfl | omega | assumption | (simp; done) | (simp [splice]; done) | (simp; omega) | (unfold fits; omega) | (unfold fits; simp_all; omega) | (simp_all; omega) | (simp_all; done) | intro _ | exact zI ?_ ?_ | intro _))))); try (refine L.nil ?_))
  refine L.call (G := auR b mb x A) (H := []) rfl rfl rfl rfl rfl rfl rfl ⟨trivial, by (repeat' ((first | first | exact trivial | exact zA | with_reducible refine zI ?_ ?_ | exact zB | exact zC | exact zD | exact zE | rfl | exact zN rfl | omega | assumption | (simp; done) | (simp [splice]; done) | (simp; omega) | (unfold fits; omega) | (unfold fits; simp_all; omega) | (simp_all; omega) | (simp_all; done) | intro _ | exact zI ?_ ?_ | intro _)))⟩ rfl (by exact Imps.refl [.ptr 40 b 0]) (by unfold auR; (repeat (first | exact pick0 | refine pickS (by first | exact p0 | exact pS p0 | exact pS (pS p0) | exact pS (pS (pS p0)) | exact pS (pS (pS (pS p0))) | exact pS (pS (pS (pS (pS p0)))) | exact pS (pS (pS (pS (pS (pS p0)))))) ?_))) (places_p b mb x A ok) ?_
  rintro r F' ⟨y43, rfl, rfl⟩
  refine freezeSlot 16 43 rfl rfl rfl ?_
  rw [← hn]
  (refine L.go (T := tt) tt_ok rfl rfl ?sd203 ?_; (try (case sd203 => (repeat' ((first | first | exact trivial | exact zA | with_reducible refine zI ?_ ?_ | exact zB | exact zC | exact zD | exact zE | rfl | exact zN rfl | omega | assumption | (simp; done) | (simp [splice]; done) | (simp; omega) | (unfold fits; omega) | (unfold fits; simp_all; omega) | (simp_all; omega) | (simp_all; done) | intro _ | exact zI ?_ ?_ | intro _))))); try (refine L.nil ?_))
  refine L.call (G := auR b mb x A) (H := []) rfl rfl rfl rfl rfl rfl rfl ⟨trivial, by (repeat' ((first | first | exact trivial | exact zA | with_reducible refine zI ?_ ?_ | exact zB | exact zC | exact zD | exact zE | rfl | exact zN rfl | omega | assumption | (simp; done) | (simp [splice]; done) | (simp; omega) | (unfold fits; omega) | (unfold fits; simp_all; omega) | (simp_all; omega) | (simp_all; done) | intro _ | exact zI ?_ ?_ | intro _)))⟩ rfl (by exact Imps.refl [.lst 1 n (gOf intC (plcI A.l A.l.length)), .fn (.func 46) [.pel 1 [.ptr 40 b 0], .pel 1 [.v (.int .i64 q)], .pel 1 [.v (.string key)], .pel 1 [.v (.int .i64 seq)]]]) (by unfold auR; (repeat (first | exact pick0 | refine pickS (by first | exact p0 | exact pS p0 | exact pS (pS p0) | exact pS (pS (pS p0)) | exact pS (pS (pS (pS p0))) | exact pS (pS (pS (pS (pS p0)))) | exact pS (pS (pS (pS (pS (pS p0)))))) ?_)))
    (IxI (n := n) (fun i => (plcI A.l A.l.length).getD i default) (fun i => toldB A.l q key seq ((plcI A.l A.l.length).getD i default).toNat) rfl (fun i hi => by
      obtain ⟨j, hj, hjl⟩ := hpos i hi
      rw [hj]
      exact told1_p b mb x A q key seq j ok hjl)) ?_
  rintro r F' ⟨rfl, rfl⟩
  have hatE : pidx (fun i => toldB A.l q key seq ((plcI A.l A.l.length).getD i default).toNat) n = atA A q key seq := by rw [atA, hn]
  rw [hatE]
  (refine L.go (T := tt) tt_ok rfl rfl ?sd204 ?_; (try (case sd204 => (repeat' ((first | first | exact trivial | exact zA | with_reducible refine zI ?_ ?_ | exact zB | exact zC | exact zD | exact zE | rfl | exact zN rfl | omega | assumption | (simp; done) | (simp [splice]; done) | (simp; omega) | (unfold fits; omega) | (unfold fits; simp_all; omega) | (simp_all; omega) | (simp_all; done) | intro _ | exact zI ?_ ?_ | intro _))))); try (refine L.nil ?_))
  ((repeat refine S.seq ?_); refine S.region (L.go (T := tt) tt_ok rfl rfl ?sd189 ?_); (try (case sd189 => (repeat' ((first | first | exact trivial | exact zA | with_reducible refine zI ?_ ?_ | exact zB | exact zC | exact zD | exact zE | rfl | exact zN rfl | omega | assumption | (simp; done) | (simp [splice]; done) | (simp; omega) | (unfold fits; omega) | (unfold fits; simp_all; omega) | (simp_all; omega) | (simp_all; done) | intro _ | exact zI ?_ ?_ | intro _))))); try (refine L.nil ?_))
  ((repeat refine S.seq ?_); refine S.cond rfl (fun h1 => ?_) (fun h1 => ?_) <;> (try first | refine S.skip ?_ | refine S.exit ?_))
  · have h1n : atA A q key seq < 0 := of_dec h1
    have e1 : toldE A q key seq code = 3 := by rw [toldE, if_pos h1n]
    have e2 : toldS A q key seq code = A := by rw [toldS, if_pos (.inl h1n)]
    ((repeat refine S.seq ?_); refine S.region (L.go (T := tt) tt_ok rfl rfl ?sd190 ?_); (try (case sd190 => (repeat' ((first | first | exact trivial | exact zA | with_reducible refine zI ?_ ?_ | exact zB | exact zC | exact zD | exact zE | rfl | exact zN rfl | omega | assumption | (simp; done) | (simp [splice]; done) | (simp; omega) | (unfold fits; omega) | (unfold fits; simp_all; omega) | (simp_all; omega) | (simp_all; done) | intro _ | exact zI ?_ ?_ | intro _))))); try (refine L.nil ?_))
    ((repeat refine S.seq ?_); refine S.ret ?_)
    rw [e1, e2]
    exact E.ret (T := tt) tt_ok rfl rfl (by (repeat' ((first | first | exact trivial | exact zA | with_reducible refine zI ?_ ?_ | exact zB | exact zC | exact zD | exact zE | rfl | exact zN rfl | omega | assumption | (simp; done) | (simp [splice]; done) | (simp; omega) | (unfold fits; omega) | (unfold fits; simp_all; omega) | (simp_all; omega) | (simp_all; done) | intro _ | exact zI ?_ ?_ | intro _)))) (F' := auR b mb x A) (Imp.refl _) (by unfold auR; (repeat (first | exact List.nil_sublist _ | refine List.Sublist.cons_cons _ ?_ | refine List.Sublist.cons _ ?_))) ⟨x, rfl, rfl⟩
  have h1n : ¬ atA A q key seq < 0 := of_dec' h1
  obtain ⟨k, hk⟩ : ∃ k : Nat, atA A q key seq = k := ⟨(atA A q key seq).toNat, by omega⟩
  obtain ⟨j, hj, hjl⟩ := hpos k (by omega)
  have hplace : placeA A q key seq = j := by rw [placeA, hk, Int.toNat_natCast, hj, Int.toNat_natCast]
  rw [hk] at hat ⊢
  unfold auR
  repeat refine S.seq ?_
  refine S.region ?_
  (refine L.go (T := tt) tt_ok rfl rfl ?sd205 ?_; (try (case sd205 => (repeat' ((first | first | exact trivial | exact zA | with_reducible refine zI ?_ ?_ | exact zB | exact zC | exact zD | exact zE | rfl | exact zN rfl | omega | assumption | (simp; done) | (simp [splice]; done) | (simp; omega) | (unfold fits; omega) | (unfold fits; simp_all; omega) | (simp_all; omega) | (simp_all; done) | intro _ | exact zI ?_ ?_ | intro _))))); try (refine L.nil ?_))
  refine L.call (G := auR b mb x A) (H := []) rfl rfl rfl rfl rfl rfl rfl ⟨trivial, by (repeat' ((first | first | exact trivial | exact zA | with_reducible refine zI ?_ ?_ | exact zB | exact zC | exact zD | exact zE | rfl | exact zN rfl | omega | assumption | (simp; done) | (simp [splice]; done) | (simp; omega) | (unfold fits; omega) | (unfold fits; simp_all; omega) | (simp_all; omega) | (simp_all; done) | intro _ | exact zI ?_ ?_ | intro _)))⟩ rfl (by exact Imps.refl [.ptr 40 b 0]) (by unfold auR; (repeat (first | exact pick0 | refine pickS (by first | exact p0 | exact pS p0 | exact pS (pS p0) | exact pS (pS (pS p0)) | exact pS (pS (pS (pS p0))) | exact pS (pS (pS (pS (pS p0)))) | exact pS (pS (pS (pS (pS (pS p0)))))) ?_))) (places_p b mb x A ok) ?_
  rintro r F' ⟨y22, rfl, rfl⟩
  refine freezeSlot 22 43 rfl rfl rfl ?_
  rw [← hn]
  (refine L.go (T := tt) tt_ok rfl rfl ?sd206 ?_; (try (case sd206 => (repeat' ((first | first | exact trivial | exact zA | with_reducible refine zI ?_ ?_ | exact zB | exact zC | exact zD | exact zE | rfl | exact zN rfl | omega | assumption | (simp; done) | (simp [splice]; done) | (simp; omega) | (unfold fits; omega) | (unfold fits; simp_all; omega) | (simp_all; omega) | (simp_all; done) | intro _ | exact zI ?_ ?_ | intro _))))); try (refine L.nil ?_))
  refine slotAs 12 (.v (.int .i64 j)) rfl (Imp.of_eq (by rw [← hj]; rfl)) ?_
  ((repeat refine S.seq ?_); refine S.region (L.go (T := tt) tt_ok rfl rfl ?sd191 ?_); (try (case sd191 => (repeat' ((first | first | exact trivial | exact zA | with_reducible refine zI ?_ ?_ | exact zB | exact zC | exact zD | exact zE | rfl | exact zN rfl | omega | assumption | (simp; done) | (simp [splice]; done) | (simp; omega) | (unfold fits; omega) | (unfold fits; simp_all; omega) | (simp_all; omega) | (simp_all; done) | intro _ | exact zI ?_ ?_ | intro _))))); try (refine L.nil ?_))
  refine S.cut (ι := { u : Unit // codeA code ≠ 7 }) (fun _ => [(4, .v (.int .i64 (codeA code))), (5, .pel 1 [.ptr 40 b 0]), (12, .v (.int .i64 j))]) (fun _ => auR b mb x A) ?_ ?_
  · repeat refine S.seq ?_
    refine S.block ?_
    ((repeat refine S.seq ?_); refine S.region (L.go (T := tt) tt_ok rfl rfl ?sd192 ?_); (try (case sd192 => (repeat' ((first | first | exact trivial | exact zA | with_reducible refine zI ?_ ?_ | exact zB | exact zC | exact zD | exact zE | rfl | exact zN rfl | omega | assumption | (simp; done) | (simp [splice]; done) | (simp; omega) | (unfold fits; omega) | (unfold fits; simp_all; omega) | (simp_all; omega) | (simp_all; done) | intro _ | exact zI ?_ ?_ | intro _))))); try (refine L.nil ?_))
    refine S.cut (ι := { e : Bool // e = (code == 0 || code == 8) }) (fun e => [(4, .v (.int .i64 code)), (5, .pel 1 [.ptr 40 b 0]), (12, .v (.int .i64 j)), (26, .v (.int .i64 code)), (27, .v (.bool e.1))]) (fun _ => auR b mb x A) ?_ ?_
    · ((repeat refine S.seq ?_); refine S.cond rfl (fun h2 => ?_) (fun h2 => ?_) <;> (try first | refine S.skip ?_ | refine S.exit ?_))
      · exact fun a w h => ⟨⟨code == 0, by rw [h2]; rfl⟩, h.weakP (by (repeat' (first | exact True.intro | exact Imp.refl _ | refine ⟨?_, ?_⟩))) (by first | (unfold auR; (repeat (first | exact Sub.refl _ | refine Sub.pick (by first | exact p0 | exact pS p0 | exact pS (pS p0) | exact pS (pS (pS p0)) | exact pS (pS (pS (pS p0))) | exact pS (pS (pS (pS (pS p0))))) ?_))) | (repeat (first | exact Sub.refl _ | refine Sub.pick (by first | exact p0 | exact pS p0 | exact pS (pS p0) | exact pS (pS (pS p0)) | exact pS (pS (pS (pS p0))) | exact pS (pS (pS (pS (pS p0))))) ?_)))⟩
      · ((repeat refine S.seq ?_); refine S.region (L.go (T := tt) tt_ok rfl rfl ?sd193 ?_); (try (case sd193 => (repeat' ((first | first | exact trivial | exact zA | with_reducible refine zI ?_ ?_ | exact zB | exact zC | exact zD | exact zE | rfl | exact zN rfl | omega | assumption | (simp; done) | (simp [splice]; done) | (simp; omega) | (unfold fits; omega) | (unfold fits; simp_all; omega) | (simp_all; omega) | (simp_all; done) | intro _ | exact zI ?_ ?_ | intro _))))); try (refine L.nil ?_))
        exact fun a w h => ⟨⟨code == 8, by rw [h2]; rfl⟩, h.weakP (by (repeat' (first | exact True.intro | exact Imp.refl _ | refine ⟨?_, ?_⟩))) (by first | (unfold auR; (repeat (first | exact Sub.refl _ | refine Sub.pick (by first | exact p0 | exact pS p0 | exact pS (pS p0) | exact pS (pS (pS p0)) | exact pS (pS (pS (pS p0))) | exact pS (pS (pS (pS (pS p0))))) ?_))) | (repeat (first | exact Sub.refl _ | refine Sub.pick (by first | exact p0 | exact pS p0 | exact pS (pS p0) | exact pS (pS (pS p0)) | exact pS (pS (pS (pS p0))) | exact pS (pS (pS (pS (pS p0))))) ?_)))⟩
    rintro ⟨e, he⟩
    try dsimp only
    unfold auR
    ((repeat refine S.seq ?_); refine S.cond rfl (fun h3 => ?_) (fun h3 => ?_) <;> (try first | refine S.skip ?_ | refine S.exit ?_))
    · have hc : code = 0 ∨ code = 8 := by rw [h3] at he; simpa using he.symm
      have hcA : codeA code = 0 := by rw [codeA, if_pos hc]
      ((repeat refine S.seq ?_); refine S.region (L.go (T := tt) tt_ok rfl rfl ?sd194 ?_); (try (case sd194 => (repeat' ((first | first | exact trivial | exact zA | with_reducible refine zI ?_ ?_ | exact zB | exact zC | exact zD | exact zE | rfl | exact zN rfl | omega | assumption | (simp; done) | (simp [splice]; done) | (simp; omega) | (unfold fits; omega) | (unfold fits; simp_all; omega) | (simp_all; omega) | (simp_all; done) | intro _ | exact zI ?_ ?_ | intro _))))); try (refine L.nil ?_))
      refine slotAs 4 (.v (.int .i64 (codeA code))) rfl (Imp.of_eq (by rw [hcA])) ?_
      exact fun a w h => ⟨⟨(), by omega⟩, h.weakP (by (repeat' (first | exact True.intro | exact Imp.refl _ | refine ⟨?_, ?_⟩))) (by first | (unfold auR; (repeat (first | exact Sub.refl _ | refine Sub.pick (by first | exact p0 | exact pS p0 | exact pS (pS p0) | exact pS (pS (pS p0)) | exact pS (pS (pS (pS p0))) | exact pS (pS (pS (pS (pS p0))))) ?_))) | (repeat (first | exact Sub.refl _ | refine Sub.pick (by first | exact p0 | exact pS p0 | exact pS (pS p0) | exact pS (pS (pS p0)) | exact pS (pS (pS (pS p0))) | exact pS (pS (pS (pS (pS p0))))) ?_)))⟩
    have hc : ¬ (code = 0 ∨ code = 8) := by
      rw [h3] at he
      have := he.symm
      simp only [Bool.or_eq_false_iff, beq_eq_false_iff_ne, ne_eq] at this
      rintro (h | h)
      · exact this.1 h
      · exact this.2 h
    ((repeat refine S.seq ?_); refine S.region (L.go (T := tt) tt_ok rfl rfl ?sd195 ?_); (try (case sd195 => (repeat' ((first | first | exact trivial | exact zA | with_reducible refine zI ?_ ?_ | exact zB | exact zC | exact zD | exact zE | rfl | exact zN rfl | omega | assumption | (simp; done) | (simp [splice]; done) | (simp; omega) | (unfold fits; omega) | (unfold fits; simp_all; omega) | (simp_all; omega) | (simp_all; done) | intro _ | exact zI ?_ ?_ | intro _))))); try (refine L.nil ?_))
    refine S.cut (ι := { e : Bool // e = (code == 4 || code == 1) }) (fun e => [(4, .v (.int .i64 code)), (5, .pel 1 [.ptr 40 b 0]), (12, .v (.int .i64 j)), (26, .v (.int .i64 code)), (30, .v (.bool e.1))]) (fun _ => auR b mb x A) ?_ ?_
    · ((repeat refine S.seq ?_); refine S.cond rfl (fun h2 => ?_) (fun h2 => ?_) <;> (try first | refine S.skip ?_ | refine S.exit ?_))
      · exact fun a w h => ⟨⟨code == 4, by rw [h2]; rfl⟩, h.weakP (by (repeat' (first | exact True.intro | exact Imp.refl _ | refine ⟨?_, ?_⟩))) (by first | (unfold auR; (repeat (first | exact Sub.refl _ | refine Sub.pick (by first | exact p0 | exact pS p0 | exact pS (pS p0) | exact pS (pS (pS p0)) | exact pS (pS (pS (pS p0))) | exact pS (pS (pS (pS (pS p0))))) ?_))) | (repeat (first | exact Sub.refl _ | refine Sub.pick (by first | exact p0 | exact pS p0 | exact pS (pS p0) | exact pS (pS (pS p0)) | exact pS (pS (pS (pS p0))) | exact pS (pS (pS (pS (pS p0))))) ?_)))⟩
      · ((repeat refine S.seq ?_); refine S.region (L.go (T := tt) tt_ok rfl rfl ?sd196 ?_); (try (case sd196 => (repeat' ((first | first | exact trivial | exact zA | with_reducible refine zI ?_ ?_ | exact zB | exact zC | exact zD | exact zE | rfl | exact zN rfl | omega | assumption | (simp; done) | (simp [splice]; done) | (simp; omega) | (unfold fits; omega) | (unfold fits; simp_all; omega) | (simp_all; omega) | (simp_all; done) | intro _ | exact zI ?_ ?_ | intro _))))); try (refine L.nil ?_))
        exact fun a w h => ⟨⟨code == 1, by rw [h2]; rfl⟩, h.weakP (by (repeat' (first | exact True.intro | exact Imp.refl _ | refine ⟨?_, ?_⟩))) (by first | (unfold auR; (repeat (first | exact Sub.refl _ | refine Sub.pick (by first | exact p0 | exact pS p0 | exact pS (pS p0) | exact pS (pS (pS p0)) | exact pS (pS (pS (pS p0))) | exact pS (pS (pS (pS (pS p0))))) ?_))) | (repeat (first | exact Sub.refl _ | refine Sub.pick (by first | exact p0 | exact pS p0 | exact pS (pS p0) | exact pS (pS (pS p0)) | exact pS (pS (pS (pS p0))) | exact pS (pS (pS (pS (pS p0))))) ?_)))⟩
    rintro ⟨e, he⟩
    try dsimp only
    unfold auR
    ((repeat refine S.seq ?_); refine S.cond rfl (fun h4 => ?_) (fun h4 => ?_) <;> (try first | refine S.skip ?_ | refine S.exit ?_))
    · have hc2 : code = 4 ∨ code = 1 := by rw [h4] at he; simpa using he.symm
      have hcA : codeA code = code := by rw [codeA, if_neg hc, if_pos hc2]
      refine slotAs 4 (.v (.int .i64 (codeA code))) rfl (Imp.of_eq (by rw [hcA])) ?_
      exact fun a w h => ⟨⟨(), by omega⟩, h.weakP (by (repeat' (first | exact True.intro | exact Imp.refl _ | refine ⟨?_, ?_⟩))) (by first | (unfold auR; (repeat (first | exact Sub.refl _ | refine Sub.pick (by first | exact p0 | exact pS p0 | exact pS (pS p0) | exact pS (pS (pS p0)) | exact pS (pS (pS (pS p0))) | exact pS (pS (pS (pS (pS p0))))) ?_))) | (repeat (first | exact Sub.refl _ | refine Sub.pick (by first | exact p0 | exact pS p0 | exact pS (pS p0) | exact pS (pS (pS p0)) | exact pS (pS (pS (pS p0))) | exact pS (pS (pS (pS (pS p0))))) ?_)))⟩
    have hc2 : ¬ (code = 4 ∨ code = 1) := by
      rw [h4] at he
      have := he.symm
      simp only [Bool.or_eq_false_iff, beq_eq_false_iff_ne, ne_eq] at this
      rintro (h | h)
      · exact this.1 h
      · exact this.2 h
    have hcA : codeA code = 7 := by rw [codeA, if_neg hc, if_neg hc2]
    have e1 : toldE A q key seq code = 7 := by rw [toldE, if_neg h1n, hcA]
    have e2 : toldS A q key seq code = A := by rw [toldS, if_pos (.inr hcA)]
    ((repeat refine S.seq ?_); refine S.region (L.go (T := tt) tt_ok rfl rfl ?sd197 ?_); (try (case sd197 => (repeat' ((first | first | exact trivial | exact zA | with_reducible refine zI ?_ ?_ | exact zB | exact zC | exact zD | exact zE | rfl | exact zN rfl | omega | assumption | (simp; done) | (simp [splice]; done) | (simp; omega) | (unfold fits; omega) | (unfold fits; simp_all; omega) | (simp_all; omega) | (simp_all; done) | intro _ | exact zI ?_ ?_ | intro _))))); try (refine L.nil ?_))
    ((repeat refine S.seq ?_); refine S.ret ?_)
    rw [e1, e2]
    exact E.ret (T := tt) tt_ok rfl rfl (by (repeat' ((first | first | exact trivial | exact zA | with_reducible refine zI ?_ ?_ | exact zB | exact zC | exact zD | exact zE | rfl | exact zN rfl | omega | assumption | (simp; done) | (simp [splice]; done) | (simp; omega) | (unfold fits; omega) | (unfold fits; simp_all; omega) | (simp_all; omega) | (simp_all; done) | intro _ | exact zI ?_ ?_ | intro _)))) (F' := auR b mb x A) (Imp.refl _) (by unfold auR; (repeat (first | exact List.nil_sublist _ | refine List.Sublist.cons_cons _ ?_ | refine List.Sublist.cons _ ?_))) ⟨x, rfl, rfl⟩
  rintro ⟨⟨⟩, hcode⟩
  try dsimp only
  unfold auR
  have e1 : toldE A q key seq code = codeA code := by rw [toldE, if_neg h1n]
  have e2 : toldS A q key seq code = { A with l := A.l.eraseIdx j } := by rw [toldS, if_neg (by rintro (h | h); exact h1n h; exact hcode h), hplace]
  repeat refine S.seq ?_
  refine S.draw [(4, [40])] mixed ?_
  (refine H.ts (T := tt) [0, 1, 2, 3, 4, 5, 6, 7] tt_ok (by kernel_rfl) (by kernel_rfl) (by kernel_rfl) (by intro ch a a' w h; obtain ⟨_, _, _, _, _, h, _⟩ := h; cases h) rfl ?sd211 ?_; (try (case sd211 => (repeat' ((first | first | exact trivial | exact zA | with_reducible refine zI ?_ ?_ | exact zB | exact zC | exact zD | exact zE | rfl | exact zN rfl | omega | assumption | (simp; done) | (simp [splice]; done) | (simp; omega) | (unfold fits; omega) | (unfold fits; simp_all; omega) | (simp_all; omega) | (simp_all; done) | intro _ | exact zI ?_ ?_ | intro _))))))
  refine H.call 8 [(42, .own x 51 2 A.l.length (gOf OutD.cells A.l))] [(40, .blk b 81 [.v (.int .i64 A.pub), .ref 41 (.map (some mb)), .ref 42 x]), (41, .map mb (kOf Tryd.prog 83) (marksM A.seqs))] rfl (by kernel_rfl) (by kernel_rfl) rfl rfl rfl rfl rfl rfl rfl ⟨trivial, by (repeat' ((first | first | exact trivial | exact zA | with_reducible refine zI ?_ ?_ | exact zB | exact zC | exact zD | exact zE | rfl | exact zN rfl | omega | assumption | (simp; done) | (simp [splice]; done) | (simp; omega) | (unfold fits; omega) | (unfold fits; simp_all; omega) | (simp_all; omega) | (simp_all; done) | intro _ | exact zI ?_ ?_ | intro _)))⟩ rfl (by exact Imps.refl [.ref 42 x, .v (.int .i64 j), .v (.int .i64 (j + 1))]) (by (repeat (first | exact pick0 | refine pickS (by first | exact p0 | exact pS p0 | exact pS (pS p0) | exact pS (pS (pS p0)) | exact pS (pS (pS (pS p0))) | exact pS (pS (pS (pS (pS p0)))) | exact pS (pS (pS (pS (pS (pS p0)))))) ?_))) (DlOut (n := A.l.length) (g := gOf OutD.cells A.l) (x := x) 42 (by omega)) (by kernel_rfl) (by kernel_rfl) ?_
  rintro r F' ⟨x', rfl, rfl⟩
  (refine H.ts (T := tt) [9, 10] tt_ok (by kernel_rfl) (by kernel_rfl) (by kernel_rfl) (by intro ch a a' w h; obtain ⟨_, _, _, _, _, h, _⟩ := h; cases h) rfl ?sd212 ?_; (try (case sd212 => (repeat' ((first | first | exact trivial | exact zA | with_reducible refine zI ?_ ?_ | exact zB | exact zC | exact zD | exact zE | rfl | exact zN rfl | omega | assumption | (simp; done) | (simp [splice]; done) | (simp; omega) | (unfold fits; omega) | (unfold fits; simp_all; omega) | (simp_all; omega) | (simp_all; done) | intro _ | exact zI ?_ ?_ | intro _))))))
  (refine H.store (T := tt) 11 rfl (by kernel_rfl) (by kernel_rfl) tt_ok rfl rfl rfl rfl rfl rfl ?sd213 rfl (by kernel_rfl) ?_; (try (case sd213 => (repeat' ((first | first | exact trivial | exact zA | with_reducible refine zI ?_ ?_ | exact zB | exact zC | exact zD | exact zE | rfl | exact zN rfl | omega | assumption | (simp; done) | (simp [splice]; done) | (simp; omega) | (unfold fits; omega) | (unfold fits; simp_all; omega) | (simp_all; omega) | (simp_all; done) | intro _ | exact zI ?_ ?_ | intro _))))))
  refine H.done (by kernel_rfl) ?_
  refine ownAs 42 (gOf OutD.cells (A.l.eraseIdx j)) rfl (show A.l.length - 1 = (A.l.eraseIdx j).length by rw [List.length_eraseIdx, if_pos (by omega)]) (fun i hi => ?_) ?_
  · simp only [gOf, List.getD_eq_getElem?_getD, List.getElem?_eraseIdx]
    split <;> rfl
  ((repeat refine S.seq ?_); refine S.region (L.go (T := tt) tt_ok rfl rfl ?sd198 ?_); (try (case sd198 => (repeat' ((first | first | exact trivial | exact zA | with_reducible refine zI ?_ ?_ | exact zB | exact zC | exact zD | exact zE | rfl | exact zN rfl | omega | assumption | (simp; done) | (simp [splice]; done) | (simp; omega) | (unfold fits; omega) | (unfold fits; simp_all; omega) | (simp_all; omega) | (simp_all; done) | intro _ | exact zI ?_ ?_ | intro _))))); try (refine L.nil ?_))
  ((repeat refine S.seq ?_); refine S.ret ?_)
  rw [e1, e2]
  refine rowsTo (auR b mb x' { A with l := A.l.eraseIdx j }) (by unfold auR; (repeat (first | exact Sub.refl _ | refine Sub.pick (by first | exact p0 | exact pS p0 | exact pS (pS p0) | exact pS (pS (pS p0)) | exact pS (pS (pS (pS p0))) | exact pS (pS (pS (pS (pS p0))))) ?_))) ?_
  exact E.ret (T := tt) tt_ok rfl rfl (by (repeat' ((first | first | exact trivial | exact zA | with_reducible refine zI ?_ ?_ | exact zB | exact zC | exact zD | exact zE | rfl | exact zN rfl | omega | assumption | (simp; done) | (simp [splice]; done) | (simp; omega) | (unfold fits; omega) | (unfold fits; simp_all; omega) | (simp_all; omega) | (simp_all; done) | intro _ | exact zI ?_ ?_ | intro _)))) (Imp.refl _) (List.Sublist.refl _) ⟨x', rfl, rfl⟩

end Go.Proofs.YtfdneepgpekmiaaDoor

/- The law's own parts: keys, told. -/
namespace Go.Proofs.YtfdneepgpekmiaaDoor
set_option linter.unusedVariables false
set_option linter.unusedSimpArgs false
set_option maxHeartbeats 8000000
open Go.RowKit
set_option maxRecDepth 4000

theorem lastSeq_app (l : List Mark) (m : Mark) (q : Int) (k : ByteArray) : lastSeq (l ++ [m]) q k = if m.pub == q && m.key == k then m.seq else lastSeq l q k := by
  unfold lastSeq
  rw [List.reverse_append, show [m].reverse ++ l.reverse = m :: l.reverse from rfl, List.find?_cons]
  cases (m.pub == q && m.key == k) <;> rfl
theorem pubS_seq (A : AuD) (q : Int) (key body : ByteArray) (many : Int) (hA : ∀ q k, 0 ≤ lastSeq A.seqs q k) (q' : Int) (k' : ByteArray) : 0 ≤ lastSeq (pubS A q key body many).seqs q' k' ∧ ∀ N, (∀ q k, lastSeq A.seqs q k ≤ N) → lastSeq (pubS A q key body many).seqs q' k' ≤ N + 8 := by
  unfold pubS
  split
  · rename_i h
    have hr : 1 ≤ many ∧ many ≤ 8 := by
      unfold pubE argA at h
      split at h
      · omega
      · rename_i h2
        simp only [Bool.or_eq_true, decide_eq_true_eq, not_or] at h2
        omega
    show 0 ≤ lastSeq (A.seqs ++ [_]) q' k' ∧ _
    rw [lastSeq_app]
    have := hA q key
    split
    · exact ⟨by show 0 ≤ lastSeq A.seqs q key + many; omega, fun N hN => by have := hN q key; show lastSeq A.seqs q key + many ≤ _; omega⟩
    · exact ⟨hA q' k', fun N hN => by have := hN q' k'; omega⟩
  · exact ⟨hA q' k', fun N hN => by have := hN q' k'; omega⟩
theorem AuOk.pub {A : AuD} (ok : AuOk A) {N : Int} (hN : ∀ q k, lastSeq A.seqs q k ≤ N) (hN2 : N ≤ 99000) (q : Int) {key : ByteArray} (hk : fitS key) (body : ByteArray) (many : Int) : AuOk (pubS A q key body many) := by
  have hs := fun q' k' => pubS_seq A q key body many (fun q k => (ok.seq q k).1) q' k'
  refine ⟨?_, fun q' k' => ⟨(hs q' k').1, by have := (hs q' k').2 N hN; omega⟩, ?_⟩
  · unfold pubS
    split
    · rename_i h
      have : ¬ (A.l.length : Int) ≥ 16 := by
        intro h2
        unfold pubE at h
        split at h
        · omega
        · split at h
          · omega
          · omega
      show (A.l ++ [_]).length ≤ 16
      rw [List.length_append]
      simp
      omega
    · exact ok.len
  · unfold pubS
    split
    · rename_i h
      have hr : 0 ≤ q ∧ q < 4 ∧ 1 ≤ many ∧ many ≤ 8 := by
        unfold pubE argA at h
        split at h
        · omega
        · rename_i h2
          simp only [Bool.or_eq_true, decide_eq_true_eq, not_or] at h2
          omega
      intro o ho
      rcases List.mem_append.1 ho with ho | ho
      · exact ok.some1 o ho
      · cases List.mem_singleton.1 ho
        have hl := msgsA_len A q key body many many.toNat
        refine ⟨by show 0 < (msgsA A q key body many many.toNat).length; omega, by show (msgsA A q key body many many.toNat).length ≤ 8; omega, by unfold fitI; show _ ≤ q ∧ q ≤ _; omega, fun m hm => ?_⟩
        obtain ⟨i, -, rfl⟩ := List.mem_map.1 (show m ∈ (List.range many.toNat).map (msgA A q key body many) from hm)
        exact hk
    · exact ok.some1
theorem AuOk.told {A : AuD} (ok : AuOk A) (q : Int) (key : ByteArray) (seq code : Int) : AuOk (toldS A q key seq code) := by
  unfold toldS
  split
  · exact ok
  · refine ⟨?_, ok.seq, fun o ho => ok.some1 o (List.mem_of_mem_eraseIdx ho)⟩
    have := ok.len
    show (A.l.eraseIdx _).length ≤ 16
    rw [List.length_eraseIdx]
    split <;> omega
theorem AuOk.nil (pub : Int) : AuOk ⟨pub, [], []⟩ := ⟨by simp, fun q k => ⟨by simp [lastSeq], by simp [lastSeq]⟩, by simp⟩

theorem publish0_p (q : Int) (key body : ByteArray) (many : Int) : PFn Tryd.prog 17 [.v (.pointer none), .v (.int .i64 q), .v (.string key), .v (.string body), .v (.int .i64 many)] (.tup [.v (.int .i64 0), .v (.int .i64 7)]) := by
  refine FnC.intro Tryd.func17 rfl Tryd.ntmps17 rfl ?_; intro off w0
  ((repeat refine S.seq ?_); refine S.region (L.go (T := tt) tt_ok rfl rfl ?sd214 ?_); (try (case sd214 => (repeat' ((first | first | exact trivial | exact zA | with_reducible refine zI ?_ ?_ | exact zB | exact zC | exact zD | exact zE | rfl | exact zN rfl | omega | assumption | (simp; done) | (simp [splice]; done) | (simp; omega) | (unfold fits; omega) | (unfold fits; simp_all; omega) | (simp_all; omega) | (simp_all; done) | intro _ | exact zI ?_ ?_ | intro _))))); try (refine L.nil ?_))
  ((repeat refine S.seq ?_); refine S.region (L.go (T := tt) tt_ok rfl rfl ?sd215 ?_); (try (case sd215 => (repeat' ((first | first | exact trivial | exact zA | with_reducible refine zI ?_ ?_ | exact zB | exact zC | exact zD | exact zE | rfl | exact zN rfl | omega | assumption | (simp; done) | (simp [splice]; done) | (simp; omega) | (unfold fits; omega) | (unfold fits; simp_all; omega) | (simp_all; omega) | (simp_all; done) | intro _ | exact zI ?_ ?_ | intro _))))); try (refine L.nil ?_))
  ((repeat refine S.seq ?_); refine S.cond rfl (fun h0 => ?_) (fun h0 => ?_) <;> (try first | refine S.skip ?_ | refine S.exit ?_))
  · ((repeat refine S.seq ?_); refine S.region (L.go (T := tt) tt_ok rfl rfl ?sd216 ?_); (try (case sd216 => (repeat' ((first | first | exact trivial | exact zA | with_reducible refine zI ?_ ?_ | exact zB | exact zC | exact zD | exact zE | rfl | exact zN rfl | omega | assumption | (simp; done) | (simp [splice]; done) | (simp; omega) | (unfold fits; omega) | (unfold fits; simp_all; omega) | (simp_all; omega) | (simp_all; done) | intro _ | exact zI ?_ ?_ | intro _))))); try (refine L.nil ?_))
    (((repeat refine S.seq ?_); refine S.ret ?_); refine E.retP (T := tt) tt_ok rfl rfl (by (repeat' ((first | first | exact trivial | exact zA | with_reducible refine zI ?_ ?_ | exact zB | exact zC | exact zD | exact zE | rfl | exact zN rfl | omega | assumption | (simp; done) | (simp [splice]; done) | (simp; omega) | (unfold fits; omega) | (unfold fits; simp_all; omega) | (simp_all; omega) | (simp_all; done) | intro _ | exact zI ?_ ?_ | intro _)))) (Imp.of_eq ?_))
    rfl
  cases h0
theorem alen0_p : PFn Tryd.prog 24 [.v (.pointer none)] (.v (.int .i64 0)) := by
  refine FnC.intro Tryd.func24 rfl Tryd.ntmps24 rfl ?_; intro off w0
  ((repeat refine S.seq ?_); refine S.region (L.go (T := tt) tt_ok rfl rfl ?sd217 ?_); (try (case sd217 => (repeat' ((first | first | exact trivial | exact zA | with_reducible refine zI ?_ ?_ | exact zB | exact zC | exact zD | exact zE | rfl | exact zN rfl | omega | assumption | (simp; done) | (simp [splice]; done) | (simp; omega) | (unfold fits; omega) | (unfold fits; simp_all; omega) | (simp_all; omega) | (simp_all; done) | intro _ | exact zI ?_ ?_ | intro _))))); try (refine L.nil ?_))
  ((repeat refine S.seq ?_); refine S.region (L.go (T := tt) tt_ok rfl rfl ?sd218 ?_); (try (case sd218 => (repeat' ((first | first | exact trivial | exact zA | with_reducible refine zI ?_ ?_ | exact zB | exact zC | exact zD | exact zE | rfl | exact zN rfl | omega | assumption | (simp; done) | (simp [splice]; done) | (simp; omega) | (unfold fits; omega) | (unfold fits; simp_all; omega) | (simp_all; omega) | (simp_all; done) | intro _ | exact zI ?_ ?_ | intro _))))); try (refine L.nil ?_))
  ((repeat refine S.seq ?_); refine S.cond rfl (fun h0 => ?_) (fun h0 => ?_) <;> (try first | refine S.skip ?_ | refine S.exit ?_))
  · ((repeat refine S.seq ?_); refine S.region (L.go (T := tt) tt_ok rfl rfl ?sd219 ?_); (try (case sd219 => (repeat' ((first | first | exact trivial | exact zA | with_reducible refine zI ?_ ?_ | exact zB | exact zC | exact zD | exact zE | rfl | exact zN rfl | omega | assumption | (simp; done) | (simp [splice]; done) | (simp; omega) | (unfold fits; omega) | (unfold fits; simp_all; omega) | (simp_all; omega) | (simp_all; done) | intro _ | exact zI ?_ ?_ | intro _))))); try (refine L.nil ?_))
    (((repeat refine S.seq ?_); refine S.ret ?_); refine E.retP (T := tt) tt_ok rfl rfl (by (repeat' ((first | first | exact trivial | exact zA | with_reducible refine zI ?_ ?_ | exact zB | exact zC | exact zD | exact zE | rfl | exact zN rfl | omega | assumption | (simp; done) | (simp [splice]; done) | (simp; omega) | (unfold fits; omega) | (unfold fits; simp_all; omega) | (simp_all; omega) | (simp_all; done) | intro _ | exact zI ?_ ?_ | intro _)))) (Imp.of_eq ?_))
    rfl
  cases h0

def kE (k : Int) : Int := IntKind.i64.wrap (BitVec.ofInt IntKind.i64.bits k &&& BitVec.ofInt IntKind.i64.bits 3).toNat
def keyN (j : Int) : ByteArray := if j = 0 then ⟨#[97]⟩ else if j = 1 then ⟨#[98]⟩ else if j = 2 then ⟨#[99]⟩ else ⟨#[]⟩
theorem kE_lt (k : Int) : 0 ≤ kE k ∧ kE k < 4 := by
  have h : (BitVec.ofInt IntKind.i64.bits k &&& BitVec.ofInt IntKind.i64.bits 3).toNat < 4 := by
    rw [BitVec.toNat_and]
    exact Nat.lt_of_le_of_lt Nat.and_le_right (by decide)
  unfold kE
  generalize (BitVec.ofInt IntKind.i64.bits k &&& BitVec.ofInt IntKind.i64.bits 3).toNat = m at h
  have e : IntKind.i64.wrap (m : Int) = m := wrap_fits (by unfold fits; omega)
  rw [e]
  omega
theorem keyN_size (j : Int) : (keyN j).size ≤ 1 := by
  unfold keyN
  split
  · decide
  · split
    · decide
    · split <;> decide
theorem key_p (k : Int) : PFn Tryd.prog 18 [.v (.int .i64 k)] (.v (.string (keyN (kE k)))) := by
  have hl := kE_lt k
  obtain ⟨j, hj⟩ : ∃ j, j = kE k := ⟨_, rfl⟩
  have hj2 : j = IntKind.i64.wrap (BitVec.ofInt IntKind.i64.bits k &&& BitVec.ofInt IntKind.i64.bits 3).toNat := hj
  rw [← hj] at hl ⊢
  refine FnC.intro Tryd.func18 rfl Tryd.ntmps18 rfl ?_; intro off w0
  ((repeat refine S.seq ?_); refine S.region (L.go (T := tt) tt_ok rfl rfl ?sd220 ?_); (try (case sd220 => (repeat' ((first | first | exact trivial | exact zA | with_reducible refine zI ?_ ?_ | exact zB | exact zC | exact zD | exact zE | rfl | exact zN rfl | omega | assumption | (simp; done) | (simp [splice]; done) | (simp; omega) | (unfold fits; omega) | (unfold fits; simp_all; omega) | (simp_all; omega) | (simp_all; done) | intro _ | exact zI ?_ ?_ | intro _))))); try (refine L.nil ?_))
  repeat refine S.seq ?_
  refine S.region ?_
  refine L.buildSlice (T := tt) 60 tt_ok rfl rfl rfl rfl rfl rfl (by decide) (by decide) rfl rfl (by (repeat' ((first | first | exact trivial | exact zA | with_reducible refine zI ?_ ?_ | exact zB | exact zC | exact zD | exact zE | rfl | exact zN rfl | omega | assumption | (simp; done) | (simp [splice]; done) | (simp; omega) | (unfold fits; omega) | (unfold fits; simp_all; omega) | (simp_all; omega) | (simp_all; done) | intro _ | exact zI ?_ ?_ | intro _)))) fun x3 => ?_
  refine freezeSlot 3 60 rfl rfl rfl ?_
  have hj4 : j = 0 ∨ j = 1 ∨ j = 2 ∨ j = 3 := by omega
  refine L.run (T := tt) 2 tt_ok rfl rfl (by (repeat' ((first | first | exact trivial | exact zA | with_reducible refine zI ?_ ?_ | exact zB | exact zC | exact zD | exact zE | rfl | exact zN rfl | omega | assumption | (simp; done) | (simp [splice]; done) | (simp; omega) | (unfold fits; omega) | (unfold fits; simp_all; omega) | (simp_all; omega) | (simp_all; done) | intro _ | exact zI ?_ ?_ | intro _)))) ?_
  rcases hj4 with hj5 | hj5 | hj5 | hj5
  · refine slotAs 5 (.v (.int .i64 0)) rfl (Imp.of_eq (by rw [← hj2, hj5])) ?_
    (refine L.go (T := tt) tt_ok rfl rfl ?sd221 ?_; (try (case sd221 => (repeat' ((first | first | exact trivial | exact zA | with_reducible refine zI ?_ ?_ | exact zB | exact zC | exact zD | exact zE | rfl | exact zN rfl | omega | assumption | (simp; done) | (simp [splice]; done) | (simp; omega) | (unfold fits; omega) | (unfold fits; simp_all; omega) | (simp_all; omega) | (simp_all; done) | intro _ | exact zI ?_ ?_ | intro _))))); try (refine L.nil ?_))
    (((repeat refine S.seq ?_); refine S.ret ?_); refine E.retP (T := tt) tt_ok rfl rfl (by (repeat' ((first | first | exact trivial | exact zA | with_reducible refine zI ?_ ?_ | exact zB | exact zC | exact zD | exact zE | rfl | exact zN rfl | omega | assumption | (simp; done) | (simp [splice]; done) | (simp; omega) | (unfold fits; omega) | (unfold fits; simp_all; omega) | (simp_all; omega) | (simp_all; done) | intro _ | exact zI ?_ ?_ | intro _)))) (Imp.of_eq ?_))
    rw [hj5]
    rfl
  · refine slotAs 5 (.v (.int .i64 1)) rfl (Imp.of_eq (by rw [← hj2, hj5])) ?_
    (refine L.go (T := tt) tt_ok rfl rfl ?sd222 ?_; (try (case sd222 => (repeat' ((first | first | exact trivial | exact zA | with_reducible refine zI ?_ ?_ | exact zB | exact zC | exact zD | exact zE | rfl | exact zN rfl | omega | assumption | (simp; done) | (simp [splice]; done) | (simp; omega) | (unfold fits; omega) | (unfold fits; simp_all; omega) | (simp_all; omega) | (simp_all; done) | intro _ | exact zI ?_ ?_ | intro _))))); try (refine L.nil ?_))
    (((repeat refine S.seq ?_); refine S.ret ?_); refine E.retP (T := tt) tt_ok rfl rfl (by (repeat' ((first | first | exact trivial | exact zA | with_reducible refine zI ?_ ?_ | exact zB | exact zC | exact zD | exact zE | rfl | exact zN rfl | omega | assumption | (simp; done) | (simp [splice]; done) | (simp; omega) | (unfold fits; omega) | (unfold fits; simp_all; omega) | (simp_all; omega) | (simp_all; done) | intro _ | exact zI ?_ ?_ | intro _)))) (Imp.of_eq ?_))
    rw [hj5]
    rfl
  · refine slotAs 5 (.v (.int .i64 2)) rfl (Imp.of_eq (by rw [← hj2, hj5])) ?_
    (refine L.go (T := tt) tt_ok rfl rfl ?sd223 ?_; (try (case sd223 => (repeat' ((first | first | exact trivial | exact zA | with_reducible refine zI ?_ ?_ | exact zB | exact zC | exact zD | exact zE | rfl | exact zN rfl | omega | assumption | (simp; done) | (simp [splice]; done) | (simp; omega) | (unfold fits; omega) | (unfold fits; simp_all; omega) | (simp_all; omega) | (simp_all; done) | intro _ | exact zI ?_ ?_ | intro _))))); try (refine L.nil ?_))
    (((repeat refine S.seq ?_); refine S.ret ?_); refine E.retP (T := tt) tt_ok rfl rfl (by (repeat' ((first | first | exact trivial | exact zA | with_reducible refine zI ?_ ?_ | exact zB | exact zC | exact zD | exact zE | rfl | exact zN rfl | omega | assumption | (simp; done) | (simp [splice]; done) | (simp; omega) | (unfold fits; omega) | (unfold fits; simp_all; omega) | (simp_all; omega) | (simp_all; done) | intro _ | exact zI ?_ ?_ | intro _)))) (Imp.of_eq ?_))
    rw [hj5]
    rfl
  · refine slotAs 5 (.v (.int .i64 3)) rfl (Imp.of_eq (by rw [← hj2, hj5])) ?_
    (refine L.go (T := tt) tt_ok rfl rfl ?sd224 ?_; (try (case sd224 => (repeat' ((first | first | exact trivial | exact zA | with_reducible refine zI ?_ ?_ | exact zB | exact zC | exact zD | exact zE | rfl | exact zN rfl | omega | assumption | (simp; done) | (simp [splice]; done) | (simp; omega) | (unfold fits; omega) | (unfold fits; simp_all; omega) | (simp_all; omega) | (simp_all; done) | intro _ | exact zI ?_ ?_ | intro _))))); try (refine L.nil ?_))
    (((repeat refine S.seq ?_); refine S.ret ?_); refine E.retP (T := tt) tt_ok rfl rfl (by (repeat' ((first | first | exact trivial | exact zA | with_reducible refine zI ?_ ?_ | exact zB | exact zC | exact zD | exact zE | rfl | exact zN rfl | omega | assumption | (simp; done) | (simp [splice]; done) | (simp; omega) | (unfold fits; omega) | (unfold fits; simp_all; omega) | (simp_all; omega) | (simp_all; done) | intro _ | exact zI ?_ ?_ | intro _)))) (Imp.of_eq ?_))
    rw [hj5]
    rfl

def kB : ByteArray := ⟨#[107]⟩
def bB : ByteArray := ⟨#[98]⟩
def cB : ByteArray := ⟨#[99]⟩
def tM1 : Msg := ⟨1, 1, kB, ⟨#[98, 48]⟩, false⟩
def tM2 : Msg := ⟨1, 2, kB, ⟨#[98, 49]⟩, false⟩
def tM3 : Msg := ⟨1, 3, kB, cB, false⟩
def tA0 : AuD := ⟨1, [], []⟩
def tA1 : AuD := ⟨1, [⟨0, kB, 2⟩], [⟨0, [tM1, tM2]⟩]⟩
def tA2 : AuD := ⟨1, [⟨0, kB, 2⟩, ⟨0, kB, 3⟩], [⟨0, [tM1, tM2]⟩, ⟨0, [tM3]⟩]⟩
def tA3 : AuD := ⟨1, [⟨0, kB, 2⟩, ⟨0, kB, 3⟩], [⟨0, [tM3]⟩]⟩
theorem t1 : pubE tA0 0 kB bB 2 = 0 ∧ pubS tA0 0 kB bB 2 = tA1 ∧ lastSeq tA0.seqs 0 kB = 0 := by decide +kernel
theorem t2 : pubE tA1 0 kB cB 1 = 0 ∧ pubS tA1 0 kB cB 1 = tA2 ∧ lastSeq tA1.seqs 0 kB = 2 := by decide +kernel
theorem t3 : nextO tA2.l tA2.l.length = [⟨0, [tM1, tM2]⟩] := by decide +kernel
theorem t4 : toldE tA2 0 kB 3 0 = 3 ∧ toldS tA2 0 kB 3 0 = tA2 := by decide +kernel
theorem t5 : toldE tA2 0 kB 2 6 = 7 ∧ toldS tA2 0 kB 2 6 = tA2 := by decide +kernel
theorem t6 : toldE tA2 0 kB 2 8 = 0 ∧ toldS tA2 0 kB 2 8 = tA3 := by decide +kernel
theorem t7 : nextO tA3.l tA3.l.length = [⟨0, [tM3]⟩] := by decide +kernel
theorem fitk : fitS kB := by unfold fitS; decide
theorem okA1 : AuOk tA1 := by
  have := (AuOk.nil 1).pub (N := 0) (fun q k => by simp [lastSeq]) (by decide) 0 fitk bB 2
  rwa [show (⟨1, [], []⟩ : AuD) = tA0 from rfl, t1.2.1] at this
theorem okA2 : AuOk tA2 := by
  have := okA1.pub (N := 8) (fun q k => by
    have := (pubS_seq tA0 0 kB bB 2 (fun q k => by simp [tA0, lastSeq]) q k).2 0 (fun q k => by simp [tA0, lastSeq])
    rwa [t1.2.1] at this) (by decide) 0 fitk cB 1
  rwa [t2.2.1] at this
theorem okA3 : AuOk tA3 := by
  have := okA2.told 0 kB 2 8
  rwa [t6.2] at this

end Go.Proofs.YtfdneepgpekmiaaDoor

/- The law's told. -/
namespace Go.Proofs.YtfdneepgpekmiaaDoor
set_option linter.unusedVariables false
set_option linter.unusedSimpArgs false
set_option maxHeartbeats 8000000
open Go.RowKit
set_option maxRecDepth 4000

theorem told20_p : PFn Tryd.prog 15 [] (.v (.bool true)) := by
  refine FnC.intro Tryd.func15 rfl Tryd.ntmps15 rfl ?_; intro off w0
  ((repeat refine S.seq ?_); refine S.region (L.go (T := tt) tt_ok rfl rfl ?sd225 ?_); (try (case sd225 => (repeat' ((first | first | exact trivial | exact zA | with_reducible refine zI ?_ ?_ | exact zB | exact zC | exact zD | exact zE | rfl | exact zN rfl | omega | assumption | (simp; done) | (simp [splice]; done) | (simp; omega) | (unfold fits; omega) | (unfold fits; simp_all; omega) | (simp_all; omega) | (simp_all; done) | intro _ | exact zI ?_ ?_ | intro _))))); try (refine L.nil ?_))
  repeat refine S.seq ?_
  refine S.region ?_
  refine L.call (G := []) rfl rfl rfl rfl rfl rfl rfl ⟨trivial, by (repeat' ((first | first | exact trivial | exact zA | with_reducible refine zI ?_ ?_ | exact zB | exact zC | exact zD | exact zE | rfl | exact zN rfl | omega | assumption | (simp; done) | (simp [splice]; done) | (simp; omega) | (unfold fits; omega) | (unfold fits; simp_all; omega) | (simp_all; omega) | (simp_all; done) | intro _ | exact zI ?_ ?_ | intro _)))⟩ rfl (Imps.refl _) (by (repeat (first | exact pick0 | refine pickS (by first | exact p0 | exact pS p0 | exact pS (pS p0) | exact pS (pS (pS p0)) | exact pS (pS (pS (pS p0))) | exact pS (pS (pS (pS (pS p0)))) | exact pS (pS (pS (pS (pS (pS p0)))))) ?_))) (anew_p 1 (by decide) (by decide)) ?_
  rintro r F' ⟨b, mb, rfl, rfl⟩
  (refine L.go (T := tt) tt_ok rfl rfl ?sd230 ?_; (try (case sd230 => (repeat' ((first | first | exact trivial | exact zA | with_reducible refine zI ?_ ?_ | exact zB | exact zC | exact zD | exact zE | rfl | exact zN rfl | omega | assumption | (simp; done) | (simp [splice]; done) | (simp; omega) | (unfold fits; omega) | (unfold fits; simp_all; omega) | (simp_all; omega) | (simp_all; done) | intro _ | exact zI ?_ ?_ | intro _))))); try (refine L.nil ?_))
  ((repeat refine S.seq ?_); refine S.region (L.go (T := tt) tt_ok rfl rfl ?sd226 ?_); (try (case sd226 => (repeat' ((first | first | exact trivial | exact zA | with_reducible refine zI ?_ ?_ | exact zB | exact zC | exact zD | exact zE | rfl | exact zN rfl | omega | assumption | (simp; done) | (simp [splice]; done) | (simp; omega) | (unfold fits; omega) | (unfold fits; simp_all; omega) | (simp_all; omega) | (simp_all; done) | intro _ | exact zI ?_ ?_ | intro _))))); try (refine L.nil ?_))
  ((repeat refine S.seq ?_); refine S.cond rfl (fun h1 => ?_) (fun h1 => ?_) <;> (try first | refine S.skip ?_ | refine S.exit ?_))
  · cases h1
  repeat refine S.seq ?_
  refine S.region ?_
  (refine L.go (T := tt) tt_ok rfl rfl ?sd231 ?_; (try (case sd231 => (repeat' ((first | first | exact trivial | exact zA | with_reducible refine zI ?_ ?_ | exact zB | exact zC | exact zD | exact zE | rfl | exact zN rfl | omega | assumption | (simp; done) | (simp [splice]; done) | (simp; omega) | (unfold fits; omega) | (unfold fits; simp_all; omega) | (simp_all; omega) | (simp_all; done) | intro _ | exact zI ?_ ?_ | intro _))))); try (refine L.nil ?_))
  refine L.call (G := auR b mb (.slice none 0 0) tA0) (H := []) rfl rfl rfl rfl rfl rfl rfl ⟨trivial, by (repeat' ((first | first | exact trivial | exact zA | with_reducible refine zI ?_ ?_ | exact zB | exact zC | exact zD | exact zE | rfl | exact zN rfl | omega | assumption | (simp; done) | (simp [splice]; done) | (simp; omega) | (unfold fits; omega) | (unfold fits; simp_all; omega) | (simp_all; omega) | (simp_all; done) | intro _ | exact zI ?_ ?_ | intro _)))⟩ rfl (by exact Imps.refl _) (by unfold auR; (repeat (first | exact pick0 | refine pickS (by first | exact p0 | exact pS p0 | exact pS (pS p0) | exact pS (pS (pS p0)) | exact pS (pS (pS (pS p0))) | exact pS (pS (pS (pS (pS p0)))) | exact pS (pS (pS (pS (pS (pS p0)))))) ?_))) (publish_p b mb (.slice none 0 0) tA0 0 kB bB 2 (AuOk.nil 1) fitk (by decide)) ?_
  rintro r F' ⟨x1, rfl, rfl⟩
  rw [t1.1, t1.2.1, t1.2.2]
  (refine L.go (T := tt) tt_ok rfl rfl ?sd232 ?_; (try (case sd232 => (repeat' ((first | first | exact trivial | exact zA | with_reducible refine zI ?_ ?_ | exact zB | exact zC | exact zD | exact zE | rfl | exact zN rfl | omega | assumption | (simp; done) | (simp [splice]; done) | (simp; omega) | (unfold fits; omega) | (unfold fits; simp_all; omega) | (simp_all; omega) | (simp_all; done) | intro _ | exact zI ?_ ?_ | intro _))))); try (refine L.nil ?_))
  repeat refine S.seq ?_
  refine S.region ?_
  (refine L.go (T := tt) tt_ok rfl rfl ?sd233 ?_; (try (case sd233 => (repeat' ((first | first | exact trivial | exact zA | with_reducible refine zI ?_ ?_ | exact zB | exact zC | exact zD | exact zE | rfl | exact zN rfl | omega | assumption | (simp; done) | (simp [splice]; done) | (simp; omega) | (unfold fits; omega) | (unfold fits; simp_all; omega) | (simp_all; omega) | (simp_all; done) | intro _ | exact zI ?_ ?_ | intro _))))); try (refine L.nil ?_))
  refine L.call (G := auR b mb x1 tA1) (H := []) rfl rfl rfl rfl rfl rfl rfl ⟨trivial, by (repeat' ((first | first | exact trivial | exact zA | with_reducible refine zI ?_ ?_ | exact zB | exact zC | exact zD | exact zE | rfl | exact zN rfl | omega | assumption | (simp; done) | (simp [splice]; done) | (simp; omega) | (unfold fits; omega) | (unfold fits; simp_all; omega) | (simp_all; omega) | (simp_all; done) | intro _ | exact zI ?_ ?_ | intro _)))⟩ rfl (by exact Imps.refl _) (by unfold auR; (repeat (first | exact pick0 | refine pickS (by first | exact p0 | exact pS p0 | exact pS (pS p0) | exact pS (pS (pS p0)) | exact pS (pS (pS (pS p0))) | exact pS (pS (pS (pS (pS p0)))) | exact pS (pS (pS (pS (pS (pS p0)))))) ?_))) (publish_p b mb x1 tA1 0 kB cB 1 okA1 fitk (by decide)) ?_
  rintro r F' ⟨x2, rfl, rfl⟩
  rw [t2.1, t2.2.1, t2.2.2]
  (refine L.go (T := tt) tt_ok rfl rfl ?sd234 ?_; (try (case sd234 => (repeat' ((first | first | exact trivial | exact zA | with_reducible refine zI ?_ ?_ | exact zB | exact zC | exact zD | exact zE | rfl | exact zN rfl | omega | assumption | (simp; done) | (simp [splice]; done) | (simp; omega) | (unfold fits; omega) | (unfold fits; simp_all; omega) | (simp_all; omega) | (simp_all; done) | intro _ | exact zI ?_ ?_ | intro _))))); try (refine L.nil ?_))
  repeat refine S.seq ?_
  refine S.region ?_
  (refine L.go (T := tt) tt_ok rfl rfl ?sd235 ?_; (try (case sd235 => (repeat' ((first | first | exact trivial | exact zA | with_reducible refine zI ?_ ?_ | exact zB | exact zC | exact zD | exact zE | rfl | exact zN rfl | omega | assumption | (simp; done) | (simp [splice]; done) | (simp; omega) | (unfold fits; omega) | (unfold fits; simp_all; omega) | (simp_all; omega) | (simp_all; done) | intro _ | exact zI ?_ ?_ | intro _))))); try (refine L.nil ?_))
  refine L.call (G := auR b mb x2 tA2) (H := []) rfl rfl rfl rfl rfl rfl rfl ⟨trivial, by (repeat' ((first | first | exact trivial | exact zA | with_reducible refine zI ?_ ?_ | exact zB | exact zC | exact zD | exact zE | rfl | exact zN rfl | omega | assumption | (simp; done) | (simp [splice]; done) | (simp; omega) | (unfold fits; omega) | (unfold fits; simp_all; omega) | (simp_all; omega) | (simp_all; done) | intro _ | exact zI ?_ ?_ | intro _)))⟩ rfl (by exact Imps.refl _) (by unfold auR; (repeat (first | exact pick0 | refine pickS (by first | exact p0 | exact pS p0 | exact pS (pS p0) | exact pS (pS (pS p0)) | exact pS (pS (pS (pS p0))) | exact pS (pS (pS (pS (pS p0)))) | exact pS (pS (pS (pS (pS (pS p0)))))) ?_))) (next_p b mb x2 tA2 okA2) ?_
  rintro r F' ⟨y1, rfl, rfl⟩
  rw [t3]
  refine freezeSlot 28 46 rfl rfl rfl ?_
  (refine L.go (T := tt) tt_ok rfl rfl ?sd236 ?_; (try (case sd236 => (repeat' ((first | first | exact trivial | exact zA | with_reducible refine zI ?_ ?_ | exact zB | exact zC | exact zD | exact zE | rfl | exact zN rfl | omega | assumption | (simp; done) | (simp [splice]; done) | (simp; omega) | (unfold fits; omega) | (unfold fits; simp_all; omega) | (simp_all; omega) | (simp_all; done) | intro _ | exact zI ?_ ?_ | intro _))))); try (refine L.nil ?_))
  repeat refine S.seq ?_
  refine S.region ?_
  (refine L.go (T := tt) tt_ok rfl rfl ?sd237 ?_; (try (case sd237 => (repeat' ((first | first | exact trivial | exact zA | with_reducible refine zI ?_ ?_ | exact zB | exact zC | exact zD | exact zE | rfl | exact zN rfl | omega | assumption | (simp; done) | (simp [splice]; done) | (simp; omega) | (unfold fits; omega) | (unfold fits; simp_all; omega) | (simp_all; omega) | (simp_all; done) | intro _ | exact zI ?_ ?_ | intro _))))); try (refine L.nil ?_))
  refine L.call (G := auR b mb x2 tA2) (H := []) rfl rfl rfl rfl rfl rfl rfl ⟨trivial, by (repeat' ((first | first | exact trivial | exact zA | with_reducible refine zI ?_ ?_ | exact zB | exact zC | exact zD | exact zE | rfl | exact zN rfl | omega | assumption | (simp; done) | (simp [splice]; done) | (simp; omega) | (unfold fits; omega) | (unfold fits; simp_all; omega) | (simp_all; omega) | (simp_all; done) | intro _ | exact zI ?_ ?_ | intro _)))⟩ rfl (by exact Imps.refl _) (by unfold auR; (repeat (first | exact pick0 | refine pickS (by first | exact p0 | exact pS p0 | exact pS (pS p0) | exact pS (pS (pS p0)) | exact pS (pS (pS (pS p0))) | exact pS (pS (pS (pS (pS p0)))) | exact pS (pS (pS (pS (pS (pS p0)))))) ?_))) (told_p b mb x2 tA2 0 kB 3 0 okA2) ?_
  rintro r F' ⟨x3, rfl, rfl⟩
  rw [t4.1, t4.2]
  (refine L.go (T := tt) tt_ok rfl rfl ?sd238 ?_; (try (case sd238 => (repeat' ((first | first | exact trivial | exact zA | with_reducible refine zI ?_ ?_ | exact zB | exact zC | exact zD | exact zE | rfl | exact zN rfl | omega | assumption | (simp; done) | (simp [splice]; done) | (simp; omega) | (unfold fits; omega) | (unfold fits; simp_all; omega) | (simp_all; omega) | (simp_all; done) | intro _ | exact zI ?_ ?_ | intro _))))); try (refine L.nil ?_))
  repeat refine S.seq ?_
  refine S.region ?_
  (refine L.go (T := tt) tt_ok rfl rfl ?sd239 ?_; (try (case sd239 => (repeat' ((first | first | exact trivial | exact zA | with_reducible refine zI ?_ ?_ | exact zB | exact zC | exact zD | exact zE | rfl | exact zN rfl | omega | assumption | (simp; done) | (simp [splice]; done) | (simp; omega) | (unfold fits; omega) | (unfold fits; simp_all; omega) | (simp_all; omega) | (simp_all; done) | intro _ | exact zI ?_ ?_ | intro _))))); try (refine L.nil ?_))
  refine L.call (G := auR b mb x3 tA2) (H := []) rfl rfl rfl rfl rfl rfl rfl ⟨trivial, by (repeat' ((first | first | exact trivial | exact zA | with_reducible refine zI ?_ ?_ | exact zB | exact zC | exact zD | exact zE | rfl | exact zN rfl | omega | assumption | (simp; done) | (simp [splice]; done) | (simp; omega) | (unfold fits; omega) | (unfold fits; simp_all; omega) | (simp_all; omega) | (simp_all; done) | intro _ | exact zI ?_ ?_ | intro _)))⟩ rfl (by exact Imps.refl _) (by unfold auR; (repeat (first | exact pick0 | refine pickS (by first | exact p0 | exact pS p0 | exact pS (pS p0) | exact pS (pS (pS p0)) | exact pS (pS (pS (pS p0))) | exact pS (pS (pS (pS (pS p0)))) | exact pS (pS (pS (pS (pS (pS p0)))))) ?_))) (told_p b mb x3 tA2 0 kB 2 6 okA2) ?_
  rintro r F' ⟨x4, rfl, rfl⟩
  rw [t5.1, t5.2]
  (refine L.go (T := tt) tt_ok rfl rfl ?sd240 ?_; (try (case sd240 => (repeat' ((first | first | exact trivial | exact zA | with_reducible refine zI ?_ ?_ | exact zB | exact zC | exact zD | exact zE | rfl | exact zN rfl | omega | assumption | (simp; done) | (simp [splice]; done) | (simp; omega) | (unfold fits; omega) | (unfold fits; simp_all; omega) | (simp_all; omega) | (simp_all; done) | intro _ | exact zI ?_ ?_ | intro _))))); try (refine L.nil ?_))
  repeat refine S.seq ?_
  refine S.region ?_
  (refine L.go (T := tt) tt_ok rfl rfl ?sd241 ?_; (try (case sd241 => (repeat' ((first | first | exact trivial | exact zA | with_reducible refine zI ?_ ?_ | exact zB | exact zC | exact zD | exact zE | rfl | exact zN rfl | omega | assumption | (simp; done) | (simp [splice]; done) | (simp; omega) | (unfold fits; omega) | (unfold fits; simp_all; omega) | (simp_all; omega) | (simp_all; done) | intro _ | exact zI ?_ ?_ | intro _))))); try (refine L.nil ?_))
  refine L.call (G := auR b mb x4 tA2) (H := []) rfl rfl rfl rfl rfl rfl rfl ⟨trivial, by (repeat' ((first | first | exact trivial | exact zA | with_reducible refine zI ?_ ?_ | exact zB | exact zC | exact zD | exact zE | rfl | exact zN rfl | omega | assumption | (simp; done) | (simp [splice]; done) | (simp; omega) | (unfold fits; omega) | (unfold fits; simp_all; omega) | (simp_all; omega) | (simp_all; done) | intro _ | exact zI ?_ ?_ | intro _)))⟩ rfl (by exact Imps.refl _) (by unfold auR; (repeat (first | exact pick0 | refine pickS (by first | exact p0 | exact pS p0 | exact pS (pS p0) | exact pS (pS (pS p0)) | exact pS (pS (pS (pS p0))) | exact pS (pS (pS (pS (pS p0)))) | exact pS (pS (pS (pS (pS (pS p0)))))) ?_))) (told_p b mb x4 tA2 0 kB 2 8 okA2) ?_
  rintro r F' ⟨x5, rfl, rfl⟩
  rw [t6.1, t6.2]
  (refine L.go (T := tt) tt_ok rfl rfl ?sd242 ?_; (try (case sd242 => (repeat' ((first | first | exact trivial | exact zA | with_reducible refine zI ?_ ?_ | exact zB | exact zC | exact zD | exact zE | rfl | exact zN rfl | omega | assumption | (simp; done) | (simp [splice]; done) | (simp; omega) | (unfold fits; omega) | (unfold fits; simp_all; omega) | (simp_all; omega) | (simp_all; done) | intro _ | exact zI ?_ ?_ | intro _))))); try (refine L.nil ?_))
  repeat refine S.seq ?_
  refine S.region ?_
  (refine L.go (T := tt) tt_ok rfl rfl ?sd243 ?_; (try (case sd243 => (repeat' ((first | first | exact trivial | exact zA | with_reducible refine zI ?_ ?_ | exact zB | exact zC | exact zD | exact zE | rfl | exact zN rfl | omega | assumption | (simp; done) | (simp [splice]; done) | (simp; omega) | (unfold fits; omega) | (unfold fits; simp_all; omega) | (simp_all; omega) | (simp_all; done) | intro _ | exact zI ?_ ?_ | intro _))))); try (refine L.nil ?_))
  refine L.call (G := auR b mb x5 tA3) (H := []) rfl rfl rfl rfl rfl rfl rfl ⟨trivial, by (repeat' ((first | first | exact trivial | exact zA | with_reducible refine zI ?_ ?_ | exact zB | exact zC | exact zD | exact zE | rfl | exact zN rfl | omega | assumption | (simp; done) | (simp [splice]; done) | (simp; omega) | (unfold fits; omega) | (unfold fits; simp_all; omega) | (simp_all; omega) | (simp_all; done) | intro _ | exact zI ?_ ?_ | intro _)))⟩ rfl (by exact Imps.refl _) (by unfold auR; (repeat (first | exact pick0 | refine pickS (by first | exact p0 | exact pS p0 | exact pS (pS p0) | exact pS (pS (pS p0)) | exact pS (pS (pS (pS p0))) | exact pS (pS (pS (pS (pS p0)))) | exact pS (pS (pS (pS (pS (pS p0)))))) ?_))) (next_p b mb x5 tA3 okA3) ?_
  rintro r F' ⟨y2, rfl, rfl⟩
  rw [t7]
  refine freezeSlot 36 46 rfl rfl rfl ?_
  (refine L.go (T := tt) tt_ok rfl rfl ?sd244 ?_; (try (case sd244 => (repeat' ((first | first | exact trivial | exact zA | with_reducible refine zI ?_ ?_ | exact zB | exact zC | exact zD | exact zE | rfl | exact zN rfl | omega | assumption | (simp; done) | (simp [splice]; done) | (simp; omega) | (unfold fits; omega) | (unfold fits; simp_all; omega) | (simp_all; omega) | (simp_all; done) | intro _ | exact zI ?_ ?_ | intro _))))); try (refine L.nil ?_))
  ((repeat refine S.seq ?_); refine S.region (L.go (T := tt) tt_ok rfl rfl ?sd227 ?_); (try (case sd227 => (repeat' ((first | first | exact trivial | exact zA | with_reducible refine zI ?_ ?_ | exact zB | exact zC | exact zD | exact zE | rfl | exact zN rfl | omega | assumption | (simp; done) | (simp [splice]; done) | (simp; omega) | (unfold fits; omega) | (unfold fits; simp_all; omega) | (simp_all; omega) | (simp_all; done) | intro _ | exact zI ?_ ?_ | intro _))))); try (refine L.nil ?_))
  ((repeat refine S.seq ?_); refine S.region (L.go (T := tt) tt_ok rfl rfl ?sd228 ?_); (try (case sd228 => (repeat' ((first | first | exact trivial | exact zA | with_reducible refine zI ?_ ?_ | exact zB | exact zC | exact zD | exact zE | rfl | exact zN rfl | omega | assumption | (simp; done) | (simp [splice]; done) | (simp; omega) | (unfold fits; omega) | (unfold fits; simp_all; omega) | (simp_all; omega) | (simp_all; done) | intro _ | exact zI ?_ ?_ | intro _))))); try (refine L.nil ?_))
  refine L.callP rfl rfl rfl rfl rfl rfl rfl ⟨trivial, by (repeat' ((first | first | exact trivial | exact zA | with_reducible refine zI ?_ ?_ | exact zB | exact zC | exact zD | exact zE | rfl | exact zN rfl | omega | assumption | (simp; done) | (simp [splice]; done) | (simp; omega) | (unfold fits; omega) | (unfold fits; simp_all; omega) | (simp_all; omega) | (simp_all; done) | intro _ | exact zI ?_ ?_ | intro _)))⟩ rfl (Imps.refl _) (publish0_p 0 kB bB 1) ?_
  (refine L.go (T := tt) tt_ok rfl rfl ?sd245 ?_; (try (case sd245 => (repeat' ((first | first | exact trivial | exact zA | with_reducible refine zI ?_ ?_ | exact zB | exact zC | exact zD | exact zE | rfl | exact zN rfl | omega | assumption | (simp; done) | (simp [splice]; done) | (simp; omega) | (unfold fits; omega) | (unfold fits; simp_all; omega) | (simp_all; omega) | (simp_all; done) | intro _ | exact zI ?_ ?_ | intro _))))); try (refine L.nil ?_))
  ((repeat refine S.seq ?_); refine S.region (L.go (T := tt) tt_ok rfl rfl ?sd229 ?_); (try (case sd229 => (repeat' ((first | first | exact trivial | exact zA | with_reducible refine zI ?_ ?_ | exact zB | exact zC | exact zD | exact zE | rfl | exact zN rfl | omega | assumption | (simp; done) | (simp [splice]; done) | (simp; omega) | (unfold fits; omega) | (unfold fits; simp_all; omega) | (simp_all; omega) | (simp_all; done) | intro _ | exact zI ?_ ?_ | intro _))))); try (refine L.nil ?_))
  refine L.callT (G := auR b mb x5 tA3) (H := []) rfl rfl rfl rfl rfl rfl rfl rfl ⟨trivial, by (repeat' ((first | first | exact trivial | exact zA | with_reducible refine zI ?_ ?_ | exact zB | exact zC | exact zD | exact zE | rfl | exact zN rfl | omega | assumption | (simp; done) | (simp [splice]; done) | (simp; omega) | (unfold fits; omega) | (unfold fits; simp_all; omega) | (simp_all; omega) | (simp_all; done) | intro _ | exact zI ?_ ?_ | intro _)))⟩ rfl (by exact Imps.refl _) (by unfold auR; (repeat (first | exact pick0 | refine pickS (by first | exact p0 | exact pS p0 | exact pS (pS p0) | exact pS (pS (pS p0)) | exact pS (pS (pS (pS p0))) | exact pS (pS (pS (pS (pS p0)))) | exact pS (pS (pS (pS (pS (pS p0)))))) ?_))) (alen_p b mb x5 tA3) ?_
  rintro r F' ⟨rfl, rfl⟩
  (refine L.go (T := tt) tt_ok rfl rfl ?sd246 ?_; (try (case sd246 => (repeat' ((first | first | exact trivial | exact zA | with_reducible refine zI ?_ ?_ | exact zB | exact zC | exact zD | exact zE | rfl | exact zN rfl | omega | assumption | (simp; done) | (simp [splice]; done) | (simp; omega) | (unfold fits; omega) | (unfold fits; simp_all; omega) | (simp_all; omega) | (simp_all; done) | intro _ | exact zI ?_ ?_ | intro _))))); try (refine L.nil ?_))
  refine L.callG rfl rfl rfl rfl rfl rfl rfl (fun _ => ⟨trivial, by (repeat' ((first | first | exact trivial | exact zA | with_reducible refine zI ?_ ?_ | exact zB | exact zC | exact zD | exact zE | rfl | exact zN rfl | omega | assumption | (simp; done) | (simp [splice]; done) | (simp; omega) | (unfold fits; omega) | (unfold fits; simp_all; omega) | (simp_all; omega) | (simp_all; done) | intro _ | exact zI ?_ ?_ | intro _)))⟩) rfl (Imps.refl _) (fun _ => (anew0_p 9 (by decide))) ?_
  (refine L.go (T := tt) tt_ok rfl rfl ?sd247 ?_; (try (case sd247 => (repeat' ((first | first | exact trivial | exact zA | with_reducible refine zI ?_ ?_ | exact zB | exact zC | exact zD | exact zE | rfl | exact zN rfl | omega | assumption | (simp; done) | (simp [splice]; done) | (simp; omega) | (unfold fits; omega) | (unfold fits; simp_all; omega) | (simp_all; omega) | (simp_all; done) | intro _ | exact zI ?_ ?_ | intro _))))); try (refine L.nil ?_))
  refine L.callG rfl rfl rfl rfl rfl rfl rfl (fun _ => ⟨trivial, by (repeat' ((first | first | exact trivial | exact zA | with_reducible refine zI ?_ ?_ | exact zB | exact zC | exact zD | exact zE | rfl | exact zN rfl | omega | assumption | (simp; done) | (simp [splice]; done) | (simp; omega) | (unfold fits; omega) | (unfold fits; simp_all; omega) | (simp_all; omega) | (simp_all; done) | intro _ | exact zI ?_ ?_ | intro _)))⟩) rfl (Imps.refl _) (fun _ => alen0_p) ?_
  (refine L.go (T := tt) tt_ok rfl rfl ?sd248 ?_; (try (case sd248 => (repeat' ((first | first | exact trivial | exact zA | with_reducible refine zI ?_ ?_ | exact zB | exact zC | exact zD | exact zE | rfl | exact zN rfl | omega | assumption | (simp; done) | (simp [splice]; done) | (simp; omega) | (unfold fits; omega) | (unfold fits; simp_all; omega) | (simp_all; omega) | (simp_all; done) | intro _ | exact zI ?_ ?_ | intro _))))); try (refine L.nil ?_))
  (((repeat refine S.seq ?_); refine S.ret ?_); refine E.retP (T := tt) tt_ok rfl rfl (by (repeat' ((first | first | exact trivial | exact zA | with_reducible refine zI ?_ ?_ | exact zB | exact zC | exact zD | exact zE | rfl | exact zN rfl | omega | assumption | (simp; done) | (simp [splice]; done) | (simp; omega) | (unfold fits; omega) | (unfold fits; simp_all; omega) | (simp_all; omega) | (simp_all; done) | intro _ | exact zI ?_ ?_ | intro _)))) (Imp.of_eq ?_))
  kernel_rfl

end Go.Proofs.YtfdneepgpekmiaaDoor
