/- slices.Delete of one element, at pace.sent, in a row of the program's own. -/
import Derived.Test.YtglmdoghknpgkaaBase
import Derived.Test.YtglmdoghknpgkaaRows
namespace Go.Proofs.Ytglmdoghknpgkaa.DelSent
set_option linter.unusedVariables false
set_option linter.unusedSimpArgs false
open Go.RowKit

theorem und : Try.prog.underlying 47 = some (.slice 51) := by kernel_rfl
theorem info : (Try.prog.info? 51).map (fun i => (i.zero, i.size, i.bytes)) = some (some (.agg #[.int .i64 0, .int .i64 0, .int .i64 0]), 3, 24) := by kernel_rfl
theorem zero : ∀ w : World, (zeroValue 51).run Try.prog w = .ok (.agg #[.int .i64 0, .int .i64 0, .int .i64 0]) w := fun _ => by kernel_rfl

structure Post {α : Type} (enc : α → List Value) (base g cap : Nat) (l : List α) (k : Nat) (w : World) (e : Ending) (w' : World) : Prop where
  e : e = .returned (.slice (some ⟨g, 0, none⟩) (l.length - 1) cap)
  row : w'.ownsRow base 51 3 (.slice (some ⟨g, 0, none⟩) (l.length - 1) cap) (l.eraseIdx k).length (fl enc (l.eraseIdx k))
  grown : w.grownBy w' (some g)

theorem core {α : Type} {enc : α → List Value} (hs : ∀ x, (enc x).length = 3) (base g cap : Nat) (l : List α) (k : Nat) (hk : k < l.length) (w : World)
    (hrow : w.ownsRow base 51 3 (.slice (some ⟨g, 0, none⟩) l.length cap) l.length (fl enc l)) :
    let W1 := w.drew.setCells g (0 + k * 3) (fl enc (l.drop (k + 1)))
    (∀ j, j < 1 * (.agg #[.int .i64 0, .int .i64 0, .int .i64 0] : Value).cells.size → (W1.cell? ⟨g, (l.length - 1) * 3 + j, none⟩).isSome = true) ∧ (∀ j, j < 1 * (.agg #[.int .i64 0, .int .i64 0, .int .i64 0] : Value).cells.size → W1.frozen? ⟨g, (l.length - 1) * 3 + j, none⟩ = false) ∧
    Post enc base g cap l k w (.returned (.slice (some ⟨g, 0, none⟩) (l.length - 1) cap)) (W1.setCells g ((l.length - 1) * 3) (Builtin.zeroCells (.agg #[.int .i64 0, .int .i64 0, .int .i64 0] : Value).cells 1).toList) := by
  intro W1
  obtain ⟨g', cap', cur, hv, hg, hh, hn, hc, hsz, ht⟩ := hrow.2.resolve_left (fun h => by cases h.1)
  cases hv
  have hb : Blk w g cur.toList 51 := by unfold Blk; simpa using hh
  have hb1 : Blk w.drew g cur.toList 51 := hb
  have hlen : (fl enc (l.drop (k + 1))).length = (l.length - (k + 1)) * 3 := by rw [fl_length hs, List.length_drop]
  have hz : (.agg #[.int .i64 0, .int .i64 0, .int .i64 0] : Value).cells.size = 3 := rfl
  have hcl : cur.toList.length = cap * 3 := by simpa using hsz
  have hb2 : Blk W1 g _ 51 := hb1.setCells (fl enc (l.drop (k + 1))) (0 + k * 3) _ _ (by rw [hlen, hcl]; omega)
  have hl2 : (cur.toList.take (0 + k * 3) ++ fl enc (l.drop (k + 1)) ++ cur.toList.drop (0 + k * 3 + (fl enc (l.drop (k + 1))).length)).length = cap * 3 := by
    simp only [List.length_append, List.length_take, List.length_drop, hlen, hcl]; omega
  have htake : (cur.toList.take (0 + k * 3) ++ fl enc (l.drop (k + 1)) ++ cur.toList.drop (0 + k * 3 + (fl enc (l.drop (k + 1))).length)).take ((l.length - 1) * 3) = fl enc (l.eraseIdx k) := by
    rw [List.take_append_of_le_length (by simp only [List.length_append, List.length_take, hlen, hcl]; omega), List.take_of_length_le (by simp only [List.length_append, List.length_take, hlen, hcl]; omega)]
    have : cur.toList.take (0 + k * 3) = fl enc (l.take k) := by
      rw [← fl_take hs l k (by omega), ← ht, List.take_take]; congr 1; omega
    rw [this, ← fl_append, List.eraseIdx_eq_take_drop_succ]
  generalize cur.toList.take (0 + k * 3) ++ fl enc (l.drop (k + 1)) ++ cur.toList.drop (0 + k * 3 + (fl enc (l.drop (k + 1))).length) = cs at *
  refine ⟨fun j hj => ?_, fun j _ => hb2.frozen _, rfl, ?_, ?_⟩
  · rw [hb2.cell, List.getElem?_eq_getElem (by omega)]; rfl
  · have hb3 := hb2.setCells (Builtin.zeroCells (.agg #[.int .i64 0, .int .i64 0, .int .i64 0] : Value).cells 1).toList ((l.length - 1) * 3) _ _ (by rw [zeroCells_length]; omega)
    have he : (l.eraseIdx k).length = l.length - 1 := by rw [List.length_eraseIdx, if_pos hk]
    refine ⟨by rw [fl_length hs], .inr ⟨g, cap, _, by rw [he], hg, hb3, by omega, hc, ?_, ?_⟩⟩
    · simp only [List.size_toArray, List.length_append, List.length_take, List.length_drop, zeroCells_length, hz]; omega
    · rw [he]
      show (cs.take ((l.length - 1) * 3) ++ (Builtin.zeroCells (.agg #[.int .i64 0, .int .i64 0, .int .i64 0] : Value).cells 1).toList ++ cs.drop _).take ((l.length - 1) * 3) = _
      rw [List.append_assoc, List.take_append_of_le_length (by rw [List.length_take]; omega), List.take_take, Nat.min_self, htake]
  · have g1 : w.grownBy w.drew (some g) := ⟨rfl, rfl, rfl, Nat.le_refl _, fun _ _ _ => rfl⟩
    exact (g1.trans (setCells_grown _ _ _)).trans (setCells_grown _ _ _)

theorem del {α : Type} {enc : α → List Value} (hs : ∀ x, (enc x).length = 3) (h1 : ∀ x, ∀ u ∈ enc x, u.oneCell' = true) (base g cap : Nat) (l : List α) (k : Nat) (hk : k < l.length) (w : World)
    (hrow : w.ownsRow base 51 3 (.slice (some ⟨g, 0, none⟩) l.length cap) l.length (fl enc l)) :
    Calls Try.prog 27 #[.slice (some ⟨g, 0, none⟩) l.length cap, .int .i64 k, .int .i64 (k + 1)] w (Post enc base g cap l k w) := by
  obtain ⟨c1, c2, hfin⟩ := core hs base g cap l k hk w hrow
  obtain ⟨i0, hi, hzz⟩ := Option.map_eq_some_iff.1 info
  simp only [Prod.mk.injEq] at hzz
  obtain ⟨_, hz1, _⟩ := hzz
  have hcap : l.length ≤ cap ∧ cap ≤ 9223372036854775807 := by
    obtain ⟨A, c, hv, h1, h2⟩ := own_form0 hrow; cases hv; exact ⟨h1, by simpa [maxLen] using h2⟩
  obtain ⟨hcap1, hcap2⟩ := hcap
  have hlen : (fl enc (l.drop (k + 1))).length = (l.length - (k + 1)) * 3 := by rw [fl_length hs, List.length_drop]
  have hcells : ∀ j u, (fl enc (l.drop (k + 1)))[j]? = some u → w.drew.cell? ⟨g, (k + 1) * 3 + j, none⟩ = some u := by
    intro j u hu
    have := (own_cell hrow ((k + 1) * 3 + j) (by have := (List.getElem?_eq_some_iff.1 hu).1; rw [hlen] at this; rw [fl_length hs]; omega)).1
    rw [← List.getElem?_drop, fl_drop hs l (k + 1) (by omega), hu] at this
    exact this
  have hone : ∀ u ∈ fl enc (l.drop (k + 1)), u.oneCell' = true := by
    intro u hu; obtain ⟨x, _, hx⟩ := List.mem_flatMap.1 hu; exact h1 x u hx
  have hspare : ∀ j, j < (fl enc (l.drop (k + 1))).length → (w.drew.cell? ⟨g, 0 + k * 3 + j, none⟩).isSome = true ∧ w.drew.frozen? ⟨g, 0 + k * 3 + j, none⟩ = false := by
    intro j hj
    have := own_cell hrow (0 + k * 3 + j) (by rw [hlen] at hj; rw [fl_length hs]; omega)
    refine ⟨?_, this.2⟩
    show (w.cell? _).isSome = true
    rw [this.1, List.getElem?_eq_getElem (by rw [hlen] at hj; rw [fl_length hs]; omega)]; rfl
  have hclr : ∀ ty c, (Builtin.clear_ #[47] ty #[.slice (some ⟨g, (l.length - 1) * 3, none⟩) 1 c]).run Try.prog (w.drew.setCells g (0 + k * 3) (fl enc (l.drop (k + 1)))) = .ok (.tuple #[]) ((w.drew.setCells g (0 + k * 3) (fl enc (l.drop (k + 1)))).setCells g ((l.length - 1) * 3) (Builtin.zeroCells (.agg #[.int .i64 0, .int .i64 0, .int .i64 0] : Value).cells 1).toList) :=
    fun ty c => run_clear_cells _ _ _ ty (.agg #[.int .i64 0, .int .i64 0, .int .i64 0]) und zero (by decide) g ((l.length - 1) * 3) 1 _ (by decide) c1 c2
  obtain ⟨W1, hW1⟩ : ∃ W1, W1 = w.drew.setCells g (0 + k * 3) (fl enc (l.drop (k + 1))) := ⟨_, rfl⟩
  rw [← hW1] at hclr hfin
  replace hfin := Lib.hid hfin
  replace hcells := Lib.hid hcells
  replace hone := Lib.hid hone
  replace hspare := Lib.hid hspare
  replace hlen := Lib.hid hlen
  replace hW1 := Lib.hid hW1
  replace hz1 := Lib.hid hz1
  replace hi := Lib.hid hi
  clear c1 c2 hs h1 hrow
  generalize hn : l.length = n at *
  obtain ⟨n, rfl⟩ : ∃ m, n = m + 1 := ⟨n - 1, by omega⟩
  replace hn := Lib.hid hn
  simp only [Nat.add_sub_cancel] at hclr
  by_cases hend : k + 1 = cap
  · have hkn : k = n := by omega
    subst hkn
    subst hend
    have f1 : (k : Int) ≤ (k : Int) + 1 := by omega
    have f0 : (0 : Int) ≤ (k : Int) + 1 := by omega
    go_enter Try.func27, Try.ntmps27
    go_wp2
    go_region_law (refine step_append_room rfl (.tmp 22) (.tmp 25) 47 rfl 51 i0 3 und hi.out hz1.out g 0 k (k + 1) (by simp [Act.eval, Act.put]) ⟨g, 0, none⟩ 0 0 (fl enc (l.drop (k + 1))) (by simp [Act.eval, Act.put]) (by rw [hlen.out]; simp) (fun j u hu => absurd (List.getElem?_eq_some_iff.1 hu).1 (by rw [hlen.out]; simp)) hone.out (by omega) hspare.out ?_; rw [← hW1.out])
    go_wp2
    go_ret
    exact hfin.out
  · have hadd : (⟨g, 0, none⟩ : Addr).add ((k + 1) * 3) = ⟨g, (k + 1) * 3, none⟩ := by unfold Addr.add; split <;> simp_all
    have f0 : (0 : Int) ≤ (k : Int) + 1 := by omega
    have f4 : (k : Int) + 1 ≤ (n : Int) + 1 := by omega
    have f5 : (k : Int) ≤ n := by omega
    have f1 : k ≤ cap := by omega
    have f2 : k + 1 ≤ cap := by omega
    have f3 : k + 1 ≤ n + 1 := by omega
    have f6 : k + (n - k) = n := by omega
    have f7 : (k : Int) + ((n - k : Nat) : Int) = n := by omega
    have f8 : n + 1 - n = 1 := by omega
    have f9 : n ≤ cap := by omega
    go_enter Try.func27, Try.ntmps27
    go_wp2
    go_region_law (refine step_append_room rfl (.tmp 22) (.tmp 25) 47 rfl 51 i0 3 und hi.out hz1.out g 0 k cap (by simp [Act.eval, Act.put]) ⟨g, (k + 1) * 3, none⟩ (n + 1 - (k + 1)) (cap - (k + 1)) (fl enc (l.drop (k + 1))) (by simp [Act.eval, Act.put, show ¬ cap = k + 1 from fun h => hend h.symm]) (by rw [hlen.out]) (fun j u hu => by rw [Addr.add_lit]; exact hcells.out j u hu) hone.out (by omega) hspare.out ?_; rw [← hW1.out])
    go_wp2
    go_ret
    exact hfin.out

end Go.Proofs.Ytglmdoghknpgkaa.DelSent
