/- Texts of this proof, laid together: DelMsg, DelHeld, InsMsg, DlMsg, DlHeld, InMsg. -/
import Derived.Test.YtlbbcjlhnjnkeaaMgA
import Derived.Test.YtlbbcjlhnjnkeaaRows
import Derived.Lib.AppendZerosOnto
import Derived.Lib.Overlaps
import Derived.IntWalk
import Derived.Test.YtlbbcjlhnjnkeaaMgC
/- slices.Delete of one element, at carrefour/api.Msg, in a row of the program's own. -/
namespace Go.Proofs.Ytlbbcjlhnjnkeaa.DelMsg
set_option linter.unusedVariables false
set_option linter.unusedSimpArgs false
open Go.RowKit
set_option maxRecDepth 20000

theorem und : Try.prog.underlying 25 = some (.slice 41) := by kernel_rfl
theorem info : (Try.prog.info? 41).map (fun i => (i.zero, i.size, i.bytes)) = some (some (.agg #[.int .i64 0, .int .i64 0, .string ByteArray.empty, .string ByteArray.empty, .bool false]), 5, 56) := by kernel_rfl
theorem zero : ∀ w : World, (zeroValue 41).run Try.prog w = .ok (.agg #[.int .i64 0, .int .i64 0, .string ByteArray.empty, .string ByteArray.empty, .bool false]) w := fun _ => by kernel_rfl

structure Post {α : Type} (enc : α → List Value) (base g cap : Nat) (l : List α) (k : Nat) (w : World) (e : Ending) (w' : World) : Prop where
  e : e = .returned (.slice (some ⟨g, 0, none⟩) (l.length - 1) cap)
  row : w'.ownsRow base 41 5 (.slice (some ⟨g, 0, none⟩) (l.length - 1) cap) (l.eraseIdx k).length (fl enc (l.eraseIdx k))
  grown : w.grownBy w' (some g)

theorem core {α : Type} {enc : α → List Value} (hs : ∀ x, (enc x).length = 5) (base g cap : Nat) (l : List α) (k : Nat) (hk : k < l.length) (w : World)
    (hrow : w.ownsRow base 41 5 (.slice (some ⟨g, 0, none⟩) l.length cap) l.length (fl enc l)) :
    let W1 := w.drew.setCells g (0 + k * 5) (fl enc (l.drop (k + 1)))
    (∀ j, j < 1 * (.agg #[.int .i64 0, .int .i64 0, .string ByteArray.empty, .string ByteArray.empty, .bool false] : Value).cells.size → (W1.cell? ⟨g, (l.length - 1) * 5 + j, none⟩).isSome = true) ∧ (∀ j, j < 1 * (.agg #[.int .i64 0, .int .i64 0, .string ByteArray.empty, .string ByteArray.empty, .bool false] : Value).cells.size → W1.frozen? ⟨g, (l.length - 1) * 5 + j, none⟩ = false) ∧
    Post enc base g cap l k w (.returned (.slice (some ⟨g, 0, none⟩) (l.length - 1) cap)) (W1.setCells g ((l.length - 1) * 5) (Builtin.zeroCells (.agg #[.int .i64 0, .int .i64 0, .string ByteArray.empty, .string ByteArray.empty, .bool false] : Value).cells 1).toList) := by
  intro W1
  obtain ⟨g', cap', cur, hv, hg, hh, hn, hc, hsz, ht⟩ := hrow.2.resolve_left (fun h => by cases h.1)
  cases hv
  have hb : Blk w g cur.toList 41 := by unfold Blk; simpa using hh
  have hb1 : Blk w.drew g cur.toList 41 := hb
  have hlen : (fl enc (l.drop (k + 1))).length = (l.length - (k + 1)) * 5 := by rw [fl_length hs, List.length_drop]
  have hz : (.agg #[.int .i64 0, .int .i64 0, .string ByteArray.empty, .string ByteArray.empty, .bool false] : Value).cells.size = 5 := rfl
  have hcl : cur.toList.length = cap * 5 := by simpa using hsz
  have hb2 : Blk W1 g _ 41 := hb1.setCells (fl enc (l.drop (k + 1))) (0 + k * 5) _ _ (by rw [hlen, hcl]; omega)
  have hl2 : (cur.toList.take (0 + k * 5) ++ fl enc (l.drop (k + 1)) ++ cur.toList.drop (0 + k * 5 + (fl enc (l.drop (k + 1))).length)).length = cap * 5 := by
    simp only [List.length_append, List.length_take, List.length_drop, hlen, hcl]; omega
  have htake : (cur.toList.take (0 + k * 5) ++ fl enc (l.drop (k + 1)) ++ cur.toList.drop (0 + k * 5 + (fl enc (l.drop (k + 1))).length)).take ((l.length - 1) * 5) = fl enc (l.eraseIdx k) := by
    rw [List.take_append_of_le_length (by simp only [List.length_append, List.length_take, hlen, hcl]; omega), List.take_of_length_le (by simp only [List.length_append, List.length_take, hlen, hcl]; omega)]
    have : cur.toList.take (0 + k * 5) = fl enc (l.take k) := by
      rw [← fl_take hs l k (by omega), ← ht, List.take_take]; congr 1; omega
    rw [this, ← fl_append, List.eraseIdx_eq_take_drop_succ]
  generalize cur.toList.take (0 + k * 5) ++ fl enc (l.drop (k + 1)) ++ cur.toList.drop (0 + k * 5 + (fl enc (l.drop (k + 1))).length) = cs at *
  refine ⟨fun j hj => ?_, fun j _ => hb2.frozen _, rfl, ?_, ?_⟩
  · rw [hb2.cell, List.getElem?_eq_getElem (by omega)]; rfl
  · have hb3 := hb2.setCells (Builtin.zeroCells (.agg #[.int .i64 0, .int .i64 0, .string ByteArray.empty, .string ByteArray.empty, .bool false] : Value).cells 1).toList ((l.length - 1) * 5) _ _ (by rw [zeroCells_length]; omega)
    have he : (l.eraseIdx k).length = l.length - 1 := by rw [List.length_eraseIdx, if_pos hk]
    refine ⟨by rw [fl_length hs], .inr ⟨g, cap, _, by rw [he], hg, hb3, by omega, hc, ?_, ?_⟩⟩
    · simp only [List.size_toArray, List.length_append, List.length_take, List.length_drop, zeroCells_length, hz]; omega
    · rw [he]
      show (cs.take ((l.length - 1) * 5) ++ (Builtin.zeroCells (.agg #[.int .i64 0, .int .i64 0, .string ByteArray.empty, .string ByteArray.empty, .bool false] : Value).cells 1).toList ++ cs.drop _).take ((l.length - 1) * 5) = _
      rw [List.append_assoc, List.take_append_of_le_length (by rw [List.length_take]; omega), List.take_take, Nat.min_self, htake]
  · have g1 : w.grownBy w.drew (some g) := ⟨rfl, rfl, rfl, Nat.le_refl _, fun _ _ _ => rfl⟩
    exact (g1.trans (setCells_grown _ _ _)).trans (setCells_grown _ _ _)

theorem del {α : Type} {enc : α → List Value} (hs : ∀ x, (enc x).length = 5) (h1 : ∀ x, ∀ u ∈ enc x, u.oneCell' = true) (base g cap : Nat) (l : List α) (k : Nat) (hk : k < l.length) (w : World)
    (hrow : w.ownsRow base 41 5 (.slice (some ⟨g, 0, none⟩) l.length cap) l.length (fl enc l)) :
    Calls Try.prog 69 #[.slice (some ⟨g, 0, none⟩) l.length cap, .int .i64 k, .int .i64 (k + 1)] w (Post enc base g cap l k w) := by
  obtain ⟨c1, c2, hfin⟩ := core hs base g cap l k hk w hrow
  obtain ⟨i0, hi, hzz⟩ := Option.map_eq_some_iff.1 info
  simp only [Prod.mk.injEq] at hzz
  obtain ⟨_, hz1, _⟩ := hzz
  have hcap : l.length ≤ cap ∧ cap ≤ 9223372036854775807 := by
    obtain ⟨A, c, hv, h1, h2⟩ := own_form0 hrow; cases hv; exact ⟨h1, by simpa [maxLen] using h2⟩
  obtain ⟨hcap1, hcap2⟩ := hcap
  have hlen : (fl enc (l.drop (k + 1))).length = (l.length - (k + 1)) * 5 := by rw [fl_length hs, List.length_drop]
  have hcells : ∀ j u, (fl enc (l.drop (k + 1)))[j]? = some u → w.drew.cell? ⟨g, (k + 1) * 5 + j, none⟩ = some u := by
    intro j u hu
    have := (own_cell hrow ((k + 1) * 5 + j) (by have := (List.getElem?_eq_some_iff.1 hu).1; rw [hlen] at this; rw [fl_length hs]; omega)).1
    rw [← List.getElem?_drop, fl_drop hs l (k + 1) (by omega), hu] at this
    exact this
  have hone : ∀ u ∈ fl enc (l.drop (k + 1)), u.oneCell' = true := by
    intro u hu; obtain ⟨x, _, hx⟩ := List.mem_flatMap.1 hu; exact h1 x u hx
  have hspare : ∀ j, j < (fl enc (l.drop (k + 1))).length → (w.drew.cell? ⟨g, 0 + k * 5 + j, none⟩).isSome = true ∧ w.drew.frozen? ⟨g, 0 + k * 5 + j, none⟩ = false := by
    intro j hj
    have := own_cell hrow (0 + k * 5 + j) (by rw [hlen] at hj; rw [fl_length hs]; omega)
    refine ⟨?_, this.2⟩
    show (w.cell? _).isSome = true
    rw [this.1, List.getElem?_eq_getElem (by rw [hlen] at hj; rw [fl_length hs]; omega)]; rfl
  have hclr : ∀ ty c, (Builtin.clear_ #[25] ty #[.slice (some ⟨g, (l.length - 1) * 5, none⟩) 1 c]).run Try.prog (w.drew.setCells g (0 + k * 5) (fl enc (l.drop (k + 1)))) = .ok (.tuple #[]) ((w.drew.setCells g (0 + k * 5) (fl enc (l.drop (k + 1)))).setCells g ((l.length - 1) * 5) (Builtin.zeroCells (.agg #[.int .i64 0, .int .i64 0, .string ByteArray.empty, .string ByteArray.empty, .bool false] : Value).cells 1).toList) :=
    fun ty c => run_clear_cells _ _ _ ty (.agg #[.int .i64 0, .int .i64 0, .string ByteArray.empty, .string ByteArray.empty, .bool false]) und zero (by decide) g ((l.length - 1) * 5) 1 _ (by decide) c1 c2
  obtain ⟨W1, hW1⟩ : ∃ W1, W1 = w.drew.setCells g (0 + k * 5) (fl enc (l.drop (k + 1))) := ⟨_, rfl⟩
  rw [← hW1] at hclr hfin
  replace hfin := Lib.hid hfin
  replace hcells := Lib.hid hcells
  replace hone := Lib.hid hone
  replace hspare := Lib.hid hspare
  replace hlen := Lib.hid hlen
  replace hW1 := Lib.hid hW1
  replace hz1 := Lib.hid hz1
  replace hi := Lib.hid hi
  clear c1 c2 hs h1 hrow
  generalize hn : l.length = n at *
  obtain ⟨n, rfl⟩ : ∃ m, n = m + 1 := ⟨n - 1, by omega⟩
  replace hn := Lib.hid hn
  simp only [Nat.add_sub_cancel] at hclr
  by_cases hend : k + 1 = cap
  · have hkn : k = n := by omega
    subst hkn
    subst hend
    have f1 : (k : Int) ≤ (k : Int) + 1 := by omega
    have f0 : (0 : Int) ≤ (k : Int) + 1 := by omega
    go_enter Try.func69, Try.ntmps69
    go_wp2
    go_region_law (refine step_append_room rfl (.tmp 22) (.tmp 25) 25 rfl 41 i0 5 und hi.out hz1.out g 0 k (k + 1) (by simp [Act.eval, Act.put]) ⟨g, 0, none⟩ 0 0 (fl enc (l.drop (k + 1))) (by simp [Act.eval, Act.put]) (by rw [hlen.out]; simp) (fun j u hu => absurd (List.getElem?_eq_some_iff.1 hu).1 (by rw [hlen.out]; simp)) hone.out (by omega) hspare.out ?_; rw [← hW1.out])
    go_wp2
    go_ret
    exact hfin.out
  · have hadd : (⟨g, 0, none⟩ : Addr).add ((k + 1) * 5) = ⟨g, (k + 1) * 5, none⟩ := by unfold Addr.add; split <;> simp_all
    have f0 : (0 : Int) ≤ (k : Int) + 1 := by omega
    have f4 : (k : Int) + 1 ≤ (n : Int) + 1 := by omega
    have f5 : (k : Int) ≤ n := by omega
    have f1 : k ≤ cap := by omega
    have f2 : k + 1 ≤ cap := by omega
    have f3 : k + 1 ≤ n + 1 := by omega
    have f6 : k + (n - k) = n := by omega
    have f7 : (k : Int) + ((n - k : Nat) : Int) = n := by omega
    have f8 : n + 1 - n = 1 := by omega
    have f9 : n ≤ cap := by omega
    go_enter Try.func69, Try.ntmps69
    go_wp2
    go_region_law (refine step_append_room rfl (.tmp 22) (.tmp 25) 25 rfl 41 i0 5 und hi.out hz1.out g 0 k cap (by simp [Act.eval, Act.put]) ⟨g, (k + 1) * 5, none⟩ (n + 1 - (k + 1)) (cap - (k + 1)) (fl enc (l.drop (k + 1))) (by simp [Act.eval, Act.put, show ¬ cap = k + 1 from fun h => hend h.symm]) (by rw [hlen.out]) (fun j u hu => by rw [Addr.add_lit]; exact hcells.out j u hu) hone.out (by omega) hspare.out ?_; rw [← hW1.out])
    go_wp2
    go_ret
    exact hfin.out

end Go.Proofs.Ytlbbcjlhnjnkeaa.DelMsg

/- slices.Delete of one element, at carrefour/api.Held, in a row of the program's own. -/
namespace Go.Proofs.Ytlbbcjlhnjnkeaa.DelHeld
set_option linter.unusedVariables false
set_option linter.unusedSimpArgs false
open Go.RowKit
set_option maxRecDepth 20000

theorem und : Try.prog.underlying 26 = some (.slice 53) := by kernel_rfl
theorem info : (Try.prog.info? 53).map (fun i => (i.zero, i.size, i.bytes)) = some (some (.agg #[.int .i64 0, .int .i64 0, .int .i64 0, .string ByteArray.empty, .string ByteArray.empty, .bool false]), 6, 64) := by kernel_rfl
theorem zero : ∀ w : World, (zeroValue 53).run Try.prog w = .ok (.agg #[.int .i64 0, .int .i64 0, .int .i64 0, .string ByteArray.empty, .string ByteArray.empty, .bool false]) w := fun _ => by kernel_rfl

structure Post {α : Type} (enc : α → List Value) (base g cap : Nat) (l : List α) (k : Nat) (w : World) (e : Ending) (w' : World) : Prop where
  e : e = .returned (.slice (some ⟨g, 0, none⟩) (l.length - 1) cap)
  row : w'.ownsRow base 53 6 (.slice (some ⟨g, 0, none⟩) (l.length - 1) cap) (l.eraseIdx k).length (fl enc (l.eraseIdx k))
  grown : w.grownBy w' (some g)

theorem core {α : Type} {enc : α → List Value} (hs : ∀ x, (enc x).length = 6) (base g cap : Nat) (l : List α) (k : Nat) (hk : k < l.length) (w : World)
    (hrow : w.ownsRow base 53 6 (.slice (some ⟨g, 0, none⟩) l.length cap) l.length (fl enc l)) :
    let W1 := w.drew.setCells g (0 + k * 6) (fl enc (l.drop (k + 1)))
    (∀ j, j < 1 * (.agg #[.int .i64 0, .int .i64 0, .int .i64 0, .string ByteArray.empty, .string ByteArray.empty, .bool false] : Value).cells.size → (W1.cell? ⟨g, (l.length - 1) * 6 + j, none⟩).isSome = true) ∧ (∀ j, j < 1 * (.agg #[.int .i64 0, .int .i64 0, .int .i64 0, .string ByteArray.empty, .string ByteArray.empty, .bool false] : Value).cells.size → W1.frozen? ⟨g, (l.length - 1) * 6 + j, none⟩ = false) ∧
    Post enc base g cap l k w (.returned (.slice (some ⟨g, 0, none⟩) (l.length - 1) cap)) (W1.setCells g ((l.length - 1) * 6) (Builtin.zeroCells (.agg #[.int .i64 0, .int .i64 0, .int .i64 0, .string ByteArray.empty, .string ByteArray.empty, .bool false] : Value).cells 1).toList) := by
  intro W1
  obtain ⟨g', cap', cur, hv, hg, hh, hn, hc, hsz, ht⟩ := hrow.2.resolve_left (fun h => by cases h.1)
  cases hv
  have hb : Blk w g cur.toList 53 := by unfold Blk; simpa using hh
  have hb1 : Blk w.drew g cur.toList 53 := hb
  have hlen : (fl enc (l.drop (k + 1))).length = (l.length - (k + 1)) * 6 := by rw [fl_length hs, List.length_drop]
  have hz : (.agg #[.int .i64 0, .int .i64 0, .int .i64 0, .string ByteArray.empty, .string ByteArray.empty, .bool false] : Value).cells.size = 6 := rfl
  have hcl : cur.toList.length = cap * 6 := by simpa using hsz
  have hb2 : Blk W1 g _ 53 := hb1.setCells (fl enc (l.drop (k + 1))) (0 + k * 6) _ _ (by rw [hlen, hcl]; omega)
  have hl2 : (cur.toList.take (0 + k * 6) ++ fl enc (l.drop (k + 1)) ++ cur.toList.drop (0 + k * 6 + (fl enc (l.drop (k + 1))).length)).length = cap * 6 := by
    simp only [List.length_append, List.length_take, List.length_drop, hlen, hcl]; omega
  have htake : (cur.toList.take (0 + k * 6) ++ fl enc (l.drop (k + 1)) ++ cur.toList.drop (0 + k * 6 + (fl enc (l.drop (k + 1))).length)).take ((l.length - 1) * 6) = fl enc (l.eraseIdx k) := by
    rw [List.take_append_of_le_length (by simp only [List.length_append, List.length_take, hlen, hcl]; omega), List.take_of_length_le (by simp only [List.length_append, List.length_take, hlen, hcl]; omega)]
    have : cur.toList.take (0 + k * 6) = fl enc (l.take k) := by
      rw [← fl_take hs l k (by omega), ← ht, List.take_take]; congr 1; omega
    rw [this, ← fl_append, List.eraseIdx_eq_take_drop_succ]
  generalize cur.toList.take (0 + k * 6) ++ fl enc (l.drop (k + 1)) ++ cur.toList.drop (0 + k * 6 + (fl enc (l.drop (k + 1))).length) = cs at *
  refine ⟨fun j hj => ?_, fun j _ => hb2.frozen _, rfl, ?_, ?_⟩
  · rw [hb2.cell, List.getElem?_eq_getElem (by omega)]; rfl
  · have hb3 := hb2.setCells (Builtin.zeroCells (.agg #[.int .i64 0, .int .i64 0, .int .i64 0, .string ByteArray.empty, .string ByteArray.empty, .bool false] : Value).cells 1).toList ((l.length - 1) * 6) _ _ (by rw [zeroCells_length]; omega)
    have he : (l.eraseIdx k).length = l.length - 1 := by rw [List.length_eraseIdx, if_pos hk]
    refine ⟨by rw [fl_length hs], .inr ⟨g, cap, _, by rw [he], hg, hb3, by omega, hc, ?_, ?_⟩⟩
    · simp only [List.size_toArray, List.length_append, List.length_take, List.length_drop, zeroCells_length, hz]; omega
    · rw [he]
      show (cs.take ((l.length - 1) * 6) ++ (Builtin.zeroCells (.agg #[.int .i64 0, .int .i64 0, .int .i64 0, .string ByteArray.empty, .string ByteArray.empty, .bool false] : Value).cells 1).toList ++ cs.drop _).take ((l.length - 1) * 6) = _
      rw [List.append_assoc, List.take_append_of_le_length (by rw [List.length_take]; omega), List.take_take, Nat.min_self, htake]
  · have g1 : w.grownBy w.drew (some g) := ⟨rfl, rfl, rfl, Nat.le_refl _, fun _ _ _ => rfl⟩
    exact (g1.trans (setCells_grown _ _ _)).trans (setCells_grown _ _ _)

theorem del {α : Type} {enc : α → List Value} (hs : ∀ x, (enc x).length = 6) (h1 : ∀ x, ∀ u ∈ enc x, u.oneCell' = true) (base g cap : Nat) (l : List α) (k : Nat) (hk : k < l.length) (w : World)
    (hrow : w.ownsRow base 53 6 (.slice (some ⟨g, 0, none⟩) l.length cap) l.length (fl enc l)) :
    Calls Try.prog 80 #[.slice (some ⟨g, 0, none⟩) l.length cap, .int .i64 k, .int .i64 (k + 1)] w (Post enc base g cap l k w) := by
  obtain ⟨c1, c2, hfin⟩ := core hs base g cap l k hk w hrow
  obtain ⟨i0, hi, hzz⟩ := Option.map_eq_some_iff.1 info
  simp only [Prod.mk.injEq] at hzz
  obtain ⟨_, hz1, _⟩ := hzz
  have hcap : l.length ≤ cap ∧ cap ≤ 9223372036854775807 := by
    obtain ⟨A, c, hv, h1, h2⟩ := own_form0 hrow; cases hv; exact ⟨h1, by simpa [maxLen] using h2⟩
  obtain ⟨hcap1, hcap2⟩ := hcap
  have hlen : (fl enc (l.drop (k + 1))).length = (l.length - (k + 1)) * 6 := by rw [fl_length hs, List.length_drop]
  have hcells : ∀ j u, (fl enc (l.drop (k + 1)))[j]? = some u → w.drew.cell? ⟨g, (k + 1) * 6 + j, none⟩ = some u := by
    intro j u hu
    have := (own_cell hrow ((k + 1) * 6 + j) (by have := (List.getElem?_eq_some_iff.1 hu).1; rw [hlen] at this; rw [fl_length hs]; omega)).1
    rw [← List.getElem?_drop, fl_drop hs l (k + 1) (by omega), hu] at this
    exact this
  have hone : ∀ u ∈ fl enc (l.drop (k + 1)), u.oneCell' = true := by
    intro u hu; obtain ⟨x, _, hx⟩ := List.mem_flatMap.1 hu; exact h1 x u hx
  have hspare : ∀ j, j < (fl enc (l.drop (k + 1))).length → (w.drew.cell? ⟨g, 0 + k * 6 + j, none⟩).isSome = true ∧ w.drew.frozen? ⟨g, 0 + k * 6 + j, none⟩ = false := by
    intro j hj
    have := own_cell hrow (0 + k * 6 + j) (by rw [hlen] at hj; rw [fl_length hs]; omega)
    refine ⟨?_, this.2⟩
    show (w.cell? _).isSome = true
    rw [this.1, List.getElem?_eq_getElem (by rw [hlen] at hj; rw [fl_length hs]; omega)]; rfl
  have hclr : ∀ ty c, (Builtin.clear_ #[26] ty #[.slice (some ⟨g, (l.length - 1) * 6, none⟩) 1 c]).run Try.prog (w.drew.setCells g (0 + k * 6) (fl enc (l.drop (k + 1)))) = .ok (.tuple #[]) ((w.drew.setCells g (0 + k * 6) (fl enc (l.drop (k + 1)))).setCells g ((l.length - 1) * 6) (Builtin.zeroCells (.agg #[.int .i64 0, .int .i64 0, .int .i64 0, .string ByteArray.empty, .string ByteArray.empty, .bool false] : Value).cells 1).toList) :=
    fun ty c => run_clear_cells _ _ _ ty (.agg #[.int .i64 0, .int .i64 0, .int .i64 0, .string ByteArray.empty, .string ByteArray.empty, .bool false]) und zero (by decide) g ((l.length - 1) * 6) 1 _ (by decide) c1 c2
  obtain ⟨W1, hW1⟩ : ∃ W1, W1 = w.drew.setCells g (0 + k * 6) (fl enc (l.drop (k + 1))) := ⟨_, rfl⟩
  rw [← hW1] at hclr hfin
  replace hfin := Lib.hid hfin
  replace hcells := Lib.hid hcells
  replace hone := Lib.hid hone
  replace hspare := Lib.hid hspare
  replace hlen := Lib.hid hlen
  replace hW1 := Lib.hid hW1
  replace hz1 := Lib.hid hz1
  replace hi := Lib.hid hi
  clear c1 c2 hs h1 hrow
  generalize hn : l.length = n at *
  obtain ⟨n, rfl⟩ : ∃ m, n = m + 1 := ⟨n - 1, by omega⟩
  replace hn := Lib.hid hn
  simp only [Nat.add_sub_cancel] at hclr
  by_cases hend : k + 1 = cap
  · have hkn : k = n := by omega
    subst hkn
    subst hend
    have f1 : (k : Int) ≤ (k : Int) + 1 := by omega
    have f0 : (0 : Int) ≤ (k : Int) + 1 := by omega
    go_enter Try.func80, Try.ntmps80
    go_wp2
    go_region_law (refine step_append_room rfl (.tmp 22) (.tmp 25) 26 rfl 53 i0 6 und hi.out hz1.out g 0 k (k + 1) (by simp [Act.eval, Act.put]) ⟨g, 0, none⟩ 0 0 (fl enc (l.drop (k + 1))) (by simp [Act.eval, Act.put]) (by rw [hlen.out]; simp) (fun j u hu => absurd (List.getElem?_eq_some_iff.1 hu).1 (by rw [hlen.out]; simp)) hone.out (by omega) hspare.out ?_; rw [← hW1.out])
    go_wp2
    go_ret
    exact hfin.out
  · have hadd : (⟨g, 0, none⟩ : Addr).add ((k + 1) * 6) = ⟨g, (k + 1) * 6, none⟩ := by unfold Addr.add; split <;> simp_all
    have f0 : (0 : Int) ≤ (k : Int) + 1 := by omega
    have f4 : (k : Int) + 1 ≤ (n : Int) + 1 := by omega
    have f5 : (k : Int) ≤ n := by omega
    have f1 : k ≤ cap := by omega
    have f2 : k + 1 ≤ cap := by omega
    have f3 : k + 1 ≤ n + 1 := by omega
    have f6 : k + (n - k) = n := by omega
    have f7 : (k : Int) + ((n - k : Nat) : Int) = n := by omega
    have f8 : n + 1 - n = 1 := by omega
    have f9 : n ≤ cap := by omega
    go_enter Try.func80, Try.ntmps80
    go_wp2
    go_region_law (refine step_append_room rfl (.tmp 22) (.tmp 25) 26 rfl 53 i0 6 und hi.out hz1.out g 0 k cap (by simp [Act.eval, Act.put]) ⟨g, (k + 1) * 6, none⟩ (n + 1 - (k + 1)) (cap - (k + 1)) (fl enc (l.drop (k + 1))) (by simp [Act.eval, Act.put, show ¬ cap = k + 1 from fun h => hend h.symm]) (by rw [hlen.out]) (fun j u hu => by rw [Addr.add_lit]; exact hcells.out j u hu) hone.out (by omega) hspare.out ?_; rw [← hW1.out])
    go_wp2
    go_ret
    exact hfin.out

end Go.Proofs.Ytlbbcjlhnjnkeaa.DelHeld

/- slices.Insert of one element, at carrefour/api.Msg, into a row of the program's own. -/
namespace Go.Proofs.Ytlbbcjlhnjnkeaa.InsMsg
set_option linter.unusedVariables false
set_option linter.unusedSimpArgs false
open Go.RowKit
set_option maxRecDepth 20000

theorem und : Try.prog.underlying 25 = some (.slice 41) := by kernel_rfl
theorem undi : Try.prog.underlying 3 = some (.int .i64) := by kernel_rfl
theorem info : (Try.prog.info? 41).map (fun i => (i.zero, i.size, i.bytes)) = some (some (.agg #[.int .i64 0, .int .i64 0, .string ByteArray.empty, .string ByteArray.empty, .bool false]), 5, 56) := by kernel_rfl
theorem infos : (Try.prog.info? 41).map (·.size) = some 5 := by kernel_rfl
structure Post {α : Type} (enc : α → List Value) (base : Nat) (v : Value) (l : List α) (k : Nat) (y : α) (w : World) (e : Ending) (w' : World) : Prop where
  ex : ∃ v', e = .returned v' ∧ w'.ownsRow base 41 5 v' (l.take k ++ y :: l.drop k).length (fl enc (l.take k ++ y :: l.drop k)) ∧ (v'.ownBlock = v.ownBlock ∨ v'.ownBlock = some w.heap.size)
  grown : w.grownBy w' v.ownBlock

theorem ins_end {α : Type} {enc : α → List Value} (hs : ∀ x, (enc x).length = 5) (h1 : ∀ x, ∀ u ∈ enc x, u.oneCell' = true) (base : Nat) (v : Value) (l : List α) (y : α) (vb : Nat) (w : World)
    (hrow : w.ownsRow base 41 5 v l.length (fl enc l)) (hb : base ≤ w.heap.size) (hvb : Blk w vb (enc y) 41) (hl : (l.length + 1) * 56 ≤ 140737488355328) :
    Calls Try.prog 71 #[v, .int .i64 l.length, .slice (some ⟨vb, 0, none⟩) 1 1] w (Post enc base v l l.length y w) := by
  obtain ⟨A, cap, rfl, hlc, hcm⟩ := own_form0 hrow
  simp only [maxLen] at hcm
  have hrd : Rd enc w (.slice (some ⟨vb, 0, none⟩) 1 1) [y] := ⟨_, 1, rfl, by simp, by omega, (fun h => by cases h), fun ad ha j u hu => by
    cases ha; rw [add_lit, hvb.cell, ← fl_one (enc := enc) y]; exact hu⟩
  have hfin : ∀ v1 w1, w1.ownsRow base 41 5 v1 (l ++ [y]).length (fl enc (l ++ [y])) → w.grownBy w1 (Value.slice A l.length cap).ownBlock → (v1.ownBlock = (Value.slice A l.length cap).ownBlock ∨ v1.ownBlock = some w.heap.size) → Post enc base (.slice A l.length cap) l l.length y w (.returned v1) w1 :=
    fun v1 w1 a b c => ⟨⟨v1, rfl, by simpa using a, c⟩, b⟩
  replace hfin := Lib.hid hfin
  replace hrow := Lib.hid hrow
  replace hrd := Lib.hid hrd
  clear hvb
  have f0 : (l.length : Int) ≤ (l.length : Int) := by omega
  have hl2 : l.length + 1 ≤ 140737488355328 := Nat.le_trans (Nat.le_mul_of_pos_right _ (by decide)) hl
  by_cases hend : cap = l.length
  · subst hend
    go_enter Try.func71, Try.ntmps71
    go_wp2_with (at_builtin; go_must (refine wpList_appN (enc := enc) (size := 5) base rfl (.tmp 23) (.tmp 24) 25 41 (.agg #[.int .i64 0, .int .i64 0, .string ByteArray.empty, .string ByteArray.empty, .bool false]) 56 rfl und info rfl (by decide) (by decide) hs h1 (.slice A l.length l.length) l (.slice (some ⟨vb, 0, none⟩) 1 1) [y] rfl rfl hrd.out hrow.out hb hl ?_); intro v1 w1 ho hg hat; have hf := hfin.out v1 w1 ho hg hat; replace hf := Lib.hid hf; clear ho hg hat)
    go_ret
    exact hf.out
  · have hend' : ¬ l.length = cap := fun h => hend h.symm
    go_enter Try.func71, Try.ntmps71
    go_wp2_with (at_builtin; go_must (refine wpList_appN (enc := enc) (size := 5) base rfl (.tmp 23) (.tmp 24) 25 41 (.agg #[.int .i64 0, .int .i64 0, .string ByteArray.empty, .string ByteArray.empty, .bool false]) 56 rfl und info rfl (by decide) (by decide) hs h1 (.slice A l.length cap) l (.slice (some ⟨vb, 0, none⟩) 1 1) [y] rfl rfl hrd.out hrow.out hb hl ?_); intro v1 w1 ho hg hat; have hf := hfin.out v1 w1 ho hg hat; replace hf := Lib.hid hf; clear ho hg hat)
    go_ret
    exact hf.out

/-- Two slices of two blocks don't overlap. -/
theorem over (w : World) (ba oa bb ob la ca lb cb : Nat) (hne : ba ≠ bb) (csA csB : List Value) (hA : Blk w ba csA 41) (hB : Blk w bb csB 41) (hkB : csB ≠ []) :
    (callFunc 81 #[.slice (some ⟨ba, oa, none⟩) la ca, .slice (some ⟨bb, ob, none⟩) lb cb]).run Try.prog w = .ok (.value (.bool false)) w := by
  rw [run_callFunc_extern (P := Try.prog) (f := 81) (fn := Try.f81) (by kernel_rfl) (by kernel_rfl) (by kernel_rfl) (by kernel_rfl) (e := Extern.SlicesOverlaps.overlaps #[25, 25] #[4]) (by kernel_rfl),
    Lib.run_overlaps_apart w 25 4 41 und 5 (fun w => by kernel_rfl) ⟨ba, oa, none⟩ ⟨bb, ob, none⟩ la ca lb cb hne 41 41 csA.length csB.length hA.shape hB.shape (by cases csB <;> simp_all) (hA.frozen _) (hA.frozen _)]
  rfl

theorem room_core {α : Type} {enc : α → List Value} (hs : ∀ x, (enc x).length = 5) (base g cap : Nat) (l : List α) (k : Nat) (hk : k < l.length) (hroom : l.length + 1 ≤ cap) (y : α) (w : World) 
    (hrow : w.ownsRow base 41 5 (.slice (some ⟨g, 0, none⟩) l.length cap) l.length (fl enc l)) :
    let W1 := w.drew.setCells g ((k + 1) * 5) (fl enc (l.drop k))
    (∀ j, j < (fl enc (l.drop k)).length → (w.drew.cell? ⟨g, (k + 1) * 5 + j, none⟩).isSome = true) ∧ (∀ j, j < (fl enc (l.drop k)).length → w.drew.frozen? ⟨g, (k + 1) * 5 + j, none⟩ = false) ∧
    (∀ j, j < (enc y).length → (W1.cell? ⟨g, k * 5 + j, none⟩).isSome = true) ∧ (∀ j, j < (enc y).length → W1.frozen? ⟨g, k * 5 + j, none⟩ = false) ∧
    Post enc base (.slice (some ⟨g, 0, none⟩) l.length cap) l k y w (.returned (.slice (some ⟨g, 0, none⟩) (l.length + 1) cap)) (W1.setCells g (k * 5) (enc y)) := by
  intro W1
  obtain ⟨g', cap', cur, hv, hg, hh, hn, hc, hsz, ht⟩ := hrow.2.resolve_left (fun h => by cases h.1)
  cases hv
  have hb : Blk w g cur.toList 41 := by unfold Blk; simpa using hh
  have hb1 : Blk w.drew g cur.toList 41 := hb
  have hlen : (fl enc (l.drop k)).length = (l.length - k) * 5 := by rw [fl_length hs, List.length_drop]
  have hcl : cur.toList.length = cap * 5 := by simpa using hsz
  have hb2 : Blk W1 g _ 41 := hb1.setCells (fl enc (l.drop k)) ((k + 1) * 5) _ _ (by rw [hlen, hcl]; omega)
  have hl2 : (cur.toList.take ((k + 1) * 5) ++ fl enc (l.drop k) ++ cur.toList.drop ((k + 1) * 5 + (fl enc (l.drop k)).length)).length = cap * 5 := by
    simp only [List.length_append, List.length_take, List.length_drop, hlen, hcl]; omega
  have ht1 : (cur.toList.take ((k + 1) * 5) ++ fl enc (l.drop k) ++ cur.toList.drop ((k + 1) * 5 + (fl enc (l.drop k)).length)).take (k * 5) = fl enc (l.take k) := by
    rw [List.append_assoc, List.take_append_of_le_length (by rw [List.length_take, hcl]; omega), List.take_take, ← fl_take hs l k (by omega), ← ht, List.take_take]
    congr 1; omega
  have ht2 : (cur.toList.take ((k + 1) * 5) ++ fl enc (l.drop k) ++ cur.toList.drop ((k + 1) * 5 + (fl enc (l.drop k)).length)).drop (k * 5 + 5) = fl enc (l.drop k) ++ cur.toList.drop ((k + 1) * 5 + (fl enc (l.drop k)).length) := by
    rw [List.append_assoc, List.drop_append_of_le_length (by rw [List.length_take, hcl]; omega), List.drop_of_length_le (by rw [List.length_take, hcl]; omega), List.nil_append]
  refine ⟨fun j hj => ?_, fun j _ => hb1.frozen _, fun j hj => ?_, fun j _ => hb2.frozen _, ⟨.slice (some ⟨g, 0, none⟩) (l.length + 1) cap, rfl, ?_, .inl rfl⟩, ?_⟩
  · rw [hb1.cell, List.getElem?_eq_getElem (by rw [hlen] at hj; rw [hcl]; omega)]; rfl
  · rw [hb2.cell, List.getElem?_eq_getElem (by rw [hs] at hj; rw [hl2]; omega)]; rfl
  · have hb3 := hb2.setCells (enc y) (k * 5) _ _ (by rw [hs, hl2]; omega)
    rw [ht1, hs, ht2] at hb3
    have hlq : (l.take k ++ y :: l.drop k).length = l.length + 1 := by simp; omega
    refine ⟨by rw [fl_length hs], .inr ⟨g, cap, _, by rw [hlq], hg, hb3, by omega, hc, ?_, ?_⟩⟩
    · simp only [List.size_toArray, List.length_append, fl_length hs, List.length_take, List.length_drop, hs, hcl]; omega
    · rw [hlq, fl_append, fl_cons]
      have e : (fl enc (l.take k) ++ enc y ++ (fl enc (l.drop k) ++ cur.toList.drop ((k + 1) * 5 + (fl enc (l.drop k)).length))) = (fl enc (l.take k) ++ (enc y ++ fl enc (l.drop k))) ++ cur.toList.drop ((k + 1) * 5 + (fl enc (l.drop k)).length) := by simp
      show (fl enc (l.take k) ++ enc y ++ (fl enc (l.drop k) ++ cur.toList.drop ((k + 1) * 5 + (fl enc (l.drop k)).length))).take ((l.length + 1) * 5) = _
      rw [e, List.take_append_of_le_length (by simp only [List.length_append, fl_length hs, List.length_take, List.length_drop, hs]; omega), List.take_of_length_le (by simp only [List.length_append, fl_length hs, List.length_take, List.length_drop, hs]; omega)]
  · have g1 : w.grownBy w.drew (some g) := ⟨rfl, rfl, rfl, Nat.le_refl _, fun _ _ _ => rfl⟩
    exact (g1.trans (setCells_grown _ _ _)).trans (setCells_grown _ _ _)

set_option maxRecDepth 100000 in
set_option maxHeartbeats 2000000 in
theorem ins_room {α : Type} {enc : α → List Value} (hs : ∀ x, (enc x).length = 5) (h1 : ∀ x, ∀ u ∈ enc x, u.oneCell' = true) (base g cap : Nat) (l : List α) (k : Nat) (hk : k < l.length) (hroom : l.length + 1 ≤ cap) (y : α) (vb : Nat) (w : World)
    (hrow : w.ownsRow base 41 5 (.slice (some ⟨g, 0, none⟩) l.length cap) l.length (fl enc l)) (hvb : Blk w vb (enc y) 41) (hne : vb ≠ g) :
    Calls Try.prog 71 #[.slice (some ⟨g, 0, none⟩) l.length cap, .int .i64 k, .slice (some ⟨vb, 0, none⟩) 1 1] w (Post enc base (.slice (some ⟨g, 0, none⟩) l.length cap) l k y w) := by
  obtain ⟨c1, f1, c2, f2, hfin⟩ := room_core hs base g cap l k hk hroom y w hrow
  obtain ⟨cs, hgb, -, hcl⟩ := own_blk hrow
  have hcs : cs ≠ [] := fun e => by rw [e] at hcl; simp at hcl; omega
  have hov : ∀ lb cb, (callFunc 81 #[.slice (some ⟨vb, 0, none⟩) 1 1, .slice (some ⟨g, (k + 1) * 5, none⟩) lb cb]).run Try.prog w = .ok (.value (.bool false)) w := fun lb cb => over w vb 0 g _ 1 1 lb cb hne (enc y) cs hvb hgb hcs
  have hcm : cap ≤ 9223372036854775807 := by
    obtain ⟨A, c, hv, h1, h2⟩ := own_form0 hrow; cases hv; simpa [maxLen] using h2
  have hlen : (fl enc (l.drop k)).length = (l.length - k) * 5 := by rw [fl_length hs, List.length_drop]
  have hone : ∀ u ∈ fl enc (l.drop k), u.oneCell' = true := by
    intro u hu; obtain ⟨x, _, hx⟩ := List.mem_flatMap.1 hu; exact h1 x u hx
  have hcp1 : ∀ ty dl dc sl sc, l.length - k = min sl dl → (Builtin.copy_ #[25, 25] ty #[.slice (some ⟨g, (k + 1) * 5, none⟩) dl dc, .slice (some ⟨g, k * 5, none⟩) sl sc]).run Try.prog w.drew = .ok (goInt ((l.length - k : Nat) : Int)) (w.drew.setCells g ((k + 1) * 5) (fl enc (l.drop k))) :=
    fun ty dl dc sl sc hm => run_copy_cells _ _ _ ty _ g _ dl dc ⟨g, k * 5, none⟩ sl sc 5 (l.length - k) _ hm und infos hlen (fun j u hu => by
      have hj := (List.getElem?_eq_some_iff.1 hu).1
      rw [hlen] at hj
      have := (own_cell hrow (k * 5 + j) (by rw [fl_length hs]; omega)).1
      rw [Addr.add_lit]
      show w.cell? _ = _
      rw [this, ← List.getElem?_drop, fl_drop hs l k (by omega)]; exact hu) c1 f1 hone
  obtain ⟨W1, hW1⟩ : ∃ W1, W1 = w.drew.setCells g ((k + 1) * 5) (fl enc (l.drop k)) := ⟨_, rfl⟩
  rw [← hW1] at hcp1 hfin c2 f2
  have hvb1 : Blk W1 vb (enc y) 41 := by
    rw [hW1]; unfold Blk; rw [setCells_heap _ _ _ _ hne]; exact hvb
  have hcp2 : ∀ ty dl dc, 1 ≤ dl → (Builtin.copy_ #[25, 25] ty #[.slice (some ⟨g, k * 5, none⟩) dl dc, .slice (some ⟨vb, 0, none⟩) 1 1]).run Try.prog W1 = .ok (goInt 1) (W1.setCells g (k * 5) (enc y)) :=
    fun ty dl dc hd => run_copy_cells _ _ _ ty _ g _ dl dc ⟨vb, 0, none⟩ 1 1 5 1 _ (by omega) und infos (by rw [hs]) (fun j u hu => by rw [add_lit, hvb1.cell]; exact hu) c2 f2 (h1 y)
  replace hfin := Lib.hid hfin
  replace hW1 := Lib.hid hW1
  replace hlen := Lib.hid hlen
  clear c1 c2 f1 f2 hs h1 hrow hone hvb hvb1 hgb hcs hcl

  try simp only [Nat.mul_one] at hov hcp1 hcp2 hfin
  generalize hn : l.length = n at *
  replace hn := Lib.hid hn
  have e1 : ¬ cap = k := by omega
  have e2 : ¬ (k : Int) = (n : Int) := by omega
  have e3 : ¬ ((cap : Int) < (n : Int) + 1) := by omega
  have e4 : ¬ cap = k + 1 := by omega
  have f0 : (0 : Int) ≤ (k : Int) + 1 := by omega
  have f1 : (k : Int) ≤ (n : Int) := by omega
  have f3 : (n : Int) + 1 ≤ (cap : Int) := by omega
  have f4 : (k : Int) + 1 ≤ (n : Int) + 1 := by omega
  have f5 : k + 1 ≤ n + 1 := by omega
  go_enter Try.func71, Try.ntmps71
  have g1 : ∀ ty dc sc, _ := fun ty dc sc => hcp1 ty (n - k) dc (n + 1 - k) sc (by omega)
  have g2 : ∀ ty dc, _ := fun ty dc => hcp2 ty (n + 1 - k) dc (by omega)
  clear hcp1 hcp2
  go_wp2
  have f6 : IntKind.i64.wrap ((k : Int) + 1) = (k : Int) + 1 := IntWalk.i64_in _ (by omega)
  have f7 : ((k : Int) + 1).toNat = k + 1 := by omega
  go_region
  clear f6 f7
  go_wp2
  go_ret
  exact hfin.out

theorem cut_ge (need old : Nat) (e : TypeId) (t : Nat) (h : need < 9223372036854775808) : need ≤ (Question.appendCap need old e).cut t ∧ (Question.appendCap need old e).cut t ≤ 9223372036854775807 := by
  have hm := Nat.mod_lt t (show 0 < 2 ^ 63 - need by omega)
  simp only [Question.cut]
  omega

structure Grown {α : Type} (enc : α → List Value) (base g cap C : Nat) (l : List α) (k : Nat) (y : α) (w W1 : World) : Prop where
  c1 : ∀ j, j < (enc y).length → (W1.cell? ⟨w.heap.size, k * 5 + j, none⟩).isSome = true
  f1 : ∀ j, j < (enc y).length → W1.frozen? ⟨w.heap.size, k * 5 + j, none⟩ = false
  c2 : ∀ j, j < (fl enc (l.drop k)).length → ((W1.setCells w.heap.size (k * 5) (enc y)).drew.cell? ⟨w.heap.size, (k + 1) * 5 + j, none⟩).isSome = true
  f2 : ∀ j, j < (fl enc (l.drop k)).length → (W1.setCells w.heap.size (k * 5) (enc y)).drew.frozen? ⟨w.heap.size, (k + 1) * 5 + j, none⟩ = false
  old : ∀ j u, (fl enc (l.drop k))[j]? = some u → (W1.setCells w.heap.size (k * 5) (enc y)).drew.cell? ⟨g, k * 5 + j, none⟩ = some u
  vb : ∀ vb, Blk w vb (enc y) 41 → Blk W1 vb (enc y) 41
  fin : Post enc base (.slice (some ⟨g, 0, none⟩) l.length cap) l k y w (.returned (.slice (some ⟨w.heap.size, 0, none⟩) (l.length + 1) C)) ((W1.setCells w.heap.size (k * 5) (enc y)).drew.setCells w.heap.size ((k + 1) * 5) (fl enc (l.drop k)))

theorem grow_core {α : Type} {enc : α → List Value} (hs : ∀ x, (enc x).length = 5) (w : World) (base g cap C : Nat) (hb : base ≤ w.heap.size) (l : List α) (k : Nat) (hk : k < l.length) (hC : l.length + 1 ≤ C) (hC2 : C ≤ 9223372036854775807) (y : α)
    (hrow : w.ownsRow base 41 5 (.slice (some ⟨g, 0, none⟩) l.length cap) l.length (fl enc l)) :
    Grown enc base g cap C l k y w (w.drew.alloc (.cells ((fl enc (l.take k)).toArray ++ Builtin.zeroCells (.agg #[.int .i64 0, .int .i64 0, .string ByteArray.empty, .string ByteArray.empty, .bool false] : Value).cells (l.length + 1 - k) ++ Builtin.zeroCells (.agg #[.int .i64 0, .int .i64 0, .string ByteArray.empty, .string ByteArray.empty, .bool false] : Value).cells (C - (l.length + 1))) 41)) := by
  have hz : (.agg #[.int .i64 0, .int .i64 0, .string ByteArray.empty, .string ByteArray.empty, .bool false] : Value).cells.size = 5 := rfl
  have hlz : ((fl enc (l.take k)).toArray ++ Builtin.zeroCells (.agg #[.int .i64 0, .int .i64 0, .string ByteArray.empty, .string ByteArray.empty, .bool false] : Value).cells (l.length + 1 - k) ++ Builtin.zeroCells (.agg #[.int .i64 0, .int .i64 0, .string ByteArray.empty, .string ByteArray.empty, .bool false] : Value).cells (C - (l.length + 1))).toList.length = C * 5 := by
    simp only [Array.toList_append, List.length_append, zeroCells_length, hz, fl_length hs, List.length_take]; omega
  have htk : ((fl enc (l.take k)).toArray ++ Builtin.zeroCells (.agg #[.int .i64 0, .int .i64 0, .string ByteArray.empty, .string ByteArray.empty, .bool false] : Value).cells (l.length + 1 - k) ++ Builtin.zeroCells (.agg #[.int .i64 0, .int .i64 0, .string ByteArray.empty, .string ByteArray.empty, .bool false] : Value).cells (C - (l.length + 1))).toList.take (k * 5) = fl enc (l.take k) := by
    have h2 : (fl enc (l.take k)).length = k * 5 := by rw [fl_length hs, List.length_take]; omega
    rw [Array.toList_append, Array.toList_append, List.append_assoc, List.take_append_of_le_length (by simp only; omega), ← h2, List.take_length]
  have hbn := Blk.new w.drew ((fl enc (l.take k)).toArray ++ Builtin.zeroCells (.agg #[.int .i64 0, .int .i64 0, .string ByteArray.empty, .string ByteArray.empty, .bool false] : Value).cells (l.length + 1 - k) ++ Builtin.zeroCells (.agg #[.int .i64 0, .int .i64 0, .string ByteArray.empty, .string ByteArray.empty, .bool false] : Value).cells (C - (l.length + 1))) 41
  generalize ((fl enc (l.take k)).toArray ++ Builtin.zeroCells (.agg #[.int .i64 0, .int .i64 0, .string ByteArray.empty, .string ByteArray.empty, .bool false] : Value).cells (l.length + 1 - k) ++ Builtin.zeroCells (.agg #[.int .i64 0, .int .i64 0, .string ByteArray.empty, .string ByteArray.empty, .bool false] : Value).cells (C - (l.length + 1))) = arr at *
  have hbn : Blk (w.drew.alloc (.cells arr 41)) w.heap.size arr.toList 41 := hbn
  have hlen : (fl enc (l.drop k)).length = (l.length - k) * 5 := by rw [fl_length hs, List.length_drop]
  have hb2 := hbn.setCells (enc y) (k * 5) _ _ (by rw [hs, hlz]; omega)
  rw [htk, hs] at hb2
  have hb3 : Blk ((w.drew.alloc (.cells arr 41)).setCells w.heap.size (k * 5) (enc y)).drew w.heap.size _ 41 := hb2
  have hl3 : (fl enc (l.take k) ++ enc y ++ arr.toList.drop (k * 5 + 5)).length = C * 5 := by
    simp only [List.length_append, List.length_drop, hlz, hs, fl_length hs, List.length_take]; omega
  have ht3 : (fl enc (l.take k) ++ enc y ++ arr.toList.drop (k * 5 + 5)).take ((k + 1) * 5) = fl enc (l.take k) ++ enc y := by
    rw [List.take_append_of_le_length (by simp only [List.length_append, hs, fl_length hs, List.length_take]; omega), List.take_of_length_le (by simp only [List.length_append, hs, fl_length hs, List.length_take]; omega)]
  have hb4 := hb3.setCells (fl enc (l.drop k)) ((k + 1) * 5) _ _ (by rw [hlen, hl3]; omega)
  rw [ht3] at hb4
  have hgw := (hrow.lt g rfl).2
  have gr1 : w.grownBy (w.drew.alloc (.cells arr 41)) (some g) := World.grownBy.trans (b := w.drew) ⟨rfl, rfl, rfl, Nat.le_refl _, fun _ _ _ => rfl⟩ (World.grownBy_alloc _ _ _)
  have far : ∀ q, q < w.heap.size → ((w.drew.alloc (.cells arr 41)).setCells w.heap.size (k * 5) (enc y)).heap[q]? = w.heap[q]? := fun q hq => by
    rw [setCells_heap _ _ _ _ (by omega)]; exact Below.heap_alloc w.drew _ q hq
  refine ⟨fun j hj => ?_, fun j _ => hbn.frozen _, fun j hj => ?_, fun j _ => hb3.frozen _, fun j u hu => ?_, fun vb hv => ?_, ⟨⟨_, rfl, ?_, .inr rfl⟩, ?_⟩⟩
  · rw [hbn.cell, List.getElem?_eq_getElem (by rw [hs] at hj; rw [hlz]; omega)]; rfl
  · rw [hb3.cell, List.getElem?_eq_getElem (by rw [hlen] at hj; rw [hl3]; omega)]; rfl
  · have hj := (List.getElem?_eq_some_iff.1 hu).1
    rw [hlen] at hj
    have h1 := (own_cell hrow (k * 5 + j) (by rw [fl_length hs]; omega)).1
    rw [← List.getElem?_drop, fl_drop hs l k (by omega), hu] at h1
    rw [← h1]
    exact World.cell?_of_block (far g hgw)
  · have := hv.lt
    unfold Blk at *; rw [← hv]; exact Below.heap_alloc w.drew _ _ this
  · have hlq : (l.take k ++ y :: l.drop k).length = l.length + 1 := by simp; omega
    refine ⟨by rw [fl_length hs], .inr ⟨w.heap.size, C, _, by rw [hlq], hb, hb4, by omega, by simpa [maxLen] using hC2, ?_, ?_⟩⟩
    · simp only [List.size_toArray, List.length_append, fl_length hs, List.length_take, List.length_drop, hs, hlz]; omega
    · rw [hlq, fl_append, fl_cons]
      show (fl enc (l.take k) ++ enc y ++ fl enc (l.drop k) ++ _).take ((l.length + 1) * 5) = _
      rw [List.take_append_of_le_length (by simp only [List.length_append, fl_length hs, List.length_take, List.length_drop, hs]; omega), List.take_of_length_le (by simp only [List.length_append, fl_length hs, List.length_take, List.length_drop, hs]; omega), List.append_assoc]
  · obtain ⟨a1, a2, a3, a4⟩ := setCells_same (g := w.heap.size) (enc y) (k * 5) (w.drew.alloc (.cells arr 41))
    obtain ⟨b1, b2, b3, b4⟩ := setCells_same (g := w.heap.size) (fl enc (l.drop k)) ((k + 1) * 5) ((w.drew.alloc (.cells arr 41)).setCells w.heap.size (k * 5) (enc y)).drew
    exact ⟨b1.trans a1, b2.trans a2, b3.trans a3, by rw [b4]; show _ ≤ (World.setCells _ _ _ _).heap.size; rw [a4]; simp, fun q hq _ => by rw [setCells_heap _ _ _ _ (by omega)]; exact far q hq⟩

set_option maxRecDepth 100000 in
set_option maxHeartbeats 2000000 in
theorem ins_grow {α : Type} {enc : α → List Value} (hs : ∀ x, (enc x).length = 5) (h1 : ∀ x, ∀ u ∈ enc x, u.oneCell' = true) (base g cap : Nat) (l : List α) (k : Nat) (hk : k < l.length) (hfull : cap < l.length + 1) (y : α) (vb : Nat) (w : World) (hb : base ≤ w.heap.size)
    (hrow : w.ownsRow base 41 5 (.slice (some ⟨g, 0, none⟩) l.length cap) l.length (fl enc l)) (hvb : Blk w vb (enc y) 41) (hl : (l.length + 1) * 56 ≤ 140737488355328) :
    Calls Try.prog 71 #[.slice (some ⟨g, 0, none⟩) l.length cap, .int .i64 k, .slice (some ⟨vb, 0, none⟩) 1 1] w (Post enc base (.slice (some ⟨g, 0, none⟩) l.length cap) l k y w) := by
  have hcap : cap = l.length := by
    obtain ⟨A, c, hv, h1, h2⟩ := own_form0 hrow; cases hv; omega
  subst hcap
  obtain ⟨i0, hi, hzz⟩ := Option.map_eq_some_iff.1 info
  simp only [Prod.mk.injEq] at hzz
  obtain ⟨hz0, hz1, hz2⟩ := hzz
  have hl2 : l.length + 1 ≤ 140737488355328 := Nat.le_trans (Nat.le_mul_of_pos_right _ (by decide)) hl
  have hcut := cut_ge (l.length + 1) l.length 41 (w.tape w.drawn (.appendCap (l.length + 1) l.length 41)) (by omega)
  obtain ⟨C, hC⟩ : ∃ C, C = grownCap w (l.length + 1) l.length 41 := ⟨_, rfl⟩
  have hC' : l.length + 1 ≤ C ∧ C ≤ 9223372036854775807 := by rw [hC]; exact hcut
  obtain ⟨hC1, hC2⟩ := hC'
  have hG := grow_core hs w base g l.length C hb l k hk hC1 hC2 y hrow
  have hlt : (fl enc (l.take k)).length = k * 5 := by rw [fl_length hs, List.length_take]; omega
  have hold : (Builtin.firstCells i0.size k (.slice (some ⟨g, 0, none⟩) k l.length)).run Try.prog w.drew = .ok (fl enc (l.take k)).toArray w.drew :=
    run_firstCells_some w.drew i0.size k ⟨g, 0, none⟩ k l.length (fl enc (l.take k)) (by rw [hz1, hlt]) (fun j u hu => by
      have hj := (List.getElem?_eq_some_iff.1 hu).1
      have := (own_cell hrow j (by rw [fl_length hs]; omega)).1
      rw [add_lit]; show w.cell? _ = _
      rw [this, ← hu, ← fl_take hs l k (by omega), List.getElem?_take, if_pos (by omega)])
  have hr := Lib.run_append_grow_zeros (P := Try.prog) w 25 3 25 41 i0 (.agg #[.int .i64 0, .int .i64 0, .string ByteArray.empty, .string ByteArray.empty, .bool false]) .i64 .i64 und undi hi hz0 (some ⟨g, 0, none⟩) k l.length (fl enc (l.take k)) hold (l.length + 1 - k) (by omega) (by rw [hz1]; decide) (by omega) (by omega) (by rw [hz2]; omega) (by rw [hz2]; exact growslice_fits (by omega) (by rw [show k + (l.length + 1 - k) = l.length + 1 by omega]; exact hl))
  rw [show k + (l.length + 1 - k) = l.length + 1 by omega, ← hC, show ((l.length + 1 - k : Nat) : Int) = (l.length : Int) + 1 - (k : Int) by omega] at hr
  obtain ⟨W1, hW1⟩ : ∃ W1, W1 = w.drew.alloc (.cells ((fl enc (l.take k)).toArray ++ Builtin.zeroCells (.agg #[.int .i64 0, .int .i64 0, .string ByteArray.empty, .string ByteArray.empty, .bool false] : Value).cells (l.length + 1 - k) ++ Builtin.zeroCells (.agg #[.int .i64 0, .int .i64 0, .string ByteArray.empty, .string ByteArray.empty, .bool false] : Value).cells (C - (l.length + 1))) 41) := ⟨_, rfl⟩
  rw [← hW1] at hG hr
  have hvb1 := hG.vb vb hvb
  have hlen : (fl enc (l.drop k)).length = (l.length - k) * 5 := by rw [fl_length hs, List.length_drop]
  have hone : ∀ u ∈ fl enc (l.drop k), u.oneCell' = true := by
    intro u hu; obtain ⟨x, _, hx⟩ := List.mem_flatMap.1 hu; exact h1 x u hx
  have hcp1 : ∀ ty dl dc, 1 ≤ dl → (Builtin.copy_ #[25, 25] ty #[.slice (some ⟨w.heap.size, k * 5, none⟩) dl dc, .slice (some ⟨vb, 0, none⟩) 1 1]).run Try.prog W1 = .ok (goInt 1) (W1.setCells w.heap.size (k * 5) (enc y)) :=
    fun ty dl dc hd => run_copy_cells _ _ _ ty _ _ _ dl dc ⟨vb, 0, none⟩ 1 1 5 1 _ (by omega) und infos (by rw [hs]) (fun j u hu => by rw [add_lit, hvb1.cell]; exact hu) hG.c1 hG.f1 (h1 y)
  have hcp2 : ∀ ty dl dc sl sc, l.length - k = min sl dl → (Builtin.copy_ #[25, 25] ty #[.slice (some ⟨w.heap.size, (k + 1) * 5, none⟩) dl dc, .slice (some ⟨g, k * 5, none⟩) sl sc]).run Try.prog (W1.setCells w.heap.size (k * 5) (enc y)).drew = .ok (goInt ((l.length - k : Nat) : Int)) ((W1.setCells w.heap.size (k * 5) (enc y)).drew.setCells w.heap.size ((k + 1) * 5) (fl enc (l.drop k))) :=
    fun ty dl dc sl sc hm => run_copy_cells _ _ _ ty _ _ _ dl dc ⟨g, k * 5, none⟩ sl sc 5 (l.length - k) _ hm und infos hlen (fun j u hu => by rw [Addr.add_lit]; exact hG.old j u hu) hG.c2 hG.f2 hone
  have hfin := hG.fin
  obtain ⟨W2, hW2⟩ : ∃ W2, W2 = W1.setCells w.heap.size (k * 5) (enc y) := ⟨_, rfl⟩
  rw [← hW2] at hcp1 hcp2 hfin
  try simp only [Nat.mul_one] at hcp1 hcp2 hfin
  replace hfin := Lib.hid hfin
  replace hr := Lib.hid hr
  clear hG hvb1 hvb hone hlen hold hlt hcut hb hs h1 hrow hi hz0 hz1 hz2 hW1 hW2 hC hl
  generalize hn : l.length = n at *
  replace hn := Lib.hid hn
  have g1 : ∀ ty dc, _ := fun ty dc => hcp1 ty (n + 1 - k) dc (by omega)
  have g2 : ∀ ty dc sc, _ := fun ty dc sc => hcp2 ty (n - k) dc (n - k) sc (by omega)
  clear hcp1 hcp2
  have e1 : ¬ n = k := by omega
  have e2 : ¬ (k : Int) = (n : Int) := by omega
  have e5 : (n : Int) < (n : Int) + 1 := by omega
  have e6 : ¬ C = k := by omega
  have e7 : ¬ C = k + 1 := by omega
  have f0 : (0 : Int) ≤ (k : Int) + 1 := by omega
  have f1 : (k : Int) ≤ (n : Int) := by omega
  have f2 : k ≤ n := by omega
  have f4 : (k : Int) + 1 ≤ (n : Int) + 1 := by omega
  have f5 : k + 1 ≤ n + 1 := by omega
  have f8 : (k : Int) ≤ (n : Int) + 1 := by omega
  have f9 : k ≤ n + 1 := by omega
  go_enter Try.func71, Try.ntmps71
  go_wp2_with (at_builtin; go_must (refine Lib.wpList_append_run w rfl (.tmp 34) (.tmp 39) 25 3 rfl (.slice (some ⟨g, 0, none⟩) k n) (.int .i64 ((n : Int) + 1 - (k : Int))) rfl rfl _ _ hr.out ?_))
  have f6 : IntKind.i64.wrap ((k : Int) + 1) = (k : Int) + 1 := IntWalk.i64_in _ (by omega)
  have f7 : ((k : Int) + 1).toNat = k + 1 := by omega
  go_region
  clear f6 f7
  go_wp2
  go_ret
  exact hfin.out

theorem ins {α : Type} {enc : α → List Value} (hs : ∀ x, (enc x).length = 5) (h1 : ∀ x, ∀ u ∈ enc x, u.oneCell' = true) (base : Nat) (v : Value) (l : List α) (k : Nat) (hk : k ≤ l.length) (y : α) (vb : Nat) (w : World) (hb : base ≤ w.heap.size)
    (hrow : w.ownsRow base 41 5 v l.length (fl enc l)) (hvb : Blk w vb (enc y) 41) (hne : v.ownBlock ≠ some vb) (hl : (l.length + 1) * 56 ≤ 140737488355328) :
    Calls Try.prog 71 #[v, .int .i64 k, .slice (some ⟨vb, 0, none⟩) 1 1] w (Post enc base v l k y w) := by
  rcases Nat.lt_or_eq_of_le hk with hlt | rfl
  · obtain ⟨g, cap, rfl, hcap, -⟩ := own_form hrow (by omega)
    rcases Nat.lt_or_ge cap (l.length + 1) with h | h
    · exact ins_grow hs h1 base g cap l k hlt h y vb w hb hrow hvb hl
    · exact ins_room hs h1 base g cap l k hlt h y vb w hrow hvb (fun e => hne (by rw [e]; rfl))
  · exact ins_end hs h1 base v l y vb w hrow hb hvb hl

end Go.Proofs.Ytlbbcjlhnjnkeaa.InsMsg

/- slices.Delete of one element, as a contract. -/
namespace Go.Proofs.Ytlbbcjlhnjnkeaa
set_option linter.unusedVariables false
set_option linter.unusedSimpArgs false
set_option maxHeartbeats 8000000
open Go.RowKit

theorem DlMsg {n k : Nat} {g : Nat → List AV} {x : Value} (id : Nat) (hk : k < n) :
    FnC Try.prog 69 [.ref id x, .v (.int .i64 k), .v (.int .i64 (k + 1))] [(id, .own x 41 5 n g)]
      (fun r F' => ∃ x', r = .ref id x' ∧ F' = [(id, .own x' 41 5 (n - 1) (fun i => if i < k then g i else g (i + 1)))]) := by
  intro off w vs hoff hS hl hr
  match vs, hl with
  | [v0, v1, v2], _ =>
    have e0 := hr 0 _ v0 rfl rfl
    have e1 := hr 1 _ v1 rfl rfl
    have e2 := hr 2 _ v2 rfl rfl
    cases e0; cases e1; cases e2
    obtain ⟨L, rfl, ho, hlen, hel⟩ := (hS.rows _ (List.mem_singleton.2 rfl)).elems
    obtain ⟨g0, cap, rfl, hcap, -⟩ := own_form ho (by omega)
    refine (DelMsg.del (fun c : Cz 5 => c.len) (fun c => c.one) 0 g0 cap L k hk w ho).mono fun e w' hp => ?_
    have hle : (L.eraseIdx k).length = L.length - 1 := by rw [List.length_eraseIdx, if_pos hk]
    obtain ⟨q1, q2, q3⟩ := ret_row (r' := .own (.slice (some ⟨g0, 0, none⟩) (L.length - 1) cap) 41 5 (L.length - 1) (fun i => if i < k then g i else g (i + 1))) hS hoff hp.grown (fun b hb _ => by cases hb; rfl) (fun b hb => by left; exact hb) fun he => by
      have key := Row.sat.of_elems (own := Own off [(id, .own (.slice (some ⟨g0, 0, none⟩) (L.length - 1) cap) 41 5 (L.length - 1) (fun i => if i < k then g i else g (i + 1)))]) (g := fun i => if i < k then g i else g (i + 1)) hp.row (fun i hi => by
        rw [hle] at hi
        split
        · exact hlen i (by omega)
        · exact hlen (i + 1) (by omega)) (fun i hi j A hA => by
        have hi' : i < L.length - 1 := by rw [hle] at hi; exact hi
        rw [List.getElem_eraseIdx]
        split at hA
        · rename_i h
          rw [dif_pos h]
          obtain ⟨u, hu, hrep⟩ := hel i (by omega) j A hA
          exact ⟨u, hu, hrep.ext he⟩
        · rename_i h
          rw [dif_neg h]
          obtain ⟨u, hu, hrep⟩ := hel (i + 1) (by omega) j A hA
          exact ⟨u, hu, hrep.ext he⟩)
      rw [hle] at key
      exact key
    exact ⟨_, _, _, ⟨_, rfl, rfl⟩, hp.e, .ref _ _ rfl, q1, q2, q3⟩

end Go.Proofs.Ytlbbcjlhnjnkeaa

/- slices.Delete of one element, as a contract. -/
namespace Go.Proofs.Ytlbbcjlhnjnkeaa
set_option linter.unusedVariables false
set_option linter.unusedSimpArgs false
set_option maxHeartbeats 8000000
open Go.RowKit

theorem DlHeld {n k : Nat} {g : Nat → List AV} {x : Value} (id : Nat) (hk : k < n) :
    FnC Try.prog 80 [.ref id x, .v (.int .i64 k), .v (.int .i64 (k + 1))] [(id, .own x 53 6 n g)]
      (fun r F' => ∃ x', r = .ref id x' ∧ F' = [(id, .own x' 53 6 (n - 1) (fun i => if i < k then g i else g (i + 1)))]) := by
  intro off w vs hoff hS hl hr
  match vs, hl with
  | [v0, v1, v2], _ =>
    have e0 := hr 0 _ v0 rfl rfl
    have e1 := hr 1 _ v1 rfl rfl
    have e2 := hr 2 _ v2 rfl rfl
    cases e0; cases e1; cases e2
    obtain ⟨L, rfl, ho, hlen, hel⟩ := (hS.rows _ (List.mem_singleton.2 rfl)).elems
    obtain ⟨g0, cap, rfl, hcap, -⟩ := own_form ho (by omega)
    refine (DelHeld.del (fun c : Cz 6 => c.len) (fun c => c.one) 0 g0 cap L k hk w ho).mono fun e w' hp => ?_
    have hle : (L.eraseIdx k).length = L.length - 1 := by rw [List.length_eraseIdx, if_pos hk]
    obtain ⟨q1, q2, q3⟩ := ret_row (r' := .own (.slice (some ⟨g0, 0, none⟩) (L.length - 1) cap) 53 6 (L.length - 1) (fun i => if i < k then g i else g (i + 1))) hS hoff hp.grown (fun b hb _ => by cases hb; rfl) (fun b hb => by left; exact hb) fun he => by
      have key := Row.sat.of_elems (own := Own off [(id, .own (.slice (some ⟨g0, 0, none⟩) (L.length - 1) cap) 53 6 (L.length - 1) (fun i => if i < k then g i else g (i + 1)))]) (g := fun i => if i < k then g i else g (i + 1)) hp.row (fun i hi => by
        rw [hle] at hi
        split
        · exact hlen i (by omega)
        · exact hlen (i + 1) (by omega)) (fun i hi j A hA => by
        have hi' : i < L.length - 1 := by rw [hle] at hi; exact hi
        rw [List.getElem_eraseIdx]
        split at hA
        · rename_i h
          rw [dif_pos h]
          obtain ⟨u, hu, hrep⟩ := hel i (by omega) j A hA
          exact ⟨u, hu, hrep.ext he⟩
        · rename_i h
          rw [dif_neg h]
          obtain ⟨u, hu, hrep⟩ := hel (i + 1) (by omega) j A hA
          exact ⟨u, hu, hrep.ext he⟩)
      rw [hle] at key
      exact key
    exact ⟨_, _, _, ⟨_, rfl, rfl⟩, hp.e, .ref _ _ rfl, q1, q2, q3⟩

end Go.Proofs.Ytlbbcjlhnjnkeaa

/- slices.Insert of one element, as a contract. -/
namespace Go.Proofs.Ytlbbcjlhnjnkeaa
set_option linter.unusedVariables false
set_option linter.unusedSimpArgs false
set_option maxHeartbeats 8000000
open Go.RowKit

/-- One element more, at a place. -/
def InMsg_g (g : Nat → List AV) (k : Nat) (y : List AV) (i : Nat) : List AV := if i < k then g i else if i = k then y else g (i - 1)

theorem InMsg {n k : Nat} {g : Nat → List AV} {x : Value} {b : Nat} {y : List AV} (id id2 : Nat) (hk : k ≤ n) (hy : y.length = 5) (hn : (n + 1) * 56 ≤ 140737488355328) :
    FnC Try.prog 71 [.ref id x, .v (.int .i64 k), .v (.slice (some ⟨b, 0, none⟩) 1 1)] [(id2, .blk b 41 y), (id, .own x 41 5 n g)]
      (fun r F' => ∃ x', r = .ref id x' ∧ F' = [(id, .own x' 41 5 (n + 1) (InMsg_g g k y))]) := by
  intro off w vs hoff hS hl hr
  match vs, hl with
  | [v0, v1, v2], _ =>
    have e0 := hr 0 _ v0 rfl rfl
    have e1 := hr 1 _ v1 rfl rfl
    have e2 := hr 2 _ v2 rfl rfl
    cases e0; cases e1; cases e2
    obtain ⟨L, rfl, ho, hlen, hel⟩ := (hS.rows (id, .own x 41 5 n g) (by simp)).elems
    obtain ⟨us, hh, hul, hu1, hur⟩ := hS.rows (id2, .blk b 41 y) (by simp)
    have hne : x.ownBlock ≠ some b := fun e => by
      have := List.rel_of_pairwise_cons hS.nodup (List.mem_singleton.2 rfl) b rfl
      exact this e
    have hown : ∀ b', Own off [(id, Row.own x 41 5 L.length g)] b' → Own off [(id2, Row.blk b 41 y), (id, .own x 41 5 L.length g)] b' := by
      rintro b' (h | ⟨s, h1, h2⟩)
      · exact .inl h
      · exact .inr ⟨s, List.mem_cons_of_mem _ h1, h2⟩
    have hS1 : Sat off [(id, .own x 41 5 L.length g)] w := hS.tail (by simp)
    refine (InsMsg.ins (fun c : Cz 5 => c.len) (fun c => c.one) 0 x L k hk ⟨us, by omega, hu1⟩ b w (Nat.zero_le _) ho hh hne hn).mono fun e w' hp => ?_
    obtain ⟨v', he, hrow, hb⟩ := hp.ex
    have hle : (L.take k ++ (⟨us, by omega, hu1⟩ : Cz 5) :: L.drop k).length = L.length + 1 := by simp; omega
    have hin : ∀ (i : Nat) (A : AV) (j : Nat), (InMsg_g g k y i)[j]? = some A → ∀ (hi : i < (L.take k ++ (⟨us, by omega, hu1⟩ : Cz 5) :: L.drop k).length), ∃ u, ((L.take k ++ (⟨us, by omega, hu1⟩ : Cz 5) :: L.drop k)[i]).l[j]? = some u ∧ Rep (Own off [(id2, Row.blk b 41 y), (id, .own x 41 5 L.length g)]) w A u := by
      intro i A j hA hi
      unfold InMsg_g at hA
      rw [List.getElem_append]
      split at hA
      · rename_i h
        rw [dif_pos (by simp; omega)]
        obtain ⟨u, hu, hrep⟩ := hel i (by omega) j A hA
        exact ⟨u, by simpa using hu, hrep⟩
      · rename_i h
        rw [dif_neg (by simp; omega)]
        split at hA
        · rename_i h2
          subst h2
          have hj : j < us.length := by rw [hul]; exact (List.getElem?_eq_some_iff.1 hA).1
          refine ⟨us[j], ?_, hur j A _ hA (List.getElem?_eq_getElem hj)⟩
          have h3 : i - (L.take i).length = 0 := by simp; omega
          have h4 : ∀ m (hm : m = i - (L.take i).length) (hm2 : m < ((⟨us, by omega, hu1⟩ : Cz 5) :: L.drop i).length), (((⟨us, by omega, hu1⟩ : Cz 5) :: L.drop i)[m]).l[j]? = some us[j] := by
            intro m hm hm2
            rw [h3] at hm
            subst hm
            exact List.getElem?_eq_getElem hj
          exact h4 _ rfl _
        · rename_i h2
          rw [hle] at hi
          obtain ⟨u, hu, hrep⟩ := hel (i - 1) (by omega) j A hA
          refine ⟨u, ?_, hrep⟩
          have h3 : i - (L.take k).length = (i - 1 - k) + 1 := by simp; omega
          have h4 : ∀ m (hm : m = i - (L.take k).length) (hm2 : m < ((⟨us, by omega, hu1⟩ : Cz 5) :: L.drop k).length), (((⟨us, by omega, hu1⟩ : Cz 5) :: L.drop k)[m]).l[j]? = some u := by
            intro m hm hm2
            rw [h3] at hm
            subst hm
            simp only [List.getElem_cons_succ, List.getElem_drop]
            have h5 : k + (i - 1 - k) = i - 1 := by omega
            simp only [h5]
            exact hu
          exact h4 _ rfl _
    obtain ⟨q1, q2, q3⟩ := ret_row (r' := .own v' 41 5 (L.length + 1) (InMsg_g g k y)) hS1 hoff hp.grown (fun b hb _ => hb) (fun b' hb' => by
        rcases hb with h | h
        · left; exact h.symm.trans hb'
        · right; rw [show Row.block (.own v' 41 5 (L.length + 1) (InMsg_g g k y)) = v'.ownBlock from rfl, h] at hb'; cases hb'; exact Nat.le_refl _) fun he => by
      have key := Row.sat.of_elems (own := Own off [(id, .own v' 41 5 (L.length + 1) (InMsg_g g k y))]) (g := InMsg_g g k y) hrow (fun i hi => by
        rw [hle] at hi
        unfold InMsg_g
        split
        · exact hlen i (by omega)
        split
        · exact hy
        · exact hlen (i - 1) (by omega)) (fun i hi j A hA => by
        obtain ⟨u, hu, hrep⟩ := hin i A j hA hi
        exact ⟨u, hu, (hrep.ext (Ext.less hown w)).ext he⟩)
      rw [hle] at key
      exact key
    refine ⟨_, _, _, ⟨v', rfl, rfl⟩, he, .ref _ _ (by obtain ⟨A, cap, rfl, -⟩ := own_form0 hrow; rfl), q1, ⟨q2.os, q2.tape, q2.output, q2.size, fun b' hlt hn => q2.block b' hlt fun ⟨s, h1, h2⟩ => hn ⟨s, List.mem_cons_of_mem _ h1, h2⟩⟩, fun s hs b' hb' => ?_⟩
    rcases q3 s hs b' hb' with ⟨s', h1, h2⟩ | h
    · exact .inl ⟨s', List.mem_cons_of_mem _ h1, h2⟩
    · exact .inr h

end Go.Proofs.Ytlbbcjlhnjnkeaa
