/- slices.Clone at int. -/
import Derived.Test.YtglmdoghknpgkaaBase
import Derived.Test.YtglmdoghknpgkaaRows
namespace Go.Proofs.Ytglmdoghknpgkaa.CloneI
set_option linter.unusedVariables false
set_option linter.unusedSimpArgs false
open Go.RowKit

theorem und : Try.prog.underlying 36 = some (.slice 3) := by kernel_rfl
theorem info : (Try.prog.info? 3).map (fun i => (i.zero, i.size, i.bytes)) = some (some (.int .i64 0), 1, 8) := by kernel_rfl

def Post {α : Type} (enc : α → List Value) (l : List α) (w : World) (e : Ending) (w' : World) : Prop :=
  ∃ v', e = .returned v' ∧ w'.ownsRow w.heap.size 3 1 v' l.length (fl enc l) ∧ Below w.heap.size w w'

theorem clone {α : Type} {enc : α → List Value} (hs : ∀ x, (enc x).length = 1) (h1 : ∀ x, ∀ u ∈ enc x, u.oneCell' = true) (v : Value) (l : List α) (w : World) (hv : Rd enc w v l) (hl : l.length * 8 ≤ 140737488355328) :
    Calls Try.prog 29 #[v] w (Post enc l w) := by
  obtain ⟨A, cap, rfl, hlc, hcm, hn, hc⟩ := hv
  cases A with
  | none =>
    obtain ⟨rfl, rfl⟩ := hn rfl
    have hfin : Post enc [] w (.returned (.slice none 0 0)) w := ⟨_, rfl, World.ownsRow_nil _ _ _ _, Below.refl _ _⟩
    replace hfin := Lib.hid hfin
    clear hc
    have hnil := Lib.run_eql_slice_nil w 36 3 none 0 0 0 0 und
    go_enter Try.func29, Try.ntmps29
    go_wp2
    go_ret
    exact hfin.out
  | some ad =>
    obtain ⟨i0, hi, hzz⟩ := Option.map_eq_some_iff.1 info
    simp only [Prod.mk.injEq] at hzz
    obtain ⟨hz0, hz1, hz2⟩ := hzz
    have hc0 := hc ad rfl
    have hone : ∀ u ∈ fl enc l, u.oneCell' = true := by
      intro u hu; obtain ⟨x, _, hx⟩ := List.mem_flatMap.1 hu; exact h1 x u hx
    have HC := Lib.hid hc0
    have HI := Lib.hid (And.intro hi (And.intro hz0 (And.intro hz1 hz2)))
    have HS := Lib.hid (And.intro (fl_length hs l) hone)
    have hl' : l.length ≤ 140737488355328 := Nat.le_trans (Nat.le_mul_of_pos_right _ (by decide)) hl
    clear hc hn hc0 hi hz0 hz1 hz2 hone hs
    have hnil := Lib.run_eql_slice_nil w 36 3 (some ad) l.length cap 0 0 und
    go_enter Try.func29, Try.ntmps29
    have hmade : (w.alloc (.cells #[] 3)).ownsRow w.heap.size 3 1 (.slice (some ⟨w.heap.size, 0, none⟩) 0 0) 0 [] := World.ownsRow_made w #[] 0 (Nat.le_refl _) (by simp) (by simp)
    replace hmade := Lib.hid hmade
    go_wp2_with (at_builtin; go_must (refine wpList_append_own_at _ rfl _ _ 36 rfl w.heap.size 3 i0 (.int .i64 0) 1 8 und HI.out.1 HI.out.2.1 HI.out.2.2.1 HI.out.2.2.2 rfl (by decide) _ 0 [] rfl hmade.out ad l.length cap (fl enc l) rfl HS.out.1 (fun j u hj => by
      have := HC.out j u hj
      rw [← this]; exact Below.cell ((Below.refl _ _).alloc (Nat.le_refl _) _) (World.block_lt_of_cell? w _ this)) HS.out.2 (by simp only [maxLen]; omega) (by omega) (by simp) ?_); intro v1 w1 ho hg _ _)
    have hfin : Post enc l w (.returned v1) w1 := ⟨_, rfl, by simpa using ho, ((Below.refl _ _).alloc (Nat.le_refl _) _).grown hg (by simp) (fun k e => by cases e; exact Nat.le_refl _)⟩
    replace hfin := Lib.hid hfin
    clear ho hg
    go_wp2
    go_ret
    exact hfin.out

end Go.Proofs.Ytglmdoghknpgkaa.CloneI
