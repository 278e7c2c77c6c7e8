/- The walk of (*Pace).Due. -/
import Derived.Test.YtglmdoghknpgkaaPaceW
namespace Go.Proofs.Ytglmdoghknpgkaa
set_option linter.unusedVariables false
set_option linter.unusedSimpArgs false
open Go.RowKit

theorem und_ints : Try.prog.underlying 36 = some (.slice 3) := by kernel_rfl
theorem info_int : (Try.prog.info? 3).map (fun i => (i.zero, i.size, i.bytes)) = some (some (.int .i64 0), 1, 8) := by kernel_rfl
def ic (n : Int) : List Value := [.int .i64 n]
theorem ic_len (n : Int) : (ic n).length = 1 := rfl

def DuePost (g : Nat) (v : Value) (p : PaceS) (now : Int) (w : World) (e : Ending) (w' : World) : Prop :=
  ∃ vo, e = .returned vo ∧ w'.ownsRow w.heap.size 3 1 vo (p.due now).2.length (fl ic (p.due now).2) ∧ PAt P0 E0 w' g v (p.due now).1 ∧ Kept (fun k => k = g ∨ v.ownBlock = some k) w w'

structure DueJ (g : Nat) (v : Value) (p : PaceS) (now : Int) (w : World) (k : Nat) (vo : Value) (w' : World) : Prop where
  row : w'.ownsRow w.heap.size 3 1 vo (dueOut now (p.l.take k)).length (fl ic (dueOut now (p.l.take k)))
  pt : PAt P0 E0 w' g v ⟨now, p.last, dueTo now p.l k⟩
  kept : Kept (fun k => k = g ∨ v.ownBlock = some k) w w'

theorem DueJ.skip {g : Nat} {v : Value} {p : PaceS} {now : Int} {w wr : World} {k : Nat} {vo : Value} (h : DueJ g v p now w k vo wr) (hlt : k < p.l.length) (hd : ¬ wait p.l[k].tries ≤ wrap64 (now - p.l[k].at_)) (n : Nat) :
    DueJ g v p now w (k + 1) vo (wr.drewN n) := by
  have hone : dueOne now p.l[k] = false := by simp [dueOne]; omega
  have hlt' : k < (dueTo now p.l k).length := by rw [dueTo_length now p.l k (by omega)]; exact hlt
  have e1 : dueOut now (p.l.take (k + 1)) = dueOut now (p.l.take k) := by rw [List.take_succ_eq_append_getElem hlt, dueOut_snoc, hone]; simp
  have e2 : dueTo now p.l (k + 1) = dueTo now p.l k := by
    rw [dueTo_succ now p.l k hlt, dueStep, hone]
    have := dueTo_at now p.l k hlt hlt'
    simp only [Bool.false_eq_true, if_false]
    rw [← this, List.set_getElem_self]
  exact ⟨by rw [e1]; exact h.row, by rw [e2]; exact h.pt.drewN n, h.kept.drewN n⟩

theorem DueJ.sets {g g2 c1 c2 : Nat} {p : PaceS} {now : Int} {w wr : World} {k : Nat} {vo : Value} (h : DueJ g (.slice (some ⟨g2, 0, none⟩) c1 c2) p now w k vo wr) (hp : PAt P0 E0 w g (.slice (some ⟨g2, 0, none⟩) c1 c2) p) (hlt : k < p.l.length)
    (hd : wait p.l[k].tries ≤ wrap64 (now - p.l[k].at_)) (n : Nat) (W : World)
    (hW : W = ((wr.drewN n).setCell ⟨g2, k * 3 + 1, none⟩ (.int .i64 now)).setCell ⟨g2, k * 3 + 2, none⟩ (.int .i64 (wrap64 (p.l[k].tries + 1)))) :
    W.ownsRow w.heap.size 3 1 vo (dueOut now (p.l.take k)).length (fl ic (dueOut now (p.l.take k))) ∧ w.heap.size ≤ W.heap.size ∧
    ∀ v1 w1, w1.ownsRow w.heap.size 3 1 v1 (dueOut now (p.l.take k) ++ [p.l[k].n]).length (fl ic (dueOut now (p.l.take k) ++ [p.l[k].n])) → W.grownBy w1 vo.ownBlock →
      DueJ g (.slice (some ⟨g2, 0, none⟩) c1 c2) p now w (k + 1) v1 w1 := by
  subst hW
  have hg2 := (hp.row.lt g2 rfl).2
  have hg := hp.blk.lt
  have hne : vo.ownBlock ≠ some g2 := fun e => by have := (h.row.lt g2 e).1; omega
  have hlt' : k < (dueTo now p.l k).length := by rw [dueTo_length now p.l k (by omega)]; exact hlt
  have hone : dueOne now p.l[k] = true := by simp [dueOne]; omega
  refine ⟨own_far (own_far (Kept.own (Kept.drewN (Kept.refl (fun _ => False) wr) n) h.row (fun _ _ h => h)) hne _) hne _, ?_, ?_⟩
  · have := h.kept.size; simpa [World.setCell] using this
  · intro v1 w1 hr hgr
    have hat := dueTo_at now p.l k hlt hlt'
    have hset := (h.pt.drewN n).set (by decide) k hlt' now (wrap64 (p.l[k].tries + 1)) (by unfold wrap64; omega)
    refine ⟨?_, ?_, ?_⟩
    · rw [List.take_succ_eq_append_getElem hlt, dueOut_snoc, hone]; exact hr
    · have e : dueTo now p.l (k + 1) = (dueTo now p.l k).set k ⟨(dueTo now p.l k)[k].n, now, wrap64 (p.l[k].tries + 1)⟩ := by
        rw [dueTo_succ now p.l k hlt, dueStep, hone, hat]; rfl
      rw [e]
      refine hset.kept (S := fun b => vo.ownBlock = some b) (Kept.grown (Kept.refl _ _) hgr fun k e _ => e) (fun e => ?_) (fun b hb e => ?_)
      · have := (h.row.lt g e).1; omega
      · cases hb; exact hne e
    · refine (((h.kept.drewN n).set (p := ⟨g2, k * 3 + 1, none⟩) (fun _ => .inr rfl) _).set (p := ⟨g2, k * 3 + 2, none⟩) (fun _ => .inr rfl) _).grown hgr (fun b hb hlt => ?_)
      have := (h.row.lt b hb).1; omega

theorem due_no (g : Nat) (v : Value) (p : PaceS) (now : Int) (w : World) (hp : PAt P0 E0 w g v p) (h : p.may now = false) :
    Calls Try.prog 15 #[.pointer (some ⟨g, 0, none⟩), .int .i64 now] w (DuePost g v p now w) := by
  have hfin : DuePost g v p now w (.returned (.slice none 0 0)) w := by
    unfold DuePost PaceS.due
    rw [h]
    exact ⟨_, rfl, World.ownsRow_nil _ _ _ _, hp, Kept.refl _ _⟩
  have HF := Lib.hid hfin; clear hfin
  go_enter Try.func15, Try.ntmps15
  go_wp2
  go_step3
  go_wp2_with (go_at_call 24; refine (goes_no g v p now _ hp h).mono ?_; rintro e w1 ⟨rfl, rfl⟩)
  rw [Exit.noGoto_ret]
  go_ret
  exact HF.out

theorem due_yes (g : Nat) (v : Value) (p : PaceS) (now : Int) (w : World) (hp : PAt P0 E0 w g v p) (h : p.may now = true) (hl : p.l.length ≤ 64) :
    Calls Try.prog 15 #[.pointer (some ⟨g, 0, none⟩), .int .i64 now] w (DuePost g v p now w) := by
  have hp1 : PAt P0 E0 (w.setCell ⟨g, 0, none⟩ (.int .i64 now)) g v ⟨now, p.last, dueTo now p.l 0⟩ := by
    rw [dueTo_zero]
    exact ⟨hp.blk.set 0 _, own_far hp.row (hp.ne (by decide)) _, hp.tries⟩
  have hk1 : Kept (fun k => k = g ∨ v.ownBlock = some k) w (w.setCell ⟨g, 0, none⟩ (.int .i64 now)) := (Kept.refl _ _).set (fun _ => .inl rfl) _
  have HF : ∀ vo w', (w'.ownsRow w.heap.size 3 1 vo (dueOut now p.l).length (fl ic (dueOut now p.l))) → PAt P0 E0 w' g v ⟨now, p.last, dueTo now p.l p.l.length⟩ → Kept (fun k => k = g ∨ v.ownBlock = some k) w w' → DuePost g v p now w (.returned vo) w' := by
    intro vo w' h1 h2 h3
    unfold DuePost PaceS.due
    rw [h]; rw [dueTo_all] at h2
    exact ⟨_, rfl, h1, h2, h3⟩
  replace HF := Lib.hid HF
  have HP1 := Lib.hid hp1
  have HK1 := Lib.hid hk1
  clear hp1 hk1
  go_enter Try.func15, Try.ntmps15
  go_wp2
  refine wp_scope_label 0 (fun a' w' => ∃ (k : Nat) (vo : Value), (∃ u : Nat → Value, a' = { tmps := #[.pointer (some ⟨g, 0, none⟩), .int .i64 now, u 2, u 3, u 4, vo, .int .i64 k, u 7, u 8, u 9, u 10, u 11, u 12, u 13, u 14, u 15, u 16, u 17, u 18, u 19, u 20, u 21, u 22, u 23, u 24, u 25, u 26, u 27, u 28, u 29, u 30, u 31, u 32, u 33, u 34, u 35, u 36, u 37, u 38, u 39, u 40, u 41, u 42, u 43, u 44, u 45, u 46, u 47, u 48, u 49, u 50, u 51, u 52, u 53, u 54, u 55, u 56, u 57, u 58], defers := [] }) ∧ k ≤ p.l.length ∧ DueJ g v p now w k vo w')
    (fun a' _ => p.l.length - (intOf (a'.tmps.getD 6 undef)).toNat) rfl ?_ ?_
  · intro PASS
    replace PASS := Lib.hid PASS
    go_wp2_with (go_at_call 24; refine (goes_yes g v p now _ hp h).mono ?_; rintro e w1 ⟨rfl, rfl⟩)
    go_step3
    refine ‹∀ _ _, _ → _› _ _ ?_
    exact PASS.out _ _ ⟨0, .slice none 0 0, uof rfl, Nat.zero_le _, World.ownsRow_nil _ _ _ _, HP1.out, HK1.out⟩
  · rintro a' wr ⟨k, vo, ⟨u, rfl⟩, hk, hJ⟩
    have hp2 := hJ.pt.blk.cell 2
    by_cases hlt : k < p.l.length
    · have hlen := dueTo_length now p.l k hk
      have hlt' : k < (dueTo now p.l k).length := by omega
      have hat := dueTo_at now p.l k hlt hlt'
      obtain ⟨g2, cap, rfl, -⟩ := own_form hJ.pt.row (by simp only; omega)
      have c2 : wr.cell? ⟨g, 2, none⟩ = some (.slice (some ⟨g2, 0, none⟩) (dueTo now p.l k).length cap) := hp2
      rw [hlen] at c2
      have hadd : (⟨g2, 0, none⟩ : Addr).add (k * 3) = ⟨g2, k * 3, none⟩ := by unfold Addr.add; split <;> simp_all
      have hcell : ∀ j, j < 3 → wr.cell? ⟨g2, k * 3 + j, none⟩ = (p.l[k].cells)[j]? ∧ wr.frozen? ⟨g2, k * 3 + j, none⟩ = false := by
        intro j hj
        have := own_cell hJ.pt.row (k * 3 + j) (by rw [fl_length Sent.len]; simp only; omega)
        rw [fl_get Sent.len _ k hlt' j hj, hat] at this
        exact this
      have e0 : wr.cell? ⟨g2, k * 3, none⟩ = some (.int .i64 p.l[k].n) := (hcell 0 (by omega)).1
      have e1 : wr.cell? ⟨g2, k * 3 + 1, none⟩ = some (.int .i64 p.l[k].at_) := (hcell 1 (by omega)).1
      have e2 : wr.cell? ⟨g2, k * 3 + 2, none⟩ = some (.int .i64 p.l[k].tries) := (hcell 2 (by omega)).1
      have f1 : wr.frozen? ⟨g2, k * 3 + 1, none⟩ = false := (hcell 1 (by omega)).2
      have f2 : wr.frozen? ⟨g2, k * 3 + 2, none⟩ = false := (hcell 2 (by omega)).2
      have hbd : p.l[k].tries ≤ 9223372036854775807 := hJ.pt.tries _ (by have := List.getElem_mem hlt'; rwa [hat] at this)
      have SETS := Lib.hid (hJ.sets hp hlt)
      have SKIP := Lib.hid (hJ.skip hlt)
      generalize p.l[k] = s at *
      clear hcell hp2 hlen hat hJ hp h
      by_cases hd : wait s.tries ≤ wrap64 (now - s.at_)
      · go_wp2
        go_quiet ((go_at_call 20; exact quiet_same (wait_any _ _ hbd)))
        rename_i nq
        obtain ⟨o1, o2, o3⟩ := SETS.out hd nq _ rfl
        replace o3 := Lib.hid o3
        have hdl : (dueOut now (List.take k p.l)).length ≤ 64 := by
          have := List.length_filter_le (dueOne now) (List.take k p.l); unfold dueOut; rw [List.length_map]; simp at this; simp; omega
        go_wp2_with (at_builtin; go_must (refine app1 (enc := ic) (size := 1) w.heap.size rfl _ _ 36 3 (.int .i64 0) 8 rfl und_ints info_int rfl (by decide) (by decide) ic_len vo (dueOut now (p.l.take k)) s.n _ rfl rfl rfl (by simp) (by simp [ic, Value.oneCell']) o1 o2 (by omega) ?_); intro v1 w1 ho hg _)
        have hJ1 := o3.out v1 w1 ho hg
        go_step3
        exact ⟨rfl, ⟨k + 1, v1, uof rfl, by omega, hJ1⟩, by simp [intOf]; omega⟩
      · go_wp2
        go_quiet ((go_at_call 20; exact quiet_same (wait_any _ _ hbd)))
        rename_i nq
        have hJ1 := SKIP.out hd nq
        go_wp2
        go_step3
        exact ⟨rfl, ⟨k + 1, vo, uof rfl, by omega, hJ1⟩, by simp [intOf]; omega⟩
    · obtain rfl : k = p.l.length := by omega
      have hlen := dueTo_length now p.l p.l.length (Nat.le_refl _)
      obtain ⟨A, cap, rfl, -⟩ := own_form0 hJ.pt.row
      have c2 : wr.cell? ⟨g, 2, none⟩ = some (.slice A (dueTo now p.l p.l.length).length cap) := hp2
      rw [hlen] at c2
      clear hp2 hlen
      have hfin := HF.out vo wr (by have := hJ.row; simpa using this) hJ.pt hJ.kept
      replace hfin := Lib.hid hfin
      go_wp2
      go_ret
      exact hfin.out

end Go.Proofs.Ytglmdoghknpgkaa
