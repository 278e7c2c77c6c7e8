/- Parts of a frozen shard: the walk. -/
import Derived.Test.YtgnklbdbglnmaaaPartsLawM
import Derived.Test.YtgnklbdbglnmaaaAsksWM
namespace Go.Proofs.Ytgnklbdbglnmaaa
set_option linter.unusedVariables false
set_option linter.unusedSimpArgs false
set_option maxHeartbeats 8000000
open Go.RowKit
set_option maxRecDepth 4000

theorem shardParts_p (l : List OpD) (al : List Arc) : PFn Try.prog 10 [opsA l, arcs al] (.v (.bool true)) := by
  refine FnC.intro Try.func10 rfl Try.ntmps10 rfl ?_; intro off w0
  ((repeat refine S.seq ?_); refine S.region (L.go (T := tt) tt_ok rfl rfl ?sd108 ?_); (try (case sd108 => (repeat' (first | exact trivial | with_reducible refine zI ?_ ?_)))); try (refine L.nil ?_))
  ((repeat refine S.seq ?_); refine S.region (L.go (T := tt) tt_ok rfl rfl ?sd109 ?_); (try (case sd109 => (repeat' (first | exact trivial | exact zA | with_reducible refine zI ?_ ?_)))); try (refine L.nil ?_))
  refine L.callG rfl rfl rfl rfl rfl rfl rfl (fun _ => ⟨trivial, by (repeat' (first | exact trivial | with_reducible refine zI ?_ ?_ | omega))⟩) rfl (Imps.refl _) (fun _ => (few9_p al)) ?_
  (refine L.go (T := tt) tt_ok rfl rfl ?sd135 ?_; (try (case sd135 => (repeat' (first | exact trivial | exact zA | with_reducible refine zI ?_ ?_ | exact zB | exact zC)))); try (refine L.nil ?_))
  refine L.callG rfl rfl rfl rfl rfl rfl rfl (fun _ => ⟨trivial, by (repeat' (first | exact trivial | with_reducible refine zI ?_ ?_ | omega))⟩) rfl (Imps.refl _) (fun _ => (ringmay_p al)) ?_
  (refine L.go (T := tt) tt_ok rfl rfl ?sd136 ?_; (try (case sd136 => (repeat' (first | exact trivial | with_reducible refine zI ?_ ?_ | exact zB | exact zC)))); try (refine L.nil ?_))
  ((repeat refine S.seq ?_); refine S.cond rfl (fun h1 => ?_) (fun h1 => ?_) <;> (try first | refine S.skip ?_ | refine S.exit ?_))
  · skip
    repeat refine S.seq ?_
    refine S.region ?_
    refine L.callP rfl rfl rfl rfl rfl rfl rfl ⟨trivial, by (repeat' (first | exact trivial))⟩ rfl (Imps.refl _) told12_p ?_
    (refine L.go (T := tt) tt_ok rfl rfl ?sd137 ?_; (try (case sd137 => (repeat' (first | exact trivial | with_reducible refine zI ?_ ?_)))); try (refine L.nil ?_))
    (((repeat refine S.seq ?_); refine S.ret ?_); refine E.retP (T := tt) tt_ok rfl rfl (by (repeat' (first | exact trivial | with_reducible refine zI ?_ ?_))) (Imp.of_eq ?_))
    rfl
  have h1n := h1
  simp only [Bool.or_eq_false_iff, decide_eq_false_iff_not, Bool.not_eq_false', decide_eq_true_eq] at h1n
  have hl80 : l.length ≤ 80 := by have := h1n.1.1; omega
  have hma : mayA al = true := by
    cases h : mayA al
    · rw [h] at h1; simp at h1
    · rfl
  have ma := mayA_of hma
  repeat refine S.seq ?_
  refine S.region ?_
  refine L.callP rfl rfl rfl rfl rfl rfl rfl ⟨trivial, by (repeat' (first | exact trivial))⟩ rfl (Imps.refl _) new_p ?_
  refine L.alloc (T := tt) 5 tt_ok rfl rfl rfl rfl rfl fun b5 => ?_
  (refine L.store (T := tt) tt_ok rfl rfl rfl rfl rfl rfl ?sd147 ?_; (try (case sd147 => (repeat' (first | exact trivial | with_reducible refine zI ?_ ?_ | rfl | exact zN rfl)))))
  refine L.nil ?_
  ((repeat refine S.seq ?_); refine S.region (L.go (T := tt) tt_ok rfl rfl ?sd110 ?_); (try (case sd110 => (repeat' (first | exact trivial | with_reducible refine zI ?_ ?_)))); try (refine L.nil ?_))
  repeat refine S.seq ?_
  refine S.block (S.loop (ι := { k : Nat // k ≤ l.length }) (fun k => [(0, opsA l), (1, arcs al), (5, .ptr 5 b5 0), (6, .v (.int .i64 k.1))])
    (fun k => [(5, .blk b5 35 (wS l k.1).cells)]) (fun k => l.length - k.1) ?_ ?_)
  · exact fun a w h => ⟨⟨0, Nat.zero_le _⟩, h.weak (by (repeat' (first | exact True.intro | exact Imp.refl _ | refine ⟨?_, ?_⟩))) (by (repeat (first | exact List.nil_sublist _ | refine List.Sublist.cons_cons _ ?_ | refine List.Sublist.cons _ ?_)))⟩
  rintro ⟨k, hk⟩
  dsimp only
  ((repeat refine S.seq ?_); refine S.region (L.go (T := tt) tt_ok rfl rfl ?sd111 ?_); (try (case sd111 => (repeat' (first | exact trivial | with_reducible refine zI ?_ ?_)))); try (refine L.nil ?_))
  ((repeat refine S.seq ?_); refine S.cond rfl (fun h2 => ?_) (fun h2 => ?_) <;> (try first | refine S.skip ?_ | refine S.exit ?_))
  · have h2 := of_dec h2
    have hw := wS_ok l k (by omega)
    have hlo := low_last hw.may hw.low (by omega) (uM (l.getD k default).pub 4) (nameK (uM (l.getD k default).key 6))
    have hlb := last_bound hw.may (uM (l.getD k default).pub 4) (nameK (uM (l.getD k default).key 6))
    repeat refine S.seq ?_
    refine S.block ?_
    repeat refine S.seq ?_
    apply S.cut (ι := Nat)
    · refine S.draw [(0, [5]), (1, [5])] mixed ?_
      (refine H.ts (T := tt) [0, 1, 2, 3, 4, 5] tt_ok (by kernel_rfl) (by kernel_rfl) (by kernel_rfl) (by intro ch a a' w h; obtain ⟨_, _, _, _, _, h, _⟩ := h; cases h) rfl ?sd152 ?_; (try (case sd152 => (repeat' (first | exact trivial | with_reducible refine zI ?_ ?_ | rfl | exact zN rfl | omega)))))
      refine H.o2 6 11 rfl rfl (by kernel_rfl) (by kernel_rfl) (O.callP rfl rfl rfl rfl rfl rfl rfl ⟨trivial, by (repeat' (first | exact trivial | with_reducible refine zI ?_ ?_))⟩ rfl (by exact Imps.refl _) ((next_p (wS l k) (l.getD k default) ⟨by omega, by omega⟩))) (O.alloc (T := tt) 7 tt_ok rfl rfl rfl rfl rfl) (.inr rfl) (.inr rfl) rfl rfl (fun _ => ?_) (fun b7 => ?_)
      · refine H.rebase ?_
        refine H.o2 7 11 rfl rfl (by kernel_rfl) (by kernel_rfl) (O.callP rfl rfl rfl rfl rfl rfl rfl ⟨trivial, by (repeat' (first | exact trivial | with_reducible refine zI ?_ ?_))⟩ rfl (by exact Imps.refl _) ((putR_p (wS l k) (nextL (wS l k) (l.getD k default)) hw.may.fine))) (O.alloc (T := tt) 7 tt_ok rfl rfl rfl rfl rfl) (.inr rfl) (.inr rfl) rfl rfl (fun _ => ?_) (fun b7 => ?_)
        · refine H.rebase ?_
          (refine H.ts (T := tt) [8, 9, 10] tt_ok (by kernel_rfl) (by kernel_rfl) (by kernel_rfl) (by intro ch a a' w h; obtain ⟨_, _, _, _, _, h, _⟩ := h; cases h) rfl ?sd153 ?_; (try (case sd153 => (repeat' (first | exact trivial | with_reducible refine zI ?_ ?_)))))
          refine H.o1 11 rfl (by kernel_rfl) (by kernel_rfl) (O.alloc (T := tt) 7 tt_ok rfl rfl rfl rfl rfl) (.inr rfl) rfl fun b7 => ?_
          (refine H.store (T := tt) 12 rfl (by kernel_rfl) (by kernel_rfl) tt_ok rfl rfl rfl rfl rfl rfl ?sd161 rfl (by kernel_rfl) ?_; (try (case sd161 => (repeat' (first | exact trivial | with_reducible refine zI ?_ ?_ | rfl | exact zN rfl)))))
          (refine H.ts (T := tt) [13] tt_ok (by kernel_rfl) (by kernel_rfl) (by kernel_rfl) (by intro ch a a' w h; obtain ⟨_, _, _, _, _, h, _⟩ := h; cases h) rfl ?sd154 ?_; (try (case sd154 => (repeat' (first | exact trivial | with_reducible refine zI ?_ ?_)))))
          refine H.done (by kernel_rfl) ?_
          exact fun a w hR => ⟨b7, hR.weak (σ' := [(0, _), (1, _), (5, _), (6, _), (7, _), (8, _)]) (by (repeat' (first | exact True.intro | exact Imp.refl _ | refine ⟨?_, ?_⟩))) (List.Sublist.refl _)⟩
        · skip
          refine H.callP 7 rfl (by kernel_rfl) (by kernel_rfl) rfl rfl rfl rfl rfl rfl rfl ⟨trivial, by (repeat' (first | exact trivial | with_reducible refine zI ?_ ?_))⟩ rfl (by exact Imps.refl _) ((putR_p (wS l k) (nextL (wS l k) (l.getD k default)) hw.may.fine)) ?_
          refine H.rebase ?_
          (refine H.ts (T := tt) [8, 9, 10] tt_ok (by kernel_rfl) (by kernel_rfl) (by kernel_rfl) (by intro ch a a' w h; obtain ⟨_, _, _, _, _, h, _⟩ := h; cases h) rfl ?sd155 ?_; (try (case sd155 => (repeat' (first | exact trivial | with_reducible refine zI ?_ ?_)))))
          (refine H.store (T := tt) 12 rfl (by kernel_rfl) (by kernel_rfl) tt_ok rfl rfl rfl rfl rfl rfl ?sd162 rfl (by kernel_rfl) ?_; (try (case sd162 => (repeat' (first | exact trivial | with_reducible refine zI ?_ ?_ | rfl | exact zN rfl)))))
          (refine H.ts (T := tt) [13] tt_ok (by kernel_rfl) (by kernel_rfl) (by kernel_rfl) (by intro ch a a' w h; obtain ⟨_, _, _, _, _, h, _⟩ := h; cases h) rfl ?sd156 ?_; (try (case sd156 => (repeat' (first | exact trivial | with_reducible refine zI ?_ ?_)))))
          refine H.done (by kernel_rfl) ?_
          exact fun a w hR => ⟨b7, hR.weakP (by (repeat' (first | exact True.intro | exact Imp.refl _ | refine ⟨?_, ?_⟩))) (by (repeat (first | exact Sub.refl _ | refine Sub.pick (by first | exact p0 | exact pS p0 | exact pS (pS p0) | exact pS (pS (pS p0)) | exact pS (pS (pS (pS p0))) | exact pS (pS (pS (pS (pS p0))))) ?_)))⟩
      · skip
        refine H.callP 6 rfl (by kernel_rfl) (by kernel_rfl) rfl rfl rfl rfl rfl rfl rfl ⟨trivial, by (repeat' (first | exact trivial | with_reducible refine zI ?_ ?_))⟩ rfl (by exact Imps.refl _) ((next_p (wS l k) (l.getD k default) ⟨by omega, by omega⟩)) ?_
        refine H.rebase ?_
        refine H.callP 7 rfl (by kernel_rfl) (by kernel_rfl) rfl rfl rfl rfl rfl rfl rfl ⟨trivial, by (repeat' (first | exact trivial | with_reducible refine zI ?_ ?_))⟩ rfl (by exact Imps.refl _) ((putR_p (wS l k) (nextL (wS l k) (l.getD k default)) hw.may.fine)) ?_
        refine H.rebase ?_
        (refine H.ts (T := tt) [8, 9, 10] tt_ok (by kernel_rfl) (by kernel_rfl) (by kernel_rfl) (by intro ch a a' w h; obtain ⟨_, _, _, _, _, h, _⟩ := h; cases h) rfl ?sd157 ?_; (try (case sd157 => (repeat' (first | exact trivial | with_reducible refine zI ?_ ?_)))))
        (refine H.store (T := tt) 12 rfl (by kernel_rfl) (by kernel_rfl) tt_ok rfl rfl rfl rfl rfl rfl ?sd163 rfl (by kernel_rfl) ?_; (try (case sd163 => (repeat' (first | exact trivial | with_reducible refine zI ?_ ?_ | rfl | exact zN rfl)))))
        (refine H.ts (T := tt) [13] tt_ok (by kernel_rfl) (by kernel_rfl) (by kernel_rfl) (by intro ch a a' w h; obtain ⟨_, _, _, _, _, h, _⟩ := h; cases h) rfl ?sd158 ?_; (try (case sd158 => (repeat' (first | exact trivial | with_reducible refine zI ?_ ?_)))))
        refine H.done (by kernel_rfl) ?_
        exact fun a w hR => ⟨b7, hR.weakP (by (repeat' (first | exact True.intro | exact Imp.refl _ | refine ⟨?_, ?_⟩))) (by (repeat (first | exact Sub.refl _ | refine Sub.pick (by first | exact p0 | exact pS p0 | exact pS (pS p0) | exact pS (pS (pS p0)) | exact pS (pS (pS (pS p0))) | exact pS (pS (pS (pS (pS p0))))) ?_)))⟩
    intro b7
    try dsimp only
    ((repeat refine S.seq ?_); refine S.region (L.go (T := tt) tt_ok rfl rfl ?sd112 ?_); (try (case sd112 => (repeat' (first | exact trivial | with_reducible refine zI ?_ ?_)))); try (refine L.nil ?_))
    refine S.cut (ι := Unit) (fun _ => [(0, opsA l), (1, arcs al), (5, .ptr 5 b5 0), (6, .v (.int .i64 k))]) (fun _ => [(5, .blk b5 35 (wS l (k + 1)).cells)]) ?_ ?_
    · ((repeat refine S.seq ?_); refine S.cond rfl (fun h3 => ?_) (fun h3 => ?_) <;> (try first | refine S.skip ?_ | refine S.exit ?_))
      · skip
        ((repeat refine S.seq ?_); refine S.region (L.go (T := tt) tt_ok rfl rfl ?sd113 ?_); (try (case sd113 => (repeat' (first | exact trivial | with_reducible refine zI ?_ ?_ | rfl | exact zN rfl)))); try (refine L.nil ?_))
        (refine L.store (T := tt) tt_ok rfl rfl rfl rfl rfl rfl ?sd148 ?_; (try (case sd148 => (repeat' (first | exact trivial | with_reducible refine zI ?_ ?_ | rfl | exact zN rfl)))))
        refine L.nil ?_
        exact fun a w hR => ⟨(), hR.weakP (by (repeat' (first | exact True.intro | exact Imp.refl _ | refine ⟨?_, ?_⟩))) (by (repeat (first | exact Sub.refl _ | refine Sub.pick (by first | exact p0 | exact pS p0 | exact pS (pS p0) | exact pS (pS (pS p0)) | exact pS (pS (pS (pS p0))) | exact pS (pS (pS (pS (pS p0))))) ?_)))⟩
      · skip
        have he : (putR (wS l k) (nextL (wS l k) (l.getD k default))).2 ≠ 0 := by simpa using h3
        have hsame : wS l (k + 1) = wS l k := by
          have : putE (wS l k) (nextL (wS l k) (l.getD k default)) ≠ 0 := he
          rw [wS, putR, if_neg this]
        rw [hsame]
        exact fun a w hR => ⟨(), hR.weakP (by (repeat' (first | exact True.intro | exact Imp.refl _ | refine ⟨?_, ?_⟩))) (by (repeat (first | exact Sub.refl _ | refine Sub.pick (by first | exact p0 | exact pS p0 | exact pS (pS p0) | exact pS (pS (pS p0)) | exact pS (pS (pS (pS p0))) | exact pS (pS (pS (pS (pS p0))))) ?_)))⟩
    rintro ⟨⟩
    ((repeat refine S.seq ?_); refine S.region (L.go (T := tt) tt_ok rfl rfl ?sd114 ?_); (try (case sd114 => (repeat' (first | exact trivial | with_reducible refine zI ?_ ?_ | (unfold fits; omega))))); try (refine L.nil ?_))
    exact fun a w hR => ⟨⟨k + 1, by omega⟩, by simp only; omega, hR.weak (by (repeat' (first | exact True.intro | exact Imp.refl _ | refine ⟨?_, ?_⟩))) (by (repeat (first | exact List.nil_sublist _ | refine List.Sublist.cons_cons _ ?_ | refine List.Sublist.cons _ ?_)))⟩
  · have h2 := of_dec' h2
    have hkl : k = l.length := by omega
    subst hkl
    have hw := wS_ok l l.length (by omega)
    ((repeat refine S.seq ?_); refine S.region (L.go (T := tt) tt_ok rfl rfl ?sd115 ?_); (try (case sd115 => (repeat' (first | exact trivial | with_reducible refine zI ?_ ?_ | rfl | exact zN rfl)))); try (refine L.nil ?_))
    refine L.callP rfl rfl rfl rfl rfl rfl rfl ⟨trivial, by (repeat' (first | exact trivial | with_reducible refine zI ?_ ?_))⟩ rfl (Imps.refl _) (part_p (wS l l.length) al 0 hw.may.fine) ?_
    rw [part_thawed 0 hw.may hma hw.thaw]
    (refine L.go (T := tt) tt_ok rfl rfl ?sd138 ?_; (try (case sd138 => (repeat' (first | exact trivial | with_reducible refine zI ?_ ?_)))); try (refine L.nil ?_))
    refine L.alloc (T := tt) 9 tt_ok rfl rfl rfl rfl rfl fun b9 => ?_
    (refine L.store (T := tt) tt_ok rfl rfl rfl rfl rfl rfl ?sd149 ?_; (try (case sd149 => (repeat' (first | exact trivial | with_reducible refine zI ?_ ?_ | rfl | exact zN rfl)))))
    (refine L.go (T := tt) tt_ok rfl rfl ?sd139 ?_; (try (case sd139 => (repeat' (first | exact trivial | with_reducible refine zI ?_ ?_)))); try (refine L.nil ?_))
    ((repeat refine S.seq ?_); refine S.region (L.go (T := tt) tt_ok rfl rfl ?sd116 ?_); (try (case sd116 => (repeat' (first | exact trivial | with_reducible refine zI ?_ ?_ | rfl | exact zN rfl)))); try (refine L.nil ?_))
    refine L.callP rfl rfl rfl rfl rfl rfl rfl ⟨trivial, by (repeat' (first | exact trivial | with_reducible refine zI ?_ ?_))⟩ rfl (Imps.refl _) (freeze_p (wS l l.length) hw.may.fine.small) ?_
    have hfz : setFrozen (wS l l.length) true = ({ wS l l.length with frozen := true }, 0) := by rw [setFrozen, (may_iff _).2 hw.may, hw.thaw]; rfl
    rw [hfz]
    (refine L.go (T := tt) tt_ok rfl rfl ?sd140 ?_; (try (case sd140 => (repeat' (first | exact trivial | with_reducible refine zI ?_ ?_)))); try (refine L.nil ?_))
    (refine L.store (T := tt) tt_ok rfl rfl rfl rfl rfl rfl ?sd150 ?_; (try (case sd150 => (repeat' (first | exact trivial | with_reducible refine zI ?_ ?_ | rfl | exact zN rfl)))))
    (refine L.go (T := tt) tt_ok rfl rfl ?sd141 ?_; (try (case sd141 => (repeat' (first | exact trivial | with_reducible refine zI ?_ ?_)))); try (refine L.nil ?_))
    ((repeat refine S.seq ?_); refine S.region (L.go (T := tt) tt_ok rfl rfl ?sd117 ?_); (try (case sd117 => (repeat' (first | exact trivial | exact zA | with_reducible refine zI ?_ ?_ | exact zB | exact zE)))); try (refine L.nil ?_))
    ((repeat refine S.seq ?_); refine S.cond rfl (fun h4 => ?_) (fun h4 => ?_) <;> (try first | refine S.skip ?_ | refine S.exit ?_))
    · skip
      ((repeat refine S.seq ?_); refine S.region (L.go (T := tt) tt_ok rfl rfl ?sd118 ?_); (try (case sd118 => (repeat' (first | exact trivial | with_reducible refine zI ?_ ?_)))); try (refine L.nil ?_))
      simp at h4
    obtain ⟨Sf, hSe⟩ : ∃ Sf : Shard, Sf = { wS l l.length with frozen := true } := ⟨_, rfl⟩
    have hS : May Sf := hSe ▸ may_frozen hw.may true
    have hSk := hS.fine
    have hSz : Sf.frozen = true := by rw [hSe]
    have hSh : Sf.held = [] := by rw [hSe]; exact hw.held
    have hall := hS.all
    have hmk := hS.few
    rw [← hSe]
    ((repeat refine S.seq ?_); refine S.region (L.go (T := tt) tt_ok rfl rfl ?sd119 ?_); (try (case sd119 => (repeat' (first | exact trivial | with_reducible refine zI ?_ ?_)))); try (refine L.nil ?_))
    refine slotAs 12 (.v (.int .i64 ((cntP al (Sf.ready.map Msg.key) 0 : Nat) : Int))) rfl (Imp.of_eq (by rw [cntP_zero ma hma]; rfl)) ?_
    refine slotAs 13 (.v (.int .i64 ((cntP al (Sf.marks.map Mark.key) 0 : Nat) : Int))) rfl (Imp.of_eq (by rw [cntP_zero ma hma]; rfl)) ?_
    ((repeat refine S.seq ?_); refine S.region (L.go (T := tt) tt_ok rfl rfl ?sd120 ?_); (try (case sd120 => (repeat' (first | exact trivial | with_reducible refine zI ?_ ?_)))); try (refine L.nil ?_))
    repeat refine S.seq ?_
    refine S.block (S.loop (ι := { k : Nat // k ≤ 16 }) (fun k => [(1, arcs al), (5, .ptr 5 b5 0), (12, .v (.int .i64 ((cntP al (Sf.ready.map Msg.key) k.1 : Nat) : Int))), (13, .v (.int .i64 ((cntP al (Sf.marks.map Mark.key) k.1 : Nat) : Int))), (14, .v (.int .i64 k.1))])
      (fun k => [(5, .blk b5 35 Sf.cells)]) (fun k => 16 - k.1) ?_ ?_)
    · exact fun a w h => ⟨⟨0, Nat.zero_le _⟩, h.weak (by (repeat' (first | exact True.intro | exact Imp.refl _ | refine ⟨?_, ?_⟩))) (by (repeat (first | exact List.nil_sublist _ | refine List.Sublist.cons_cons _ ?_ | refine List.Sublist.cons _ ?_)))⟩
    rintro ⟨k, hk⟩
    dsimp only
    ((repeat refine S.seq ?_); refine S.region (L.go (T := tt) tt_ok rfl rfl ?sd121 ?_); (try (case sd121 => (repeat' (first | exact trivial | with_reducible refine zI ?_ ?_)))); try (refine L.nil ?_))
    ((repeat refine S.seq ?_); refine S.cond rfl (fun h5 => ?_) (fun h5 => ?_) <;> (try first | refine S.skip ?_ | refine S.exit ?_))
    · have h5 := of_dec h5
      repeat refine S.seq ?_
      refine S.block ?_
      ((repeat refine S.seq ?_); refine S.region (L.go (T := tt) tt_ok rfl rfl ?sd122 ?_); (try (case sd122 => (repeat' (first | exact trivial | with_reducible refine zI ?_ ?_ | rfl | exact zN rfl)))); try (refine L.nil ?_))
      refine L.callP rfl rfl rfl rfl rfl rfl rfl ⟨trivial, by (repeat' (first | exact trivial | with_reducible refine zI ?_ ?_))⟩ rfl (Imps.refl _) (part_p Sf al (k : Int) hSk) ?_
      rw [part_frozen k hS hma hSz hSh]
      (refine L.go (T := tt) tt_ok rfl rfl ?sd142 ?_; (try (case sd142 => (repeat' (first | exact trivial | with_reducible refine zI ?_ ?_)))); try (refine L.nil ?_))
      refine L.alloc (T := tt) 15 tt_ok rfl rfl rfl rfl rfl fun b15 => ?_
      (refine L.store (T := tt) tt_ok rfl rfl rfl rfl rfl rfl ?sd151 ?_; (try (case sd151 => (repeat' (first | exact trivial | with_reducible refine zI ?_ ?_ | rfl | exact zN rfl)))))
      (refine L.go (T := tt) tt_ok rfl rfl ?sd143 ?_; (try (case sd143 => (repeat' (first | exact trivial | with_reducible refine zI ?_ ?_)))); try (refine L.nil ?_))
      ((repeat refine S.seq ?_); refine S.region (L.go (T := tt) tt_ok rfl rfl ?sd123 ?_); (try (case sd123 => (repeat' (first | exact trivial | exact zA | with_reducible refine zI ?_ ?_ | exact zB | exact zD | rfl | exact zN rfl | (simp; done) | intro _)))); try (refine L.nil ?_))
      refine L.callG rfl rfl rfl rfl rfl rfl rfl (fun _ => ⟨trivial, by (repeat' (first | exact trivial | with_reducible refine zI ?_ ?_ | omega))⟩) rfl (Imps.refl _) (fun _ => (mayR_p (partS Sf al (k : Int)) (part_may al k hS hSh).fine)) ?_
      (refine L.go (T := tt) tt_ok rfl rfl ?sd144 ?_; (try (case sd144 => (repeat' (first | exact trivial | with_reducible refine zI ?_ ?_ | exact zB | exact zC)))); try (refine L.nil ?_))
      ((repeat refine S.seq ?_); refine S.cond rfl (fun h6 => ?_) (fun h6 => ?_) <;> (try first | refine S.skip ?_ | refine S.exit ?_))
      · skip
        ((repeat refine S.seq ?_); refine S.region (L.go (T := tt) tt_ok rfl rfl ?sd124 ?_); (try (case sd124 => (repeat' (first | exact trivial | with_reducible refine zI ?_ ?_)))); try (refine L.nil ?_))
        exfalso
        rw [(may_iff _).2 (part_may al k hS hSh)] at h6
        simp [partS] at h6
      have hfew1 : (partS Sf al (k : Int)).ready.length ≤ Sf.ready.length := List.length_filter_le _ _
      have hfew2 : (partS Sf al (k : Int)).marks.length ≤ Sf.marks.length := List.length_filter_le _ _
      have hc1 := cntP_le al (Sf.ready.map Msg.key) k
      have hc2 := cntP_le al (Sf.marks.map Mark.key) k
      rw [List.length_map] at hc1 hc2
      ((repeat refine S.seq ?_); refine S.region (L.go (T := tt) tt_ok rfl rfl ?sd125 ?_); (try (case sd125 => (repeat' (first | exact trivial | with_reducible refine zI ?_ ?_)))); try (refine L.nil ?_))
      ((repeat refine S.seq ?_); refine S.region (L.go (T := tt) tt_ok rfl rfl ?sd126 ?_); (try (case sd126 => (repeat' (first | exact trivial | with_reducible refine zI ?_ ?_)))); try (refine L.nil ?_))
      repeat refine S.seq ?_
      refine S.block (S.loop (ι := { j : Nat // j ≤ Sf.ready.length }) (fun j => [(1, arcs al), (5, .ptr 5 b5 0), (12, .v (.int .i64 ((cntP al (Sf.ready.map Msg.key) k : Nat) : Int))), (13, .v (.int .i64 ((cntP al (Sf.marks.map Mark.key) k : Nat) : Int))), (14, .v (.int .i64 k)), (15, .ptr 15 b15 0), (17, .v (.int .i64 ((keepM al (k : Int) Sf.ready j.1).length : Int))), (18, .v (.int .i64 j.1))])
        (fun j => [(15, .blk b15 35 (partS Sf al (k : Int)).cells), (5, .blk b5 35 Sf.cells)]) (fun j => Sf.ready.length - j.1) ?_ ?_)
      · exact fun a w h => ⟨⟨0, Nat.zero_le _⟩, h.weak (by (repeat' (first | exact True.intro | exact Imp.refl _ | refine ⟨?_, ?_⟩))) (by (repeat (first | exact List.nil_sublist _ | refine List.Sublist.cons_cons _ ?_ | refine List.Sublist.cons _ ?_)))⟩
      rintro ⟨j, hj⟩
      dsimp only
      ((repeat refine S.seq ?_); refine S.region (L.go (T := tt) tt_ok rfl rfl ?sd127 ?_); (try (case sd127 => (repeat' (first | exact trivial | with_reducible refine zI ?_ ?_ | rfl)))); try (refine L.nil ?_))
      ((repeat refine S.seq ?_); refine S.cond rfl (fun h7 => ?_) (fun h7 => ?_) <;> (try first | refine S.skip ?_ | refine S.exit ?_))
      · have h7 := of_dec h7
        have hjn : j < Sf.ready.length := by omega
        have hkl := keepM_le al (k : Int) Sf.ready j
        repeat refine S.seq ?_
        refine S.block ?_
        ((repeat refine S.seq ?_); refine S.region (L.go (T := tt) tt_ok rfl rfl ?sd128 ?_); (try (case sd128 => (repeat' (first | exact trivial | with_reducible refine zI ?_ ?_ | rfl | omega)))); try (refine L.nil ?_))
        refine L.callP rfl rfl rfl rfl rfl rfl rfl ⟨trivial, by (repeat' (first | exact trivial | with_reducible refine zI ?_ ?_))⟩ rfl (Imps.refl _) (pof_p (Sf.ready.getD j default).key (hSk.keys _ (by rw [getD_get (by omega)]; exact List.getElem_mem _))) ?_
        refine L.callP rfl rfl rfl rfl rfl rfl rfl ⟨trivial, by (repeat' (first | exact trivial | with_reducible refine zI ?_ ?_))⟩ rfl (Imps.refl _) (owner_p al (ofP (Sf.ready.getD j default).key)) ?_
        (refine L.go (T := tt) tt_ok rfl rfl ?sd145 ?_; (try (case sd145 => (repeat' (first | exact trivial | with_reducible refine zI ?_ ?_)))); try (refine L.nil ?_))
        refine S.cut (ι := Unit) (fun _ => [(1, arcs al), (5, .ptr 5 b5 0), (12, .v (.int .i64 ((cntP al (Sf.ready.map Msg.key) k : Nat) : Int))), (13, .v (.int .i64 ((cntP al (Sf.marks.map Mark.key) k : Nat) : Int))), (14, .v (.int .i64 k)), (15, .ptr 15 b15 0), (17, .v (.int .i64 ((keepM al (k : Int) Sf.ready (j + 1)).length : Int))), (18, .v (.int .i64 j))]) (fun _ => [(15, .blk b15 35 (partS Sf al (k : Int)).cells), (5, .blk b5 35 Sf.cells)]) ?_ ?_
        · ((repeat refine S.seq ?_); refine S.cond rfl (fun h8 => ?_) (fun h8 => ?_) <;> (try first | refine S.skip ?_ | refine S.exit ?_))
          · have hq : partQ al (k : Int) (Sf.ready.getD j default).key = false := by simpa [partQ] using h8
            obtain ⟨hat1, hat2, hat3⟩ := keep_at al (k : Int) Sf hjn hq
            repeat refine S.seq ?_
            refine S.draw [(2, [15]), (7, [15]), (12, [5])] mixed ?_
            (refine H.ts (T := tt) [0, 1, 2, 3, 4, 5, 6, 7, 8, 9, 10, 11, 12, 13, 14, 15, 16, 17] tt_ok (by kernel_rfl) (by kernel_rfl) (by kernel_rfl) (by intro ch a a' w h; obtain ⟨_, _, _, _, _, h, _⟩ := h; cases h) rfl ?sd159 ?_; (try (case sd159 => (repeat' (first | exact trivial | exact zA | with_reducible refine zI ?_ ?_ | exact zB | exact zD | rfl | omega | (simp; done) | (simp; omega) | intro _)))))
            refine H.done (by kernel_rfl) ?_
            ((repeat refine S.seq ?_); refine S.cond rfl (fun h9 => ?_) (fun h9 => ?_) <;> (try first | refine S.skip ?_ | refine S.exit ?_))
            · skip
              ((repeat refine S.seq ?_); refine S.region (L.go (T := tt) tt_ok rfl rfl ?sd129 ?_); (try (case sd129 => (repeat' (first | exact trivial | with_reducible refine zI ?_ ?_)))); try (refine L.nil ?_))
              exfalso
              simp only [Int.toNat_natCast] at h9
              rw [hat2] at h9
              simp at h9
              omega
            ((repeat refine S.seq ?_); refine S.region (L.go (T := tt) tt_ok rfl rfl ?sd130 ?_); (try (case sd130 => (repeat' (first | exact trivial | with_reducible refine zI ?_ ?_ | (unfold fits; omega))))); try (refine L.nil ?_))
            refine slotAs 17 (.v (.int .i64 ((keepM al (k : Int) Sf.ready (j + 1)).length : Int))) rfl (Imp.of_eq (by rw [hat3]; rfl)) ?_
            exact fun a w hR => ⟨(), hR.weakP (by (repeat' (first | exact True.intro | exact Imp.refl _ | refine ⟨?_, ?_⟩))) (by (repeat (first | exact Sub.refl _ | refine Sub.pick (by first | exact p0 | exact pS p0 | exact pS (pS p0) | exact pS (pS (pS p0)) | exact pS (pS (pS (pS p0))) | exact pS (pS (pS (pS (pS p0))))) ?_)))⟩
          · skip
            have hq : partQ al (k : Int) (Sf.ready.getD j default).key = true := by simpa [partQ] using h8
            have hks := keepM_succ (l := al) (k := (k : Int)) hjn
            rw [if_pos hq, List.append_nil] at hks
            rw [hks]
            exact fun a w hR => ⟨(), hR.weakP (by (repeat' (first | exact True.intro | exact Imp.refl _ | refine ⟨?_, ?_⟩))) (by (repeat (first | exact Sub.refl _ | refine Sub.pick (by first | exact p0 | exact pS p0 | exact pS (pS p0) | exact pS (pS (pS p0)) | exact pS (pS (pS (pS p0))) | exact pS (pS (pS (pS (pS p0))))) ?_)))⟩
        rintro ⟨⟩
        ((repeat refine S.seq ?_); refine S.region (L.go (T := tt) tt_ok rfl rfl ?sd131 ?_); (try (case sd131 => (repeat' (first | exact trivial | with_reducible refine zI ?_ ?_ | (unfold fits; omega))))); try (refine L.nil ?_))
        exact fun a w hR => ⟨⟨j + 1, by omega⟩, by simp only; omega, hR.weak (by (repeat' (first | exact True.intro | exact Imp.refl _ | refine ⟨?_, ?_⟩))) (by (repeat (first | exact List.nil_sublist _ | refine List.Sublist.cons_cons _ ?_ | refine List.Sublist.cons _ ?_)))⟩
      · have h7 := of_dec' h7
        have hjl : j = Sf.ready.length := by omega
        subst hjl
        have hka := keep_all al (k : Int) Sf
        ((repeat refine S.seq ?_); refine S.region (L.go (T := tt) tt_ok rfl rfl ?sd132 ?_); (try (case sd132 => (repeat' (first | exact trivial | with_reducible refine zI ?_ ?_ | rfl)))); try (refine L.nil ?_))
        ((repeat refine S.seq ?_); refine S.cond rfl (fun h10 => ?_) (fun h10 => ?_) <;> (try first | refine S.skip ?_ | refine S.exit ?_))
        · skip
          ((repeat refine S.seq ?_); refine S.region (L.go (T := tt) tt_ok rfl rfl ?sd133 ?_); (try (case sd133 => (repeat' (first | exact trivial | with_reducible refine zI ?_ ?_)))); try (refine L.nil ?_))
          exfalso
          rw [hka] at h10
          simp at h10
        repeat refine S.seq ?_
        refine S.draw [(2, [15]), (7, [15])] mixed ?_
        (refine H.ts (T := tt) [0, 1, 2, 3, 4, 5, 6, 7, 8, 9, 10, 11] tt_ok (by kernel_rfl) (by kernel_rfl) (by kernel_rfl) (by intro ch a a' w h; obtain ⟨_, _, _, _, _, h, _⟩ := h; cases h) rfl ?sd160 ?_; (try (case sd160 => (repeat' (first | exact trivial | with_reducible refine zI ?_ ?_ | rfl | (unfold fits; omega))))))
        refine H.done (by kernel_rfl) ?_
        refine slotAs 12 (.v (.int .i64 ((cntP al (Sf.ready.map Msg.key) (k + 1) : Nat) : Int))) rfl (Imp.of_eq (by rw [cnt_ready]; rfl)) ?_
        refine slotAs 13 (.v (.int .i64 ((cntP al (Sf.marks.map Mark.key) (k + 1) : Nat) : Int))) rfl (Imp.of_eq (by rw [cnt_marks]; rfl)) ?_
        ((repeat refine S.seq ?_); refine S.region (L.go (T := tt) tt_ok rfl rfl ?sd134 ?_); (try (case sd134 => (repeat' (first | exact trivial | with_reducible refine zI ?_ ?_ | (unfold fits; omega))))); try (refine L.nil ?_))
        exact fun a w hR => ⟨⟨k + 1, by omega⟩, by simp only; omega, hR.weak (by (repeat' (first | exact True.intro | exact Imp.refl _ | refine ⟨?_, ?_⟩))) (by (repeat (first | exact List.nil_sublist _ | refine List.Sublist.cons_cons _ ?_ | refine List.Sublist.cons _ ?_)))⟩
    · have h5 := of_dec' h5
      have hk16 : k = 16 := by omega
      subst hk16
      repeat refine S.seq ?_
      refine S.region ?_
      refine L.callP rfl rfl rfl rfl rfl rfl rfl ⟨trivial, by (repeat' (first | exact trivial))⟩ rfl (Imps.refl _) told12_p ?_
      (refine L.go (T := tt) tt_ok rfl rfl ?sd146 ?_; (try (case sd146 => (repeat' (first | exact trivial | exact zA | with_reducible refine zI ?_ ?_ | exact zB | exact zC | exact zD | (simp; done))))); try (refine L.nil ?_))
      (((repeat refine S.seq ?_); refine S.ret ?_); refine E.retP (T := tt) tt_ok rfl rfl (by (repeat' (first | exact trivial | with_reducible refine zI ?_ ?_))) ?_)
      exact Imp.of_eq (by rw [cntP_all ma hma, cntP_all ma hma, List.length_map, List.length_map]; simp; rfl)

end Go.Proofs.Ytgnklbdbglnmaaa
