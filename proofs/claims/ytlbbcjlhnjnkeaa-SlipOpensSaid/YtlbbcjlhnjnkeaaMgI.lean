/- Texts of this proof, laid together: RefC, RefD, RefE, RefF, Ops12. -/
import Derived.Test.YtlbbcjlhnjnkeaaMgH
/- The reference: settling, putting back. -/
namespace Go.Proofs.Ytlbbcjlhnjnkeaa
set_option linter.unusedVariables false
set_option linter.unusedSimpArgs false
set_option maxHeartbeats 8000000
open Go.RowKit
set_option maxRecDepth 4000

theorem imp_cut {α : Type} [Inhabited α] (f : α → List AV) (l : List α) (k sz : Nat) (G : Nat → List AV) {N : Nat} (hk : k < l.length) (hN : N = l.length - 1) (hG : ∀ i, i < N → G i = if i < k then gOf f l i else gOf f l (i + 1)) : Imp (.lst sz N G) (.lst sz (l.eraseIdx k).length (gOf f (l.eraseIdx k))) :=
  Imp.lst (by rw [hN, List.length_eraseIdx, if_pos hk]) fun i hi => by rw [hG i hi, ← dropG_eq]; rfl

def outR (s : Shard) (tag : Int) : Shard × Msg × Bool := if heldAt s.held tag < 0 then (s, default, false) else ({ s with held := s.held.eraseIdx (heldAt s.held tag).toNat }, (s.held.getD (heldAt s.held tag).toNat default).m, true)

theorem rout_p (s : Shard) (tag : Int) (hs : s.small) : PFn Try.prog 63 [s.av, .v (.int .i64 tag)] (.tup [(outR s tag).1.av, (outR s tag).2.1.av, .v (.bool (outR s tag).2.2)]) := by
  have ⟨hs1, hs2, hs3⟩ := hs
  refine FnC.intro Try.func63 rfl Try.ntmps63 rfl ?_; intro off w0
  repeat refine S.seq ?_
  refine S.region ?_
  refine L.box 2 rfl rfl rfl rfl rfl trivial rfl fun b2 => ?_
  refine L.alloc (T := tt) 4 tt_ok rfl rfl rfl rfl rfl fun b4 => ?_
  refine L.alloc (T := tt) 5 tt_ok rfl rfl rfl rfl rfl fun b5 => ?_
  (refine L.go (T := tt) tt_ok rfl rfl ?sd508 ?_; (try (case sd508 => (repeat' (first | exact trivial | with_reducible refine zI ?_ ?_)))); try (refine L.nil ?_))
  ((repeat refine S.seq ?_); refine S.region (L.go (T := tt) tt_ok rfl rfl ?sd502 ?_); (try (case sd502 => (repeat' (first | exact trivial | with_reducible refine zI ?_ ?_)))); try (refine L.nil ?_))
  repeat refine S.seq ?_
  refine S.block (S.loop (ι := { k : Nat // k ≤ s.held.length ∧ ∀ j, j < k → tagP s.held tag j = false }) (fun k => [(1, .v (.int .i64 tag)), (2, .ptr 2 b2 0), (4, .ptr 4 b4 0), (5, .ptr 5 b5 0), (7, .v (.int .i64 k.1))])
    (fun k => [(5, .blk b5 41 (Msg.cells default)), (4, .blk b4 29 [.v (.bool false), .v (.int .i64 0), .v (.slice none 0 0), .v (.slice none 0 0), .v (.slice none 0 0)]), (2, .blk b2 29 s.cells)]) (fun k => s.held.length - k.1) ?_ ?_)
  · refine fun a w h => ⟨⟨0, Nat.zero_le _, ?_⟩, h.weak (by (repeat' (first | exact True.intro | exact Imp.refl _ | refine ⟨?_, ?_⟩))) (by (repeat (first | exact List.nil_sublist _ | refine List.Sublist.cons_cons _ ?_ | refine List.Sublist.cons _ ?_)))⟩
    exact fun j hj => absurd hj (by omega)
    -- HOLE 1
  rintro ⟨k, hk, ik⟩
  dsimp only
  ((repeat refine S.seq ?_); refine S.region (L.go (T := tt) tt_ok rfl rfl ?sd503 ?_); (try (case sd503 => (repeat' (first | exact trivial | with_reducible refine zI ?_ ?_ | rfl)))); try (refine L.nil ?_))
  ((repeat refine S.seq ?_); refine S.cond rfl (fun h1 => ?_) (fun h1 => ?_) <;> (try first | refine S.skip ?_ | refine S.exit ?_))
  · have h1 := of_dec h1
    repeat refine S.seq ?_
    refine S.block ?_
    ((repeat refine S.seq ?_); refine S.region (L.go (T := tt) tt_ok rfl rfl ?sd504 ?_); (try (case sd504 => (repeat' (first | exact trivial | with_reducible refine zI ?_ ?_ | rfl | omega)))); try (refine L.nil ?_))
    ((repeat refine S.seq ?_); refine S.cond rfl (fun h2 => ?_) (fun h2 => ?_) <;> (try first | refine S.skip ?_ | refine S.exit ?_))
    · skip
      ((repeat refine S.seq ?_); refine S.region (L.go (T := tt) tt_ok rfl rfl ?sd505 ?_); (try (case sd505 => (repeat' (first | exact trivial | with_reducible refine zI ?_ ?_ | rfl | exact zN rfl)))); try (refine L.nil ?_))
      refine L.alloc (T := tt) 8 tt_ok rfl rfl rfl rfl rfl fun b8 => ?_
      (refine L.store (T := tt) tt_ok rfl rfl rfl rfl rfl rfl ?sd510 ?_; (try (case sd510 => (repeat' (first | exact trivial | with_reducible refine zI ?_ ?_ | rfl | exact zN rfl)))))
      refine L.nil ?_
      repeat refine S.seq ?_
      refine S.draw [(2, [2]), (7, [2])] mixed ?_
      (refine H.ts (T := tt) [1, 2, 3, 4, 6, 7, 8, 9, 10] tt_ok (by kernel_rfl) (by kernel_rfl) (by kernel_rfl) (by intro ch a a' w h; obtain ⟨_, _, _, _, _, h, _⟩ := h; cases h) rfl ?sd513 ?_; (try (case sd513 => (repeat' (first | exact trivial | with_reducible refine zI ?_ ?_ | rfl | omega | (unfold fits; omega))))))
      refine H.o1 0 rfl (by kernel_rfl) (by kernel_rfl) (O.buildSlice (T := tt) 25 tt_ok rfl rfl rfl rfl rfl rfl (by decide) (by decide) rfl rfl (by (repeat' (first | exact trivial | with_reducible refine zI ?_ ?_)))) (.inr rfl) rfl fun x25 => ?_
      refine H.o1 5 rfl (by kernel_rfl) (by kernel_rfl) (O.append (T := tt) tt_ok rfl rfl rfl rfl rfl rfl rfl rfl rfl rfl (by (repeat' (first | exact trivial | with_reducible refine zI ?_ ?_ | rfl))) ⟨rfl, by decide, by decide⟩ (by simp; omega)) (.inl (by kernel_rfl)) (by kernel_rfl) fun y30 => ?_
      refine H.o1 11 rfl (by kernel_rfl) (by kernel_rfl) (O.append (T := tt) tt_ok rfl rfl rfl rfl rfl rfl rfl rfl rfl rfl (by (repeat' (first | exact trivial | with_reducible refine zI ?_ ?_ | rfl))) ⟨rfl, by decide, by decide⟩ (by simp; omega)) (.inl (by kernel_rfl)) (by kernel_rfl) fun y36 => ?_
      (refine H.ts (T := tt) [12] tt_ok (by kernel_rfl) (by kernel_rfl) (by kernel_rfl) (by intro ch a a' w h; obtain ⟨_, _, _, _, _, h, _⟩ := h; cases h) rfl ?sd514 ?_; (try (case sd514 => (repeat' (first | exact trivial | with_reducible refine zI ?_ ?_)))))
      (refine H.store (T := tt) 13 rfl (by kernel_rfl) (by kernel_rfl) tt_ok rfl rfl rfl rfl rfl rfl ?sd517 rfl (by kernel_rfl) ?_; (try (case sd517 => (repeat' (first | exact trivial | with_reducible refine zI ?_ ?_ | rfl | exact zN rfl)))))
      refine H.done (by kernel_rfl) ?_
      repeat refine S.seq ?_
      refine S.draw [(0, [8]), (2, [2])] mixed ?_
      (refine H.ts (T := tt) [0, 1, 2, 3, 4, 5, 6] tt_ok (by kernel_rfl) (by kernel_rfl) (by kernel_rfl) (by intro ch a a' w h; obtain ⟨_, _, _, _, _, h, _⟩ := h; cases h) rfl ?sd515 ?_; (try (case sd515 => (repeat' (first | exact trivial | with_reducible refine zI ?_ ?_ | rfl | exact zN rfl | omega)))))
      (refine H.store (T := tt) 7 rfl (by kernel_rfl) (by kernel_rfl) tt_ok rfl rfl rfl rfl rfl rfl ?sd518 rfl (by kernel_rfl) ?_; (try (case sd518 => (repeat' (first | exact trivial | with_reducible refine zI ?_ ?_ | rfl | exact zN rfl)))))
      (refine H.store (T := tt) 8 rfl (by kernel_rfl) (by kernel_rfl) tt_ok rfl rfl rfl rfl rfl rfl ?sd519 rfl (by kernel_rfl) ?_; (try (case sd519 => (repeat' (first | exact trivial | with_reducible refine zI ?_ ?_ | rfl | exact zN rfl)))))
      (refine H.ts (T := tt) [9] tt_ok (by kernel_rfl) (by kernel_rfl) (by kernel_rfl) (by intro ch a a' w h; obtain ⟨_, _, _, _, _, h, _⟩ := h; cases h) rfl ?sd516 ?_; (try (case sd516 => (repeat' (first | exact trivial | with_reducible refine zI ?_ ?_)))))
      refine H.done (by kernel_rfl) ?_
      ((repeat refine S.seq ?_); refine S.ret ?_)
      refine freezeCell 4 3 25 rfl rfl rfl rfl ?_
      refine E.retP (T := tt) tt_ok rfl rfl (by (repeat' (first | exact trivial | with_reducible refine zI ?_ ?_ | rfl | exact zN rfl))) ?_
      have e : heldAt s.held tag = k := pidx_some (by omega) h2 ik
      rw [outR, e, if_neg (by omega)]
      refine Imp.tup ⟨Imp.agg ⟨Imp.refl _, Imp.refl _, Imp.refl _, imp_cut _ _ _ _ _ (by omega) (by simp; omega) fun i hi => ?_, Imp.refl _, trivial⟩, Imp.refl _, Imp.refl _, trivial⟩
      simp only [joinG, Nat.zero_add, Int.toNat_natCast, Nat.not_lt_zero, if_false, Nat.sub_zero]
      split
      · rfl
      · congr 1
        omega
      -- HOLE 2
    -- HOLE 3
    ((repeat refine S.seq ?_); refine S.region (L.go (T := tt) tt_ok rfl rfl ?sd506 ?_); (try (case sd506 => (repeat' (first | exact trivial | with_reducible refine zI ?_ ?_ | (unfold fits; omega))))); try (refine L.nil ?_))
    refine fun a w hR => ⟨⟨k + 1, by omega, ?_⟩, by simp only; omega, hR.weak (by (repeat' (first | exact True.intro | exact Imp.refl _ | refine ⟨?_, ?_⟩))) (by (repeat (first | exact List.nil_sublist _ | refine List.Sublist.cons_cons _ ?_ | refine List.Sublist.cons _ ?_)))⟩
    exact upto_succ ik h2
    -- HOLE 4
  · have h1 := of_dec' h1
    -- HOLE 5
    ((repeat refine S.seq ?_); refine S.region (L.go (T := tt) tt_ok rfl rfl ?sd507 ?_); (try (case sd507 => (repeat' (first | exact trivial | with_reducible refine zI ?_ ?_ | rfl | exact zN rfl)))); try (refine L.nil ?_))
    (refine L.store (T := tt) tt_ok rfl rfl rfl rfl rfl rfl ?sd511 ?_; (try (case sd511 => (repeat' (first | exact trivial | with_reducible refine zI ?_ ?_ | rfl | exact zN rfl)))))
    (refine L.store (T := tt) tt_ok rfl rfl rfl rfl rfl rfl ?sd512 ?_; (try (case sd512 => (repeat' (first | exact trivial | with_reducible refine zI ?_ ?_ | rfl | exact zN rfl)))))
    (refine L.go (T := tt) tt_ok rfl rfl ?sd509 ?_; (try (case sd509 => (repeat' (first | exact trivial | with_reducible refine zI ?_ ?_)))); try (refine L.nil ?_))
    (((repeat refine S.seq ?_); refine S.ret ?_); refine E.retP (T := tt) tt_ok rfl rfl (by (repeat' (first | exact trivial | with_reducible refine zI ?_ ?_ | rfl | exact zN rfl))) (Imp.of_eq ?_))
    have e : heldAt s.held tag = -1 := pidx_none fun j hj => ik j (by omega)
    rw [outR, e]
    rfl
    -- HOLE 6


end Go.Proofs.Ytlbbcjlhnjnkeaa

/- The reference: the calls. -/
namespace Go.Proofs.Ytlbbcjlhnjnkeaa
set_option linter.unusedVariables false
set_option linter.unusedSimpArgs false
set_option maxHeartbeats 8000000
open Go.RowKit
set_option maxRecDepth 4000

theorem ack_eq (s : Shard) (tag : Int) : ackS s tag = if !mayShard s then (s, 1) else if heldAt s.held tag < 0 then (s, 3) else ((outR s tag).1, 0) := by
  unfold ackS settleE outR
  cases mayShard s
  · rfl
  · by_cases h : heldAt s.held tag < 0 <;> simp [h]
theorem nack_eq (s : Shard) (tag : Int) : nackS s tag = if !mayShard s then (s, 1) else if heldAt s.held tag < 0 then (s, 3) else ({ (outR s tag).1 with ready := (outR s tag).2.1.back :: s.ready }, 0) := by
  unfold nackS settleE outR
  cases mayShard s
  · rfl
  · by_cases h : heldAt s.held tag < 0 <;> simp [h]
theorem out_is (s : Shard) (tag : Int) : (outR s tag).2.2 = !decide (heldAt s.held tag < 0) := by
  unfold outR; split <;> simp_all

theorem rack_p (s : Shard) (tag : Int) (hs : s.small) : PFn Try.prog 40 [s.av, .v (.int .i64 tag)] (.tup [(ackS s tag).1.av, .v (.int .i64 (ackS s tag).2)]) := by
  refine FnC.intro Try.func40 rfl Try.ntmps40 rfl ?_; intro off w0
  repeat refine S.seq ?_
  refine S.region ?_
  refine L.box 2 rfl rfl rfl rfl rfl trivial rfl fun b2 => ?_
  refine L.alloc (T := tt) 4 tt_ok rfl rfl rfl rfl rfl fun b4 => ?_
  (refine L.go (T := tt) tt_ok rfl rfl ?sd534 ?_; (try (case sd534 => (repeat' (first | exact trivial | with_reducible refine zI ?_ ?_)))); try (refine L.nil ?_))
  ((repeat refine S.seq ?_); refine S.region (L.go (T := tt) tt_ok rfl rfl ?sd520 ?_); (try (case sd520 => (repeat' (first | exact trivial | with_reducible refine zI ?_ ?_ | rfl | exact zN rfl)))); try (refine L.nil ?_))
  refine L.callP rfl rfl rfl rfl rfl rfl rfl ⟨trivial, by (repeat' (first | exact trivial | with_reducible refine zI ?_ ?_))⟩ rfl (Imps.refl _) (rmay_p _ (by assumption)) ?_
  (refine L.go (T := tt) tt_ok rfl rfl ?sd535 ?_; (try (case sd535 => (repeat' (first | exact trivial | with_reducible refine zI ?_ ?_)))); try (refine L.nil ?_))
  ((repeat refine S.seq ?_); refine S.cond rfl (fun h1 => ?_) (fun h1 => ?_) <;> (try first | refine S.skip ?_ | refine S.exit ?_))
  · skip
    ((repeat refine S.seq ?_); refine S.region (L.go (T := tt) tt_ok rfl rfl ?sd521 ?_); (try (case sd521 => (repeat' (first | exact trivial | with_reducible refine zI ?_ ?_ | rfl | exact zN rfl)))); try (refine L.nil ?_))
    (refine L.store (T := tt) tt_ok rfl rfl rfl rfl rfl rfl ?sd550 ?_; (try (case sd550 => (repeat' (first | exact trivial | with_reducible refine zI ?_ ?_ | rfl | exact zN rfl)))))
    (refine L.go (T := tt) tt_ok rfl rfl ?sd536 ?_; (try (case sd536 => (repeat' (first | exact trivial | with_reducible refine zI ?_ ?_)))); try (refine L.nil ?_))
    (((repeat refine S.seq ?_); refine S.ret ?_); refine E.retP (T := tt) tt_ok rfl rfl (by (repeat' (first | exact trivial | with_reducible refine zI ?_ ?_ | rfl | exact zN rfl))) (Imp.of_eq ?_))
    rw [ack_eq, if_pos h1]
    rfl
    -- HOLE 1
  -- HOLE 2
  ((repeat refine S.seq ?_); refine S.region (L.go (T := tt) tt_ok rfl rfl ?sd522 ?_); (try (case sd522 => (repeat' (first | exact trivial | with_reducible refine zI ?_ ?_ | rfl | exact zN rfl)))); try (refine L.nil ?_))
  refine L.callP rfl rfl rfl rfl rfl rfl rfl ⟨trivial, by (repeat' (first | exact trivial | with_reducible refine zI ?_ ?_))⟩ rfl (Imps.refl _) (rout_p _ _ (by assumption)) ?_
  (refine L.go (T := tt) tt_ok rfl rfl ?sd537 ?_; (try (case sd537 => (repeat' (first | exact trivial | with_reducible refine zI ?_ ?_)))); try (refine L.nil ?_))
  refine L.alloc (T := tt) 6 tt_ok rfl rfl rfl rfl rfl fun b6 => ?_
  refine L.alloc (T := tt) 7 tt_ok rfl rfl rfl rfl rfl fun b7 => ?_
  (refine L.store (T := tt) tt_ok rfl rfl rfl rfl rfl rfl ?sd551 ?_; (try (case sd551 => (repeat' (first | exact trivial | with_reducible refine zI ?_ ?_ | rfl | exact zN rfl)))))
  (refine L.store (T := tt) tt_ok rfl rfl rfl rfl rfl rfl ?sd552 ?_; (try (case sd552 => (repeat' (first | exact trivial | with_reducible refine zI ?_ ?_ | rfl | exact zN rfl)))))
  (refine L.go (T := tt) tt_ok rfl rfl ?sd538 ?_; (try (case sd538 => (repeat' (first | exact trivial | with_reducible refine zI ?_ ?_)))); try (refine L.nil ?_))
  ((repeat refine S.seq ?_); refine S.region (L.go (T := tt) tt_ok rfl rfl ?sd523 ?_); (try (case sd523 => (repeat' (first | exact trivial | with_reducible refine zI ?_ ?_)))); try (refine L.nil ?_))
  ((repeat refine S.seq ?_); refine S.cond rfl (fun h2 => ?_) (fun h2 => ?_) <;> (try first | refine S.skip ?_ | refine S.exit ?_))
  · skip
    ((repeat refine S.seq ?_); refine S.region (L.go (T := tt) tt_ok rfl rfl ?sd524 ?_); (try (case sd524 => (repeat' (first | exact trivial | with_reducible refine zI ?_ ?_ | rfl | exact zN rfl)))); try (refine L.nil ?_))
    (refine L.store (T := tt) tt_ok rfl rfl rfl rfl rfl rfl ?sd553 ?_; (try (case sd553 => (repeat' (first | exact trivial | with_reducible refine zI ?_ ?_ | rfl | exact zN rfl)))))
    (refine L.go (T := tt) tt_ok rfl rfl ?sd539 ?_; (try (case sd539 => (repeat' (first | exact trivial | with_reducible refine zI ?_ ?_)))); try (refine L.nil ?_))
    (((repeat refine S.seq ?_); refine S.ret ?_); refine E.retP (T := tt) tt_ok rfl rfl (by (repeat' (first | exact trivial | with_reducible refine zI ?_ ?_ | rfl | exact zN rfl))) (Imp.of_eq ?_))
    have hn : heldAt s.held tag < 0 := by rw [out_is] at h2; simpa using h2
    rw [ack_eq, if_neg (by simp_all), if_pos hn]
    rfl
    -- HOLE 3
  -- HOLE 4
  ((repeat refine S.seq ?_); refine S.region (L.go (T := tt) tt_ok rfl rfl ?sd525 ?_); (try (case sd525 => (repeat' (first | exact trivial | with_reducible refine zI ?_ ?_ | rfl | exact zN rfl)))); try (refine L.nil ?_))
  (refine L.store (T := tt) tt_ok rfl rfl rfl rfl rfl rfl ?sd554 ?_; (try (case sd554 => (repeat' (first | exact trivial | with_reducible refine zI ?_ ?_ | rfl | exact zN rfl)))))
  (refine L.go (T := tt) tt_ok rfl rfl ?sd540 ?_; (try (case sd540 => (repeat' (first | exact trivial | with_reducible refine zI ?_ ?_)))); try (refine L.nil ?_))
  (((repeat refine S.seq ?_); refine S.ret ?_); refine E.retP (T := tt) tt_ok rfl rfl (by (repeat' (first | exact trivial | with_reducible refine zI ?_ ?_ | rfl | exact zN rfl))) (Imp.of_eq ?_))
  have hn : ¬ heldAt s.held tag < 0 := by rw [out_is] at h2; simpa using h2
  rw [ack_eq, if_neg (by simp_all), if_neg hn]
  rfl
  -- HOLE 5

theorem rnack_p (s : Shard) (tag : Int) (hs : s.small) : PFn Try.prog 41 [s.av, .v (.int .i64 tag)] (.tup [(nackS s tag).1.av, .v (.int .i64 (nackS s tag).2)]) := by
  have ⟨hs1, hs2, hs3⟩ := hs
  refine FnC.intro Try.func41 rfl Try.ntmps41 rfl ?_; intro off w0
  repeat refine S.seq ?_
  refine S.region ?_
  refine L.box 2 rfl rfl rfl rfl rfl trivial rfl fun b2 => ?_
  refine L.alloc (T := tt) 4 tt_ok rfl rfl rfl rfl rfl fun b4 => ?_
  (refine L.go (T := tt) tt_ok rfl rfl ?sd541 ?_; (try (case sd541 => (repeat' (first | exact trivial | with_reducible refine zI ?_ ?_)))); try (refine L.nil ?_))
  ((repeat refine S.seq ?_); refine S.region (L.go (T := tt) tt_ok rfl rfl ?sd526 ?_); (try (case sd526 => (repeat' (first | exact trivial | with_reducible refine zI ?_ ?_ | rfl | exact zN rfl)))); try (refine L.nil ?_))
  refine L.callP rfl rfl rfl rfl rfl rfl rfl ⟨trivial, by (repeat' (first | exact trivial | with_reducible refine zI ?_ ?_))⟩ rfl (Imps.refl _) (rmay_p _ (by assumption)) ?_
  (refine L.go (T := tt) tt_ok rfl rfl ?sd542 ?_; (try (case sd542 => (repeat' (first | exact trivial | with_reducible refine zI ?_ ?_)))); try (refine L.nil ?_))
  ((repeat refine S.seq ?_); refine S.cond rfl (fun h1 => ?_) (fun h1 => ?_) <;> (try first | refine S.skip ?_ | refine S.exit ?_))
  · skip
    ((repeat refine S.seq ?_); refine S.region (L.go (T := tt) tt_ok rfl rfl ?sd527 ?_); (try (case sd527 => (repeat' (first | exact trivial | with_reducible refine zI ?_ ?_ | rfl | exact zN rfl)))); try (refine L.nil ?_))
    (refine L.store (T := tt) tt_ok rfl rfl rfl rfl rfl rfl ?sd555 ?_; (try (case sd555 => (repeat' (first | exact trivial | with_reducible refine zI ?_ ?_ | rfl | exact zN rfl)))))
    (refine L.go (T := tt) tt_ok rfl rfl ?sd543 ?_; (try (case sd543 => (repeat' (first | exact trivial | with_reducible refine zI ?_ ?_)))); try (refine L.nil ?_))
    (((repeat refine S.seq ?_); refine S.ret ?_); refine E.retP (T := tt) tt_ok rfl rfl (by (repeat' (first | exact trivial | with_reducible refine zI ?_ ?_ | rfl | exact zN rfl))) (Imp.of_eq ?_))
    rw [nack_eq, if_pos h1]
    rfl
    -- HOLE 1
  -- HOLE 2
  ((repeat refine S.seq ?_); refine S.region (L.go (T := tt) tt_ok rfl rfl ?sd528 ?_); (try (case sd528 => (repeat' (first | exact trivial | with_reducible refine zI ?_ ?_ | rfl | exact zN rfl)))); try (refine L.nil ?_))
  refine L.callP rfl rfl rfl rfl rfl rfl rfl ⟨trivial, by (repeat' (first | exact trivial | with_reducible refine zI ?_ ?_))⟩ rfl (Imps.refl _) (rout_p _ _ (by assumption)) ?_
  (refine L.go (T := tt) tt_ok rfl rfl ?sd544 ?_; (try (case sd544 => (repeat' (first | exact trivial | with_reducible refine zI ?_ ?_)))); try (refine L.nil ?_))
  refine L.alloc (T := tt) 6 tt_ok rfl rfl rfl rfl rfl fun b6 => ?_
  refine L.alloc (T := tt) 7 tt_ok rfl rfl rfl rfl rfl fun b7 => ?_
  (refine L.store (T := tt) tt_ok rfl rfl rfl rfl rfl rfl ?sd556 ?_; (try (case sd556 => (repeat' (first | exact trivial | with_reducible refine zI ?_ ?_ | rfl | exact zN rfl)))))
  (refine L.store (T := tt) tt_ok rfl rfl rfl rfl rfl rfl ?sd557 ?_; (try (case sd557 => (repeat' (first | exact trivial | with_reducible refine zI ?_ ?_ | rfl | exact zN rfl)))))
  (refine L.go (T := tt) tt_ok rfl rfl ?sd545 ?_; (try (case sd545 => (repeat' (first | exact trivial | with_reducible refine zI ?_ ?_)))); try (refine L.nil ?_))
  ((repeat refine S.seq ?_); refine S.region (L.go (T := tt) tt_ok rfl rfl ?sd529 ?_); (try (case sd529 => (repeat' (first | exact trivial | with_reducible refine zI ?_ ?_)))); try (refine L.nil ?_))
  ((repeat refine S.seq ?_); refine S.cond rfl (fun h2 => ?_) (fun h2 => ?_) <;> (try first | refine S.skip ?_ | refine S.exit ?_))
  · skip
    ((repeat refine S.seq ?_); refine S.region (L.go (T := tt) tt_ok rfl rfl ?sd530 ?_); (try (case sd530 => (repeat' (first | exact trivial | with_reducible refine zI ?_ ?_ | rfl | exact zN rfl)))); try (refine L.nil ?_))
    (refine L.store (T := tt) tt_ok rfl rfl rfl rfl rfl rfl ?sd558 ?_; (try (case sd558 => (repeat' (first | exact trivial | with_reducible refine zI ?_ ?_ | rfl | exact zN rfl)))))
    (refine L.go (T := tt) tt_ok rfl rfl ?sd546 ?_; (try (case sd546 => (repeat' (first | exact trivial | with_reducible refine zI ?_ ?_)))); try (refine L.nil ?_))
    (((repeat refine S.seq ?_); refine S.ret ?_); refine E.retP (T := tt) tt_ok rfl rfl (by (repeat' (first | exact trivial | with_reducible refine zI ?_ ?_ | rfl | exact zN rfl))) (Imp.of_eq ?_))
    have hn : heldAt s.held tag < 0 := by rw [out_is] at h2; simpa using h2
    rw [nack_eq, if_neg (by simp_all), if_pos hn]
    rfl
    -- HOLE 3
  -- HOLE 4
  ((repeat refine S.seq ?_); refine S.region (L.go (T := tt) tt_ok rfl rfl ?sd531 ?_); (try (case sd531 => (repeat' (first | exact trivial | with_reducible refine zI ?_ ?_)))); try (refine L.nil ?_))
  (refine L.store (T := tt) tt_ok rfl rfl rfl rfl rfl rfl ?sd559 ?_; (try (case sd559 => (repeat' (first | exact trivial | with_reducible refine zI ?_ ?_ | rfl | exact zN rfl)))))
  refine L.nil ?_
  ((repeat refine S.seq ?_); refine S.region (L.go (T := tt) tt_ok rfl rfl ?sd532 ?_); (try (case sd532 => (repeat' (first | exact trivial | with_reducible refine zI ?_ ?_ | rfl | exact zN rfl)))); try (refine L.nil ?_))
  refine L.buildSlice (T := tt) 25 tt_ok rfl rfl rfl rfl rfl rfl (by decide) (by decide) rfl rfl (by (repeat' (first | exact trivial | with_reducible refine zI ?_ ?_ | rfl | exact zN rfl))) fun x25 => ?_
  (refine L.go (T := tt) tt_ok rfl rfl ?sd547 ?_; (try (case sd547 => (repeat' (first | exact trivial | with_reducible refine zI ?_ ?_ | rfl)))); try (refine L.nil ?_))
  refine L.append (T := tt) tt_ok rfl rfl rfl rfl rfl rfl rfl rfl rfl rfl (by (repeat' (first | exact trivial | with_reducible refine zI ?_ ?_ | rfl))) ⟨rfl, by decide, by decide⟩ (by simp; omega) fun y28 => ?_
  (refine L.go (T := tt) tt_ok rfl rfl ?sd548 ?_; (try (case sd548 => (repeat' (first | exact trivial | with_reducible refine zI ?_ ?_)))); try (refine L.nil ?_))
  (refine L.store (T := tt) tt_ok rfl rfl rfl rfl rfl rfl ?sd560 ?_; (try (case sd560 => (repeat' (first | exact trivial | with_reducible refine zI ?_ ?_ | rfl | exact zN rfl)))))
  refine L.nil ?_
  ((repeat refine S.seq ?_); refine S.region (L.go (T := tt) tt_ok rfl rfl ?sd533 ?_); (try (case sd533 => (repeat' (first | exact trivial | with_reducible refine zI ?_ ?_ | rfl | exact zN rfl)))); try (refine L.nil ?_))
  (refine L.store (T := tt) tt_ok rfl rfl rfl rfl rfl rfl ?sd561 ?_; (try (case sd561 => (repeat' (first | exact trivial | with_reducible refine zI ?_ ?_ | rfl | exact zN rfl)))))
  (refine L.go (T := tt) tt_ok rfl rfl ?sd549 ?_; (try (case sd549 => (repeat' (first | exact trivial | with_reducible refine zI ?_ ?_)))); try (refine L.nil ?_))
  ((repeat refine S.seq ?_); refine S.ret ?_)
  refine freezeCell 4 2 25 rfl rfl rfl rfl ?_
  refine E.retP (T := tt) tt_ok rfl rfl (by (repeat' (first | exact trivial | with_reducible refine zI ?_ ?_ | rfl | exact zN rfl))) ?_
  have hn : ¬ heldAt s.held tag < 0 := by rw [out_is] at h2; simpa using h2
  rw [nack_eq, if_neg (by simp_all), if_neg hn]
  refine Imp.tup ⟨Imp.agg ⟨Imp.refl _, Imp.refl _, Imp.lst (by simp; omega) fun i hi => ?_, Imp.refl _, Imp.refl _, trivial⟩, Imp.refl _, trivial⟩
  cases i with
  | zero => rfl
  | succ i => rfl
  -- HOLE 5


end Go.Proofs.Ytlbbcjlhnjnkeaa

/- The reference: handing out, putting. -/
namespace Go.Proofs.Ytlbbcjlhnjnkeaa
set_option linter.unusedVariables false
set_option linter.unusedSimpArgs false
set_option maxHeartbeats 8000000
open Go.RowKit
set_option maxRecDepth 4000

theorem app1_g {α : Type} [Inhabited α] (f : α → List AV) (l : List α) (x : α) (g0 h : Nat → List AV) (hx : h 0 = f x) {i : Nat} (hi : i < l.length + 1) : joinG (0 + l.length) (joinG 0 g0 (gOf f l)) h i = gOf f (l ++ [x]) i := by
  simp only [joinG, Nat.zero_add, Nat.not_lt_zero, if_false, Nat.sub_zero, gOf, List.getD_eq_getElem?_getD, List.getElem?_append]
  split
  · rfl
  · have e : i - l.length = 0 := by omega
    rw [e, hx]; rfl

theorem get_eq (s : Shard) : getR s = if !mayShard s then (s, default, 1) else if s.frozen then (s, default, 6) else if freeAt s = -1 then (s, default, 3) else if s.next = 1073741824 then (s, default, 4) else (getS s, getH s, 0) := by
  unfold getR getE
  cases mayShard s
  · rfl
  · cases s.frozen
    · by_cases h : freeAt s = -1 <;> by_cases h2 : s.next = 1073741824 <;> simp [h, h2]
    · rfl

theorem rget_p (s : Shard) (hs : s.small) : PFn Try.prog 39 [s.av] (.tup [(getR s).1.av, (getR s).2.1.av, .v (.int .i64 (getR s).2.2)]) := by
  have ⟨hs1, hs2, hs3⟩ := hs
  refine FnC.intro Try.func39 rfl Try.ntmps39 rfl ?_; intro off w0
  repeat refine S.seq ?_
  refine S.region ?_
  refine L.box 1 rfl rfl rfl rfl rfl trivial rfl fun b1 => ?_
  refine L.alloc (T := tt) 2 tt_ok rfl rfl rfl rfl rfl fun b2 => ?_
  refine L.alloc (T := tt) 3 tt_ok rfl rfl rfl rfl rfl fun b3 => ?_
  (refine L.go (T := tt) tt_ok rfl rfl ?sd576 ?_; (try (case sd576 => (repeat' (first | exact trivial | with_reducible refine zI ?_ ?_)))); try (refine L.nil ?_))
  ((repeat refine S.seq ?_); refine S.region (L.go (T := tt) tt_ok rfl rfl ?sd562 ?_); (try (case sd562 => (repeat' (first | exact trivial | with_reducible refine zI ?_ ?_ | rfl | exact zN rfl)))); try (refine L.nil ?_))
  refine L.callP rfl rfl rfl rfl rfl rfl rfl ⟨trivial, by (repeat' (first | exact trivial | with_reducible refine zI ?_ ?_))⟩ rfl (Imps.refl _) (rmay_p _ (by assumption)) ?_
  (refine L.go (T := tt) tt_ok rfl rfl ?sd577 ?_; (try (case sd577 => (repeat' (first | exact trivial | with_reducible refine zI ?_ ?_)))); try (refine L.nil ?_))
  ((repeat refine S.seq ?_); refine S.cond rfl (fun h1 => ?_) (fun h1 => ?_) <;> (try first | refine S.skip ?_ | refine S.exit ?_))
  · skip
    ((repeat refine S.seq ?_); refine S.region (L.go (T := tt) tt_ok rfl rfl ?sd563 ?_); (try (case sd563 => (repeat' (first | exact trivial | with_reducible refine zI ?_ ?_ | rfl | exact zN rfl)))); try (refine L.nil ?_))
    (refine L.store (T := tt) tt_ok rfl rfl rfl rfl rfl rfl ?sd582 ?_; (try (case sd582 => (repeat' (first | exact trivial | with_reducible refine zI ?_ ?_ | rfl | exact zN rfl)))))
    (refine L.store (T := tt) tt_ok rfl rfl rfl rfl rfl rfl ?sd583 ?_; (try (case sd583 => (repeat' (first | exact trivial | with_reducible refine zI ?_ ?_ | rfl | exact zN rfl)))))
    (refine L.go (T := tt) tt_ok rfl rfl ?sd578 ?_; (try (case sd578 => (repeat' (first | exact trivial | with_reducible refine zI ?_ ?_)))); try (refine L.nil ?_))
    (((repeat refine S.seq ?_); refine S.ret ?_); refine E.retP (T := tt) tt_ok rfl rfl (by (repeat' (first | exact trivial | with_reducible refine zI ?_ ?_ | rfl | exact zN rfl))) (Imp.of_eq ?_))
    rw [get_eq, if_pos h1]
    rfl
    -- HOLE 1
  -- HOLE 2
  ((repeat refine S.seq ?_); refine S.region (L.go (T := tt) tt_ok rfl rfl ?sd564 ?_); (try (case sd564 => (repeat' (first | exact trivial | with_reducible refine zI ?_ ?_ | rfl)))); try (refine L.nil ?_))
  ((repeat refine S.seq ?_); refine S.cond rfl (fun h2 => ?_) (fun h2 => ?_) <;> (try first | refine S.skip ?_ | refine S.exit ?_))
  · skip
    ((repeat refine S.seq ?_); refine S.region (L.go (T := tt) tt_ok rfl rfl ?sd565 ?_); (try (case sd565 => (repeat' (first | exact trivial | with_reducible refine zI ?_ ?_ | rfl | exact zN rfl)))); try (refine L.nil ?_))
    (refine L.store (T := tt) tt_ok rfl rfl rfl rfl rfl rfl ?sd584 ?_; (try (case sd584 => (repeat' (first | exact trivial | with_reducible refine zI ?_ ?_ | rfl | exact zN rfl)))))
    (refine L.store (T := tt) tt_ok rfl rfl rfl rfl rfl rfl ?sd585 ?_; (try (case sd585 => (repeat' (first | exact trivial | with_reducible refine zI ?_ ?_ | rfl | exact zN rfl)))))
    (refine L.go (T := tt) tt_ok rfl rfl ?sd579 ?_; (try (case sd579 => (repeat' (first | exact trivial | with_reducible refine zI ?_ ?_)))); try (refine L.nil ?_))
    (((repeat refine S.seq ?_); refine S.ret ?_); refine E.retP (T := tt) tt_ok rfl rfl (by (repeat' (first | exact trivial | with_reducible refine zI ?_ ?_ | rfl | exact zN rfl))) (Imp.of_eq ?_))
    rw [get_eq, if_neg (by simp_all), if_pos h2]
    rfl
    -- HOLE 3
  -- HOLE 4
  ((repeat refine S.seq ?_); refine S.region (L.go (T := tt) tt_ok rfl rfl ?sd566 ?_); (try (case sd566 => (repeat' (first | exact trivial | with_reducible refine zI ?_ ?_)))); try (refine L.nil ?_))
  repeat refine S.seq ?_
  refine S.block (S.loop (ι := { k : Nat // k ≤ s.ready.length ∧ ∀ j, j < k → hasKey s.held (s.ready.getD j default).key = true }) (fun k => [(1, .ptr 1 b1 0), (2, .ptr 2 b2 0), (3, .ptr 3 b3 0), (5, .v (.int .i64 k.1))])
    (fun k => [(3, .blk b3 53 (Held.cells default)), (2, .blk b2 29 [.v (.bool false), .v (.int .i64 0), .v (.slice none 0 0), .v (.slice none 0 0), .v (.slice none 0 0)]), (1, .blk b1 29 s.cells)]) (fun k => s.ready.length - k.1) ?_ ?_)
  · refine fun a w h => ⟨⟨0, Nat.zero_le _, ?_⟩, h.weak (by (repeat' (first | exact True.intro | exact Imp.refl _ | refine ⟨?_, ?_⟩))) (by (repeat (first | exact List.nil_sublist _ | refine List.Sublist.cons_cons _ ?_ | refine List.Sublist.cons _ ?_)))⟩
    exact fun j hj => absurd hj (by omega)
    -- HOLE 5
  rintro ⟨k, hk, ik⟩
  dsimp only
  ((repeat refine S.seq ?_); refine S.region (L.go (T := tt) tt_ok rfl rfl ?sd567 ?_); (try (case sd567 => (repeat' (first | exact trivial | with_reducible refine zI ?_ ?_ | rfl)))); try (refine L.nil ?_))
  ((repeat refine S.seq ?_); refine S.cond rfl (fun h3 => ?_) (fun h3 => ?_) <;> (try first | refine S.skip ?_ | refine S.exit ?_))
  · have h3 := of_dec h3
    repeat refine S.seq ?_
    refine S.block ?_
    repeat refine S.seq ?_
    refine S.draw [(0, [1]), (2, [1])] mixed ?_
    (refine H.ts (T := tt) [0, 1, 2, 3, 4, 5, 6] tt_ok (by kernel_rfl) (by kernel_rfl) (by kernel_rfl) (by intro ch a a' w h; obtain ⟨_, _, _, _, _, h, _⟩ := h; cases h) rfl ?sd594 ?_; (try (case sd594 => (repeat' (first | exact trivial | with_reducible refine zI ?_ ?_ | rfl | exact zN rfl | omega)))))
    refine H.callP 7 rfl (by kernel_rfl) (by kernel_rfl) rfl rfl rfl rfl rfl rfl rfl ⟨trivial, by (repeat' (first | exact trivial | with_reducible refine zI ?_ ?_))⟩ rfl (by exact Imps.refl _) ((rlocked_p _ _)) ?_
    refine H.done (by kernel_rfl) ?_
    ((repeat refine S.seq ?_); refine S.cond rfl (fun h4 => ?_) (fun h4 => ?_) <;> (try first | refine S.skip ?_ | refine S.exit ?_))
    · skip
      ((repeat refine S.seq ?_); refine S.region (L.go (T := tt) tt_ok rfl rfl ?sd568 ?_); (try (case sd568 => (repeat' (first | exact trivial | with_reducible refine zI ?_ ?_ | (unfold fits; omega))))); try (refine L.nil ?_))
      refine fun a w hR => ⟨⟨k + 1, by omega, ?_⟩, by simp only; omega, hR.weak (by (repeat' (first | exact True.intro | exact Imp.refl _ | refine ⟨?_, ?_⟩))) (by (repeat (first | exact List.nil_sublist _ | refine List.Sublist.cons_cons _ ?_ | refine List.Sublist.cons _ ?_)))⟩
      exact upto_succ ik h4
      -- HOLE 6
    have hmay : mayShard s = true := by simpa using h1
    have hnx := mayShard_lens hmay
    -- HOLE 7
    ((repeat refine S.seq ?_); refine S.region (L.go (T := tt) tt_ok rfl rfl ?sd569 ?_); (try (case sd569 => (repeat' (first | exact trivial | with_reducible refine zI ?_ ?_ | rfl)))); try (refine L.nil ?_))
    ((repeat refine S.seq ?_); refine S.cond rfl (fun h5 => ?_) (fun h5 => ?_) <;> (try first | refine S.skip ?_ | refine S.exit ?_))
    · skip
      ((repeat refine S.seq ?_); refine S.region (L.go (T := tt) tt_ok rfl rfl ?sd570 ?_); (try (case sd570 => (repeat' (first | exact trivial | with_reducible refine zI ?_ ?_ | rfl | exact zN rfl)))); try (refine L.nil ?_))
      (refine L.store (T := tt) tt_ok rfl rfl rfl rfl rfl rfl ?sd586 ?_; (try (case sd586 => (repeat' (first | exact trivial | with_reducible refine zI ?_ ?_ | rfl | exact zN rfl)))))
      (refine L.store (T := tt) tt_ok rfl rfl rfl rfl rfl rfl ?sd587 ?_; (try (case sd587 => (repeat' (first | exact trivial | with_reducible refine zI ?_ ?_ | rfl | exact zN rfl)))))
      (refine L.go (T := tt) tt_ok rfl rfl ?sd580 ?_; (try (case sd580 => (repeat' (first | exact trivial | with_reducible refine zI ?_ ?_)))); try (refine L.nil ?_))
      (((repeat refine S.seq ?_); refine S.ret ?_); refine E.retP (T := tt) tt_ok rfl rfl (by (repeat' (first | exact trivial | with_reducible refine zI ?_ ?_ | rfl | exact zN rfl))) (Imp.of_eq ?_))
      have hf : freeAt s = k := pidx_some (by omega) (by show (!hasKey _ _) = true; rw [Bool.not_eq_true']; exact h4) fun j hj => by show (!hasKey _ _) = false; rw [ik j hj]; rfl
      rw [get_eq, if_neg (by simp_all), if_neg (by simp_all), if_neg (by omega), if_pos (by simp at h5; omega)]
      rfl
      -- HOLE 8
    -- HOLE 9
    repeat refine S.seq ?_
    refine S.draw [(1, [1]), (3, [1])] mixed ?_
    (refine H.ts (T := tt) [0, 1, 2, 3, 4, 5, 6, 7] tt_ok (by kernel_rfl) (by kernel_rfl) (by kernel_rfl) (by intro ch a a' w h; obtain ⟨_, _, _, _, _, h, _⟩ := h; cases h) rfl ?sd595 ?_; (try (case sd595 => (repeat' (first | exact trivial | with_reducible refine zI ?_ ?_ | rfl | exact zN rfl | omega)))))
    refine H.o1 8 rfl (by kernel_rfl) (by kernel_rfl) (O.alloc (T := tt) 6 tt_ok rfl rfl rfl rfl rfl) (.inr rfl) rfl fun b6 => ?_
    (refine H.store (T := tt) 9 rfl (by kernel_rfl) (by kernel_rfl) tt_ok rfl rfl rfl rfl rfl rfl ?sd608 rfl (by kernel_rfl) ?_; (try (case sd608 => (repeat' (first | exact trivial | with_reducible refine zI ?_ ?_ | rfl | exact zN rfl)))))
    refine H.done (by kernel_rfl) ?_
    ((repeat refine S.seq ?_); refine S.region (L.go (T := tt) tt_ok rfl rfl ?sd571 ?_); (try (case sd571 => (repeat' (first | exact trivial | with_reducible refine zI ?_ ?_ | rfl | exact zN rfl)))); try (refine L.nil ?_))
    refine L.alloc (T := tt) 7 tt_ok rfl rfl rfl rfl rfl fun b7 => ?_
    (refine L.store (T := tt) tt_ok rfl rfl rfl rfl rfl rfl ?sd588 ?_; (try (case sd588 => (repeat' (first | exact trivial | with_reducible refine zI ?_ ?_ | rfl | exact zN rfl)))))
    refine L.nil ?_
    repeat refine S.seq ?_
    refine S.draw [(2, [1]), (7, [1])] mixed ?_
    (refine H.ts (T := tt) [1, 2, 3, 4, 6, 7, 8, 9, 10] tt_ok (by kernel_rfl) (by kernel_rfl) (by kernel_rfl) (by intro ch a a' w h; obtain ⟨_, _, _, _, _, h, _⟩ := h; cases h) rfl ?sd596 ?_; (try (case sd596 => (repeat' (first | exact trivial | with_reducible refine zI ?_ ?_ | rfl | omega | (unfold fits; omega))))))
    refine H.o1 0 rfl (by kernel_rfl) (by kernel_rfl) (O.buildSlice (T := tt) 46 tt_ok rfl rfl rfl rfl rfl rfl (by decide) (by decide) rfl rfl (by (repeat' (first | exact trivial | with_reducible refine zI ?_ ?_)))) (.inr rfl) rfl fun x46 => ?_
    refine H.o1 5 rfl (by kernel_rfl) (by kernel_rfl) (O.append (T := tt) tt_ok rfl rfl rfl rfl rfl rfl rfl rfl rfl rfl (by (repeat' (first | exact trivial | with_reducible refine zI ?_ ?_ | rfl))) ⟨rfl, by decide, by decide⟩ (by simp; omega)) (.inl (by kernel_rfl)) (by kernel_rfl) fun y51 => ?_
    refine H.o1 11 rfl (by kernel_rfl) (by kernel_rfl) (O.append (T := tt) tt_ok rfl rfl rfl rfl rfl rfl rfl rfl rfl rfl (by (repeat' (first | exact trivial | with_reducible refine zI ?_ ?_ | rfl))) ⟨rfl, by decide, by decide⟩ (by simp; omega)) (.inl (by kernel_rfl)) (by kernel_rfl) fun y57 => ?_
    (refine H.ts (T := tt) [12] tt_ok (by kernel_rfl) (by kernel_rfl) (by kernel_rfl) (by intro ch a a' w h; obtain ⟨_, _, _, _, _, h, _⟩ := h; cases h) rfl ?sd597 ?_; (try (case sd597 => (repeat' (first | exact trivial | with_reducible refine zI ?_ ?_)))))
    (refine H.store (T := tt) 13 rfl (by kernel_rfl) (by kernel_rfl) tt_ok rfl rfl rfl rfl rfl rfl ?sd609 rfl (by kernel_rfl) ?_; (try (case sd609 => (repeat' (first | exact trivial | with_reducible refine zI ?_ ?_ | rfl | exact zN rfl)))))
    refine H.done (by kernel_rfl) ?_
    repeat refine S.seq ?_
    refine S.draw [(2, [1]), (4, [6])] mixed ?_
    (refine H.ts (T := tt) [1, 2, 4] tt_ok (by kernel_rfl) (by kernel_rfl) (by kernel_rfl) (by intro ch a a' w h; obtain ⟨_, _, _, _, _, h, _⟩ := h; cases h) rfl ?sd598 ?_; (try (case sd598 => (repeat' (first | exact trivial | with_reducible refine zI ?_ ?_ | rfl | exact zN rfl)))))
    refine H.o2 0 5 rfl rfl (by kernel_rfl) (by kernel_rfl) (O.buildSlice (T := tt) 59 tt_ok rfl rfl rfl rfl rfl rfl (by decide) (by decide) rfl rfl (by (repeat' (first | exact trivial | with_reducible refine zI ?_ ?_)))) (O.buildSlice (T := tt) 64 tt_ok rfl rfl rfl rfl rfl rfl (by decide) (by decide) rfl rfl (by (repeat' (first | exact trivial | with_reducible refine zI ?_ ?_ | rfl | exact zN rfl)))) (.inr rfl) (.inr rfl) rfl rfl (fun x59 => ?_) (fun x64 => ?_)
    · skip
      refine H.o2 3 5 rfl rfl (by kernel_rfl) (by kernel_rfl) (O.append (T := tt) tt_ok rfl rfl rfl rfl rfl rfl rfl rfl rfl rfl (by (repeat' (first | exact trivial | with_reducible refine zI ?_ ?_ | rfl))) ⟨rfl, by decide, by decide⟩ (by simp; omega)) (O.buildSlice (T := tt) 64 tt_ok rfl rfl rfl rfl rfl rfl (by decide) (by decide) rfl rfl (by (repeat' (first | exact trivial | with_reducible refine zI ?_ ?_ | rfl | exact zN rfl)))) (.inl (by kernel_rfl)) (.inr rfl) (by kernel_rfl) rfl (fun y62 => ?_) (fun x64 => ?_)
      · skip
        refine H.o1 5 rfl (by kernel_rfl) (by kernel_rfl) (O.buildSlice (T := tt) 64 tt_ok rfl rfl rfl rfl rfl rfl (by decide) (by decide) rfl rfl (by (repeat' (first | exact trivial | with_reducible refine zI ?_ ?_ | rfl | exact zN rfl)))) (.inr rfl) rfl fun x64 => ?_
        refine H.o1 6 rfl (by kernel_rfl) (by kernel_rfl) (O.append (T := tt) tt_ok rfl rfl rfl rfl rfl rfl rfl rfl rfl rfl (by (repeat' (first | exact trivial | with_reducible refine zI ?_ ?_ | rfl))) ⟨rfl, by decide, by decide⟩ (by simp; omega)) (.inl (by kernel_rfl)) (by kernel_rfl) fun y65 => ?_
        (refine H.ts (T := tt) [7] tt_ok (by kernel_rfl) (by kernel_rfl) (by kernel_rfl) (by intro ch a a' w h; obtain ⟨_, _, _, _, _, h, _⟩ := h; cases h) rfl ?sd599 ?_; (try (case sd599 => (repeat' (first | exact trivial | with_reducible refine zI ?_ ?_)))))
        (refine H.store (T := tt) 8 rfl (by kernel_rfl) (by kernel_rfl) tt_ok rfl rfl rfl rfl rfl rfl ?sd610 rfl (by kernel_rfl) ?_; (try (case sd610 => (repeat' (first | exact trivial | with_reducible refine zI ?_ ?_ | rfl | exact zN rfl)))))
        refine H.done (by kernel_rfl) ?_
        ((repeat refine S.seq ?_); refine S.region (L.go (T := tt) tt_ok rfl rfl ?sd572 ?_); (try (case sd572 => (repeat' (first | exact trivial | with_reducible refine zI ?_ ?_ | rfl | (unfold fits; omega))))); try (refine L.nil ?_))
        (refine L.store (T := tt) tt_ok rfl rfl rfl rfl rfl rfl ?sd589 ?_; (try (case sd589 => (repeat' (first | exact trivial | with_reducible refine zI ?_ ?_ | rfl | exact zN rfl)))))
        refine L.nil ?_
        repeat refine S.seq ?_
        refine S.draw [(0, [7]), (1, [6])] mixed ?_
        (refine H.ts (T := tt) [0, 1] tt_ok (by kernel_rfl) (by kernel_rfl) (by kernel_rfl) (by intro ch a a' w h; obtain ⟨_, _, _, _, _, h, _⟩ := h; cases h) rfl ?sd600 ?_; (try (case sd600 => (repeat' (first | exact trivial | with_reducible refine zI ?_ ?_ | rfl | exact zN rfl)))))
        (refine H.store (T := tt) 2 rfl (by kernel_rfl) (by kernel_rfl) tt_ok rfl rfl rfl rfl rfl rfl ?sd611 rfl (by kernel_rfl) ?_; (try (case sd611 => (repeat' (first | exact trivial | with_reducible refine zI ?_ ?_ | rfl | exact zN rfl)))))
        (refine H.store (T := tt) 3 rfl (by kernel_rfl) (by kernel_rfl) tt_ok rfl rfl rfl rfl rfl rfl ?sd612 rfl (by kernel_rfl) ?_; (try (case sd612 => (repeat' (first | exact trivial | with_reducible refine zI ?_ ?_ | rfl | exact zN rfl)))))
        (refine H.ts (T := tt) [4] tt_ok (by kernel_rfl) (by kernel_rfl) (by kernel_rfl) (by intro ch a a' w h; obtain ⟨_, _, _, _, _, h, _⟩ := h; cases h) rfl ?sd601 ?_; (try (case sd601 => (repeat' (first | exact trivial | with_reducible refine zI ?_ ?_)))))
        refine H.done (by kernel_rfl) ?_
        ((repeat refine S.seq ?_); refine S.ret ?_)
        refine freezeCell 2 2 46 rfl rfl rfl rfl (freezeCell 2 3 59 rfl rfl rfl rfl ?_)
        refine E.retP (T := tt) tt_ok rfl rfl (by (repeat' (first | exact trivial | with_reducible refine zI ?_ ?_ | rfl | exact zN rfl))) ?_
        have hf : freeAt s = k := pidx_some (by omega) (by show (!hasKey _ _) = true; rw [Bool.not_eq_true']; exact h4) fun j hj => by show (!hasKey _ _) = false; rw [ik j hj]; rfl
        rw [get_eq, if_neg (by simp_all), if_neg (by simp_all), if_neg (by omega), if_neg (by simp at h5; omega), getS, getH, hf]
        refine Imp.tup ⟨Imp.agg ⟨Imp.refl _, Imp.refl _, imp_cut _ _ _ _ _ (by omega) (by simp; omega) fun i hi => ?_, Imp.lst (by simp) fun i hi => ?_, Imp.refl _, trivial⟩, Imp.refl _, Imp.refl _, trivial⟩
        · simp only [joinG, Nat.zero_add, Int.toNat_natCast, Nat.not_lt_zero, if_false, Nat.sub_zero]
          split
          · rfl
          · congr 1
            omega
        · exact app1_g _ _ (⟨s.next, s.ready.getD k default⟩ : Held) _ _ rfl (by simp at hi; omega)
        -- HOLE 10
      · skip
        refine H.o1 3 rfl (by kernel_rfl) (by kernel_rfl) (O.append (T := tt) tt_ok rfl rfl rfl rfl rfl rfl rfl rfl rfl rfl (by (repeat' (first | exact trivial | with_reducible refine zI ?_ ?_ | rfl))) ⟨rfl, by decide, by decide⟩ (by simp; omega)) (.inl (by kernel_rfl)) (by kernel_rfl) fun y62 => ?_
        refine H.o1 6 rfl (by kernel_rfl) (by kernel_rfl) (O.append (T := tt) tt_ok rfl rfl rfl rfl rfl rfl rfl rfl rfl rfl (by (repeat' (first | exact trivial | with_reducible refine zI ?_ ?_ | rfl))) ⟨rfl, by decide, by decide⟩ (by simp; omega)) (.inl (by kernel_rfl)) (by kernel_rfl) fun y65 => ?_
        (refine H.ts (T := tt) [7] tt_ok (by kernel_rfl) (by kernel_rfl) (by kernel_rfl) (by intro ch a a' w h; obtain ⟨_, _, _, _, _, h, _⟩ := h; cases h) rfl ?sd602 ?_; (try (case sd602 => (repeat' (first | exact trivial | with_reducible refine zI ?_ ?_)))))
        (refine H.store (T := tt) 8 rfl (by kernel_rfl) (by kernel_rfl) tt_ok rfl rfl rfl rfl rfl rfl ?sd613 rfl (by kernel_rfl) ?_; (try (case sd613 => (repeat' (first | exact trivial | with_reducible refine zI ?_ ?_ | rfl | exact zN rfl)))))
        refine H.done (by kernel_rfl) ?_
        ((repeat refine S.seq ?_); refine S.region (L.go (T := tt) tt_ok rfl rfl ?sd573 ?_); (try (case sd573 => (repeat' (first | exact trivial | with_reducible refine zI ?_ ?_ | rfl | (unfold fits; omega))))); try (refine L.nil ?_))
        (refine L.store (T := tt) tt_ok rfl rfl rfl rfl rfl rfl ?sd590 ?_; (try (case sd590 => (repeat' (first | exact trivial | with_reducible refine zI ?_ ?_ | rfl | exact zN rfl)))))
        refine L.nil ?_
        repeat refine S.seq ?_
        refine S.draw [(0, [7]), (1, [6])] mixed ?_
        (refine H.ts (T := tt) [0, 1] tt_ok (by kernel_rfl) (by kernel_rfl) (by kernel_rfl) (by intro ch a a' w h; obtain ⟨_, _, _, _, _, h, _⟩ := h; cases h) rfl ?sd603 ?_; (try (case sd603 => (repeat' (first | exact trivial | with_reducible refine zI ?_ ?_ | rfl | exact zN rfl)))))
        (refine H.store (T := tt) 2 rfl (by kernel_rfl) (by kernel_rfl) tt_ok rfl rfl rfl rfl rfl rfl ?sd614 rfl (by kernel_rfl) ?_; (try (case sd614 => (repeat' (first | exact trivial | with_reducible refine zI ?_ ?_ | rfl | exact zN rfl)))))
        (refine H.store (T := tt) 3 rfl (by kernel_rfl) (by kernel_rfl) tt_ok rfl rfl rfl rfl rfl rfl ?sd615 rfl (by kernel_rfl) ?_; (try (case sd615 => (repeat' (first | exact trivial | with_reducible refine zI ?_ ?_ | rfl | exact zN rfl)))))
        (refine H.ts (T := tt) [4] tt_ok (by kernel_rfl) (by kernel_rfl) (by kernel_rfl) (by intro ch a a' w h; obtain ⟨_, _, _, _, _, h, _⟩ := h; cases h) rfl ?sd604 ?_; (try (case sd604 => (repeat' (first | exact trivial | with_reducible refine zI ?_ ?_)))))
        refine H.done (by kernel_rfl) ?_
        ((repeat refine S.seq ?_); refine S.ret ?_)
        refine freezeCell 2 2 46 rfl rfl rfl rfl (freezeCell 2 3 59 rfl rfl rfl rfl ?_)
        refine E.retP (T := tt) tt_ok rfl rfl (by (repeat' (first | exact trivial | with_reducible refine zI ?_ ?_ | rfl | exact zN rfl))) ?_
        have hf : freeAt s = k := pidx_some (by omega) (by show (!hasKey _ _) = true; rw [Bool.not_eq_true']; exact h4) fun j hj => by show (!hasKey _ _) = false; rw [ik j hj]; rfl
        rw [get_eq, if_neg (by simp_all), if_neg (by simp_all), if_neg (by omega), if_neg (by simp at h5; omega), getS, getH, hf]
        refine Imp.tup ⟨Imp.agg ⟨Imp.refl _, Imp.refl _, imp_cut _ _ _ _ _ (by omega) (by simp; omega) fun i hi => ?_, Imp.lst (by simp) fun i hi => ?_, Imp.refl _, trivial⟩, Imp.refl _, Imp.refl _, trivial⟩
        · simp only [joinG, Nat.zero_add, Int.toNat_natCast, Nat.not_lt_zero, if_false, Nat.sub_zero]
          split
          · rfl
          · congr 1
            omega
        · exact app1_g _ _ (⟨s.next, s.ready.getD k default⟩ : Held) _ _ rfl (by simp at hi; omega)
        -- HOLE 10
    · skip
      refine H.o1 0 rfl (by kernel_rfl) (by kernel_rfl) (O.buildSlice (T := tt) 59 tt_ok rfl rfl rfl rfl rfl rfl (by decide) (by decide) rfl rfl (by (repeat' (first | exact trivial | with_reducible refine zI ?_ ?_)))) (.inr rfl) rfl fun x59 => ?_
      refine H.o1 3 rfl (by kernel_rfl) (by kernel_rfl) (O.append (T := tt) tt_ok rfl rfl rfl rfl rfl rfl rfl rfl rfl rfl (by (repeat' (first | exact trivial | with_reducible refine zI ?_ ?_ | rfl))) ⟨rfl, by decide, by decide⟩ (by simp; omega)) (.inl (by kernel_rfl)) (by kernel_rfl) fun y62 => ?_
      refine H.o1 6 rfl (by kernel_rfl) (by kernel_rfl) (O.append (T := tt) tt_ok rfl rfl rfl rfl rfl rfl rfl rfl rfl rfl (by (repeat' (first | exact trivial | with_reducible refine zI ?_ ?_ | rfl))) ⟨rfl, by decide, by decide⟩ (by simp; omega)) (.inl (by kernel_rfl)) (by kernel_rfl) fun y65 => ?_
      (refine H.ts (T := tt) [7] tt_ok (by kernel_rfl) (by kernel_rfl) (by kernel_rfl) (by intro ch a a' w h; obtain ⟨_, _, _, _, _, h, _⟩ := h; cases h) rfl ?sd605 ?_; (try (case sd605 => (repeat' (first | exact trivial | with_reducible refine zI ?_ ?_)))))
      (refine H.store (T := tt) 8 rfl (by kernel_rfl) (by kernel_rfl) tt_ok rfl rfl rfl rfl rfl rfl ?sd616 rfl (by kernel_rfl) ?_; (try (case sd616 => (repeat' (first | exact trivial | with_reducible refine zI ?_ ?_ | rfl | exact zN rfl)))))
      refine H.done (by kernel_rfl) ?_
      ((repeat refine S.seq ?_); refine S.region (L.go (T := tt) tt_ok rfl rfl ?sd574 ?_); (try (case sd574 => (repeat' (first | exact trivial | with_reducible refine zI ?_ ?_ | rfl | (unfold fits; omega))))); try (refine L.nil ?_))
      (refine L.store (T := tt) tt_ok rfl rfl rfl rfl rfl rfl ?sd591 ?_; (try (case sd591 => (repeat' (first | exact trivial | with_reducible refine zI ?_ ?_ | rfl | exact zN rfl)))))
      refine L.nil ?_
      repeat refine S.seq ?_
      refine S.draw [(0, [7]), (1, [6])] mixed ?_
      (refine H.ts (T := tt) [0, 1] tt_ok (by kernel_rfl) (by kernel_rfl) (by kernel_rfl) (by intro ch a a' w h; obtain ⟨_, _, _, _, _, h, _⟩ := h; cases h) rfl ?sd606 ?_; (try (case sd606 => (repeat' (first | exact trivial | with_reducible refine zI ?_ ?_ | rfl | exact zN rfl)))))
      (refine H.store (T := tt) 2 rfl (by kernel_rfl) (by kernel_rfl) tt_ok rfl rfl rfl rfl rfl rfl ?sd617 rfl (by kernel_rfl) ?_; (try (case sd617 => (repeat' (first | exact trivial | with_reducible refine zI ?_ ?_ | rfl | exact zN rfl)))))
      (refine H.store (T := tt) 3 rfl (by kernel_rfl) (by kernel_rfl) tt_ok rfl rfl rfl rfl rfl rfl ?sd618 rfl (by kernel_rfl) ?_; (try (case sd618 => (repeat' (first | exact trivial | with_reducible refine zI ?_ ?_ | rfl | exact zN rfl)))))
      (refine H.ts (T := tt) [4] tt_ok (by kernel_rfl) (by kernel_rfl) (by kernel_rfl) (by intro ch a a' w h; obtain ⟨_, _, _, _, _, h, _⟩ := h; cases h) rfl ?sd607 ?_; (try (case sd607 => (repeat' (first | exact trivial | with_reducible refine zI ?_ ?_)))))
      refine H.done (by kernel_rfl) ?_
      ((repeat refine S.seq ?_); refine S.ret ?_)
      refine freezeCell 2 2 46 rfl rfl rfl rfl (freezeCell 2 3 59 rfl rfl rfl rfl ?_)
      refine E.retP (T := tt) tt_ok rfl rfl (by (repeat' (first | exact trivial | with_reducible refine zI ?_ ?_ | rfl | exact zN rfl))) ?_
      have hf : freeAt s = k := pidx_some (by omega) (by show (!hasKey _ _) = true; rw [Bool.not_eq_true']; exact h4) fun j hj => by show (!hasKey _ _) = false; rw [ik j hj]; rfl
      rw [get_eq, if_neg (by simp_all), if_neg (by simp_all), if_neg (by omega), if_neg (by simp at h5; omega), getS, getH, hf]
      refine Imp.tup ⟨Imp.agg ⟨Imp.refl _, Imp.refl _, imp_cut _ _ _ _ _ (by omega) (by simp; omega) fun i hi => ?_, Imp.lst (by simp) fun i hi => ?_, Imp.refl _, trivial⟩, Imp.refl _, Imp.refl _, trivial⟩
      · simp only [joinG, Nat.zero_add, Int.toNat_natCast, Nat.not_lt_zero, if_false, Nat.sub_zero]
        split
        · rfl
        · congr 1
          omega
      · exact app1_g _ _ (⟨s.next, s.ready.getD k default⟩ : Held) _ _ rfl (by simp at hi; omega)
      -- HOLE 10
  · have h3 := of_dec' h3
    -- HOLE 11
    ((repeat refine S.seq ?_); refine S.region (L.go (T := tt) tt_ok rfl rfl ?sd575 ?_); (try (case sd575 => (repeat' (first | exact trivial | with_reducible refine zI ?_ ?_ | rfl | exact zN rfl)))); try (refine L.nil ?_))
    (refine L.store (T := tt) tt_ok rfl rfl rfl rfl rfl rfl ?sd592 ?_; (try (case sd592 => (repeat' (first | exact trivial | with_reducible refine zI ?_ ?_ | rfl | exact zN rfl)))))
    (refine L.store (T := tt) tt_ok rfl rfl rfl rfl rfl rfl ?sd593 ?_; (try (case sd593 => (repeat' (first | exact trivial | with_reducible refine zI ?_ ?_ | rfl | exact zN rfl)))))
    (refine L.go (T := tt) tt_ok rfl rfl ?sd581 ?_; (try (case sd581 => (repeat' (first | exact trivial | with_reducible refine zI ?_ ?_)))); try (refine L.nil ?_))
    (((repeat refine S.seq ?_); refine S.ret ?_); refine E.retP (T := tt) tt_ok rfl rfl (by (repeat' (first | exact trivial | with_reducible refine zI ?_ ?_ | rfl | exact zN rfl))) (Imp.of_eq ?_))
    have hf : freeAt s = -1 := pidx_none fun j hj => by show (!hasKey _ _) = false; rw [ik j (by omega)]; rfl
    rw [get_eq, if_neg (by simp_all), if_neg (by simp_all), if_pos hf]
    rfl
    -- HOLE 12


end Go.Proofs.Ytlbbcjlhnjnkeaa

/- The reference: putting. -/
namespace Go.Proofs.Ytlbbcjlhnjnkeaa
set_option linter.unusedVariables false
set_option linter.unusedSimpArgs false
set_option maxHeartbeats 8000000
open Go.RowKit
set_option maxRecDepth 4000

def markOf (l : List Msg) : Mark := ⟨(l.getD 0 default).pub, (l.getD 0 default).key, (lastMsg l).seq⟩
def mputF (x m : Mark) : Mark := if nm m x.pub x.key then { m with seq := x.seq } else m
def mput (l : List Mark) (x : Mark) (k : Nat) : List Mark := (l.take k).map (mputF x) ++ l.drop k
theorem mput_len (l : List Mark) (x : Mark) (k : Nat) : (mput l x k).length = l.length := by simp [mput]; omega
theorem mput_get (l : List Mark) (x : Mark) (k i : Nat) (hi : i < l.length) : (mput l x k).getD i default = if i < k then mputF x (l.getD i default) else l.getD i default := by
  rw [getD_get (by rw [mput_len]; exact hi), getD_get hi]
  simp only [mput, List.getElem_append, List.length_map, List.length_take]
  by_cases h : i < k
  · rw [if_pos h, dif_pos (by omega)]; simp
  · rw [if_neg h, dif_neg (by omega)]
    simp only [List.getElem_drop]
    congr 1
    omega
theorem mput_step (l : List Mark) (x : Mark) (k i : Nat) (hi : i < l.length) (hk : k < l.length) (h : nm ((mput l x k).getD k default) x.pub x.key) :
    (if i = k then splice (gOf Mark.cells (mput l x k) k) 2 [.v (.int .i64 x.seq)] else gOf Mark.cells (mput l x k) i) = gOf Mark.cells (mput l x (k + 1)) i := by
  unfold gOf
  rw [mput_get l x (k + 1) i hi]
  by_cases e : i = k
  · subst e
    rw [mput_get l x i i hk, if_neg (Nat.lt_irrefl _)] at *
    rw [if_pos rfl, if_pos (Nat.lt_succ_self _), mputF, if_pos h]
    rfl
  · rw [if_neg e, mput_get l x k i hi]
    by_cases h1 : i < k
    · rw [if_pos h1, if_pos (by omega)]
    · rw [if_neg h1, if_neg (by omega)]
theorem mput_stay (l : List Mark) (x : Mark) (k i : Nat) (hi : i < l.length) (hk : k < l.length) (h : ¬ nm ((mput l x k).getD k default) x.pub x.key) : gOf Mark.cells (mput l x k) i = gOf Mark.cells (mput l x (k + 1)) i := by
  unfold gOf
  rw [mput_get l x (k + 1) i hi, mput_get l x k i hi]
  rw [mput_get l x k k hk, if_neg (Nat.lt_irrefl _)] at h
  by_cases e : i = k
  · subst e
    rw [if_neg (Nat.lt_irrefl _), if_pos (Nat.lt_succ_self _), mputF, if_neg h]
  · by_cases h1 : i < k
    · rw [if_pos h1, if_pos (by omega)]
    · rw [if_neg h1, if_neg (by omega)]
theorem mput_all {l : List Mark} (ha : l.Pairwise apart) (x : Mark) (h : markAt l x.pub x.key ≥ 0) : mput l x l.length = putM l x := by
  rcases putM_cases l x with ⟨-, h', -⟩ | ⟨i, hi, hn, -, e⟩
  · omega
  · rw [e]
    apply List.ext_getElem
    · simp [mput]
    · intro j h1 h2
      rw [mput_len] at h1
      have := mput_get l x l.length j h1
      rw [getD_get (by rw [mput_len]; exact h1), getD_get h1, if_pos h1] at this
      rw [this, List.getElem_set]
      unfold mputF
      by_cases e2 : i = j
      · subst e2
        rw [if_pos hn, if_pos rfl]
        obtain ⟨n1, n2⟩ := hn
        cases x; simp only [Mark.mk.injEq] at *; exact ⟨n1, n2, trivial⟩
      · rw [if_neg e2, if_neg]
        intro hn2
        have hp := List.pairwise_iff_getElem.1 ha
        rcases Nat.lt_or_gt_of_ne e2 with h3 | h3
        · exact hp i j hi h1 h3 ⟨hn.1.trans hn2.1.symm, hn.2.trans hn2.2.symm⟩
        · exact hp j i h1 hi h3 ⟨hn2.1.trans hn.1.symm, hn2.2.trans hn.2.symm⟩

theorem was_zero {s : Shard} (m : May s) (p : Int) (k : ByteArray) : lastOf s.marks p k = 0 ↔ markAt s.marks p k < 0 := by
  rw [markAt_neg, lastOf_eq m.apart]
  rcases lastSeq_cases s.marks p k with ⟨h1, h2⟩ | ⟨x, h1, h2, h3⟩
  · exact ⟨fun _ => h2, fun _ => h1⟩
  · have := mayMsg_le (m.marks x h1)
    have e : (markMsg x).seq = x.seq := rfl
    exact ⟨fun h => by omega, fun h => absurd h2 (h x h1)⟩

theorem put_eq (s : Shard) (l : List Msg) : putR s l = if (!mayShard s || !mayRow l) = true then (s, 1) else
    if lastOf s.marks (l.getD 0 default).pub (l.getD 0 default).key ≥ (lastMsg l).seq then (s, 8) else if lastOf s.marks (l.getD 0 default).pub (l.getD 0 default).key ≥ (l.getD 0 default).seq then (s, 1) else if s.frozen then (s, 6) else
    if (s.ready.length : Int) + s.held.length + l.length > 48 ∨ (lastOf s.marks (l.getD 0 default).pub (l.getD 0 default).key = 0 ∧ (s.marks.length : Int) ≥ 64) then (s, 4) else ({ s with ready := s.ready ++ l, marks := putM s.marks (markOf l) }, 0) := by
  have key : putE s l = if (!mayShard s || !mayRow l) = true then 1 else
      if lastOf s.marks (l.getD 0 default).pub (l.getD 0 default).key ≥ (lastMsg l).seq then 8 else if lastOf s.marks (l.getD 0 default).pub (l.getD 0 default).key ≥ (l.getD 0 default).seq then 1 else if s.frozen = true then 6 else
      if (s.ready.length : Int) + s.held.length + l.length > 48 ∨ (lastOf s.marks (l.getD 0 default).pub (l.getD 0 default).key = 0 ∧ (s.marks.length : Int) ≥ 64) then 4 else 0 := by
    unfold putE lastMsg
    dsimp only
    by_cases h1 : (!mayShard s || !mayRow l) = true
    · rw [if_pos h1, if_pos h1]
    rw [if_neg h1, if_neg h1]
    simp only [Bool.or_eq_true, Bool.not_eq_true', not_or, Bool.not_eq_false] at h1
    have m := (may_iff s).1 h1.1
    have hw := was_zero m (l.getD 0 default).pub (l.getD 0 default).key
    have hf := m.few
    simp only [decide_eq_true_eq]
    congr 3
    simp only [Bool.or_eq_true, decide_eq_true_eq, Bool.and_eq_true, beq_iff_eq, eq_iff_iff]
    congr 1
    simp only [eq_iff_iff]
    constructor
    · rintro (h | ⟨h, h'⟩)
      · exact .inl h
      · exact .inr ⟨hw.2 h, by omega⟩
    · rintro (h | ⟨h, h'⟩)
      · exact .inl h
      · exact .inr ⟨hw.1 h, by omega⟩
  have hok : putE s l = 0 → putS s l = { s with ready := s.ready ++ l, marks := putM s.marks (markOf l) } := by
    intro h
    have hr := (putE_zero h).row
    have e : (putS s l).marks = putM s.marks (markOf l) := by
      rw [putS_marks hr]
      obtain ⟨-, e2, e3, -⟩ := lastMsg_eq hr
      rw [e2, e3]; rfl
    rw [← e]; rfl
  unfold putR
  by_cases h0 : putE s l = 0
  · rw [if_pos h0, hok h0, h0]
    rw [h0] at key
    split at key
    · cases key
    split at key
    · cases key
    split at key
    · cases key
    split at key
    · cases key
    split at key
    · cases key
    rename_i g1 g2 g3 g4 g5
    rw [if_neg g1, if_neg g2, if_neg g3, if_neg g4, if_neg g5]
  · rw [if_neg h0]
    rw [key] at h0 ⊢
    split at h0
    · rename_i g; rw [if_pos g, if_pos g]
    split at h0
    · rename_i g1 g; rw [if_neg g1, if_pos g, if_neg g1, if_pos g]
    split at h0
    · rename_i g1 g2 g; rw [if_neg g1, if_neg g2, if_pos g, if_neg g1, if_neg g2, if_pos g]
    split at h0
    · rename_i g1 g2 g3 g; rw [if_neg g1, if_neg g2, if_neg g3, if_pos g, if_neg g1, if_neg g2, if_neg g3, if_pos g]
    split at h0
    · rename_i g1 g2 g3 g4 g; rw [if_neg g1, if_neg g2, if_neg g3, if_neg g4, if_pos g, if_neg g1, if_neg g2, if_neg g3, if_neg g4, if_pos g]
    · exact absurd rfl h0

theorem rput_p (s : Shard) (l : List Msg) (hs : s.small) : PFn Try.prog 38 [s.av, msgs l] (.tup [(putR s l).1.av, .v (.int .i64 (putR s l).2)]) := by
  have ⟨hs1, hs2, hs3⟩ := hs
  refine FnC.intro Try.func38 rfl Try.ntmps38 rfl ?_; intro off w0
  repeat refine S.seq ?_
  refine S.region ?_
  refine L.box 2 rfl rfl rfl rfl rfl trivial rfl fun b2 => ?_
  refine L.alloc (T := tt) 4 tt_ok rfl rfl rfl rfl rfl fun b4 => ?_
  (refine L.go (T := tt) tt_ok rfl rfl ?sd637 ?_; (try (case sd637 => (repeat' (first | exact trivial | with_reducible refine zI ?_ ?_)))); try (refine L.nil ?_))
  ((repeat refine S.seq ?_); refine S.region (L.go (T := tt) tt_ok rfl rfl ?sd619 ?_); (try (case sd619 => (repeat' (first | exact trivial | with_reducible refine zI ?_ ?_ | rfl | exact zN rfl)))); try (refine L.nil ?_))
  refine L.callP rfl rfl rfl rfl rfl rfl rfl ⟨trivial, by (repeat' (first | exact trivial | with_reducible refine zI ?_ ?_))⟩ rfl (Imps.refl _) (rmay_p _ (by assumption)) ?_
  (refine L.go (T := tt) tt_ok rfl rfl ?sd638 ?_; (try (case sd638 => (repeat' (first | exact trivial | exact zA | with_reducible refine zI ?_ ?_)))); try (refine L.nil ?_))
  refine L.callG rfl rfl rfl rfl rfl rfl rfl (fun _ => ⟨trivial, by (repeat' (first | exact trivial | with_reducible refine zI ?_ ?_ | omega))⟩) rfl (Imps.refl _) (fun _ => (rbatch_p _)) ?_
  (refine L.go (T := tt) tt_ok rfl rfl ?sd639 ?_; (try (case sd639 => (repeat' (first | exact trivial | with_reducible refine zI ?_ ?_ | exact zB | exact zC)))); try (refine L.nil ?_))
  ((repeat refine S.seq ?_); refine S.cond rfl (fun h1 => ?_) (fun h1 => ?_) <;> (try first | refine S.skip ?_ | refine S.exit ?_))
  · skip
    ((repeat refine S.seq ?_); refine S.region (L.go (T := tt) tt_ok rfl rfl ?sd620 ?_); (try (case sd620 => (repeat' (first | exact trivial | with_reducible refine zI ?_ ?_ | rfl | exact zN rfl)))); try (refine L.nil ?_))
    (refine L.store (T := tt) tt_ok rfl rfl rfl rfl rfl rfl ?sd652 ?_; (try (case sd652 => (repeat' (first | exact trivial | with_reducible refine zI ?_ ?_ | rfl | exact zN rfl)))))
    (refine L.go (T := tt) tt_ok rfl rfl ?sd640 ?_; (try (case sd640 => (repeat' (first | exact trivial | with_reducible refine zI ?_ ?_)))); try (refine L.nil ?_))
    (((repeat refine S.seq ?_); refine S.ret ?_); refine E.retP (T := tt) tt_ok rfl rfl (by (repeat' (first | exact trivial | with_reducible refine zI ?_ ?_ | rfl | exact zN rfl))) (Imp.of_eq ?_))
    rw [put_eq, if_pos h1]
    rfl
    -- HOLE 1
  have hmay : mayShard s = true := by simp only [Bool.or_eq_false_iff, Bool.not_eq_false'] at h1; exact h1.1
  have hrow : mayRow l = true := by simp only [Bool.or_eq_false_iff, Bool.not_eq_false'] at h1; exact h1.2
  have hlen := row_len hrow
  have hlens := mayShard_lens hmay
  have m := (may_iff s).1 hmay
  -- HOLE 2
  repeat refine S.seq ?_
  refine S.draw [(0, [2])] mixed ?_
  (refine H.ts (T := tt) [0, 1, 2, 3, 4, 5, 6, 7, 8, 10, 11, 12, 13, 14, 15, 16] tt_ok (by kernel_rfl) (by kernel_rfl) (by kernel_rfl) (by intro ch a a' w h; obtain ⟨_, _, _, _, _, h, _⟩ := h; cases h) rfl ?sd663 ?_; (try (case sd663 => (repeat' (first | exact trivial | with_reducible refine zI ?_ ?_ | rfl | exact zN rfl | omega | (unfold fits; omega))))))
  refine H.callP 9 rfl (by kernel_rfl) (by kernel_rfl) rfl rfl rfl rfl rfl rfl rfl ⟨trivial, by (repeat' (first | exact trivial | with_reducible refine zI ?_ ?_))⟩ rfl (by exact Imps.refl _) ((rlast_p _ _ _)) ?_
  (refine H.ts (T := tt) [17, 18] tt_ok (by kernel_rfl) (by kernel_rfl) (by kernel_rfl) (by intro ch a a' w h; obtain ⟨_, _, _, _, _, h, _⟩ := h; cases h) rfl ?sd664 ?_; (try (case sd664 => (repeat' (first | exact trivial | with_reducible refine zI ?_ ?_)))))
  refine H.done (by kernel_rfl) ?_
  repeat refine S.seq ?_
  refine S.block ?_
  ((repeat refine S.seq ?_); refine S.region (L.go (T := tt) tt_ok rfl rfl ?sd621 ?_); (try (case sd621 => (repeat' (first | exact trivial | with_reducible refine zI ?_ ?_)))); try (refine L.nil ?_))
  ((repeat refine S.seq ?_); refine S.cond rfl (fun h2 => ?_) (fun h2 => ?_) <;> (try first | refine S.skip ?_ | refine S.exit ?_))
  · skip
    ((repeat refine S.seq ?_); refine S.region (L.go (T := tt) tt_ok rfl rfl ?sd622 ?_); (try (case sd622 => (repeat' (first | exact trivial | with_reducible refine zI ?_ ?_ | rfl | exact zN rfl)))); try (refine L.nil ?_))
    (refine L.store (T := tt) tt_ok rfl rfl rfl rfl rfl rfl ?sd653 ?_; (try (case sd653 => (repeat' (first | exact trivial | with_reducible refine zI ?_ ?_ | rfl | exact zN rfl)))))
    (refine L.go (T := tt) tt_ok rfl rfl ?sd641 ?_; (try (case sd641 => (repeat' (first | exact trivial | with_reducible refine zI ?_ ?_)))); try (refine L.nil ?_))
    (((repeat refine S.seq ?_); refine S.ret ?_); refine E.retP (T := tt) tt_ok rfl rfl (by (repeat' (first | exact trivial | with_reducible refine zI ?_ ?_ | rfl | exact zN rfl))) (Imp.of_eq ?_))
    have h2' : lastOf s.marks (l.getD 0 default).pub (l.getD 0 default).key ≥ (lastMsg l).seq := of_dec h2
    rw [put_eq, if_neg (by simp_all), if_pos h2']
    rfl
    -- HOLE 3
  have h2' : ¬ lastOf s.marks (l.getD 0 default).pub (l.getD 0 default).key ≥ (lastMsg l).seq := of_dec' h2
  -- HOLE 4
  ((repeat refine S.seq ?_); refine S.region (L.go (T := tt) tt_ok rfl rfl ?sd623 ?_); (try (case sd623 => (repeat' (first | exact trivial | with_reducible refine zI ?_ ?_ | omega)))); try (refine L.nil ?_))
  ((repeat refine S.seq ?_); refine S.cond rfl (fun h3 => ?_) (fun h3 => ?_) <;> (try first | refine S.skip ?_ | refine S.exit ?_))
  · skip
    ((repeat refine S.seq ?_); refine S.region (L.go (T := tt) tt_ok rfl rfl ?sd624 ?_); (try (case sd624 => (repeat' (first | exact trivial | with_reducible refine zI ?_ ?_ | rfl | exact zN rfl)))); try (refine L.nil ?_))
    (refine L.store (T := tt) tt_ok rfl rfl rfl rfl rfl rfl ?sd654 ?_; (try (case sd654 => (repeat' (first | exact trivial | with_reducible refine zI ?_ ?_ | rfl | exact zN rfl)))))
    (refine L.go (T := tt) tt_ok rfl rfl ?sd642 ?_; (try (case sd642 => (repeat' (first | exact trivial | with_reducible refine zI ?_ ?_)))); try (refine L.nil ?_))
    (((repeat refine S.seq ?_); refine S.ret ?_); refine E.retP (T := tt) tt_ok rfl rfl (by (repeat' (first | exact trivial | with_reducible refine zI ?_ ?_ | rfl | exact zN rfl))) (Imp.of_eq ?_))
    have h3' : lastOf s.marks (l.getD 0 default).pub (l.getD 0 default).key ≥ (l.getD 0 default).seq := of_dec h3
    rw [put_eq, if_neg (by simp_all), if_neg h2', if_pos h3']
    rfl
    -- HOLE 5
  have h3' : ¬ lastOf s.marks (l.getD 0 default).pub (l.getD 0 default).key ≥ (l.getD 0 default).seq := of_dec' h3
  -- HOLE 6
  ((repeat refine S.seq ?_); refine S.region (L.go (T := tt) tt_ok rfl rfl ?sd625 ?_); (try (case sd625 => (repeat' (first | exact trivial | with_reducible refine zI ?_ ?_ | rfl)))); try (refine L.nil ?_))
  ((repeat refine S.seq ?_); refine S.cond rfl (fun h4 => ?_) (fun h4 => ?_) <;> (try first | refine S.skip ?_ | refine S.exit ?_))
  · skip
    ((repeat refine S.seq ?_); refine S.region (L.go (T := tt) tt_ok rfl rfl ?sd626 ?_); (try (case sd626 => (repeat' (first | exact trivial | with_reducible refine zI ?_ ?_ | rfl | exact zN rfl)))); try (refine L.nil ?_))
    (refine L.store (T := tt) tt_ok rfl rfl rfl rfl rfl rfl ?sd655 ?_; (try (case sd655 => (repeat' (first | exact trivial | with_reducible refine zI ?_ ?_ | rfl | exact zN rfl)))))
    (refine L.go (T := tt) tt_ok rfl rfl ?sd643 ?_; (try (case sd643 => (repeat' (first | exact trivial | with_reducible refine zI ?_ ?_)))); try (refine L.nil ?_))
    (((repeat refine S.seq ?_); refine S.ret ?_); refine E.retP (T := tt) tt_ok rfl rfl (by (repeat' (first | exact trivial | with_reducible refine zI ?_ ?_ | rfl | exact zN rfl))) (Imp.of_eq ?_))
    rw [put_eq, if_neg (by simp_all), if_neg h2', if_neg h3', if_pos h4]
    rfl
    -- HOLE 7
  -- HOLE 8
  ((repeat refine S.seq ?_); refine S.region (L.go (T := tt) tt_ok rfl rfl ?sd627 ?_); (try (case sd627 => (repeat' (first | exact trivial | exact zA | with_reducible refine zI ?_ ?_ | exact zB | exact zC | exact zE | rfl | (simp; done) | (simp; omega) | (unfold fits; omega))))); try (refine L.nil ?_))
  ((repeat refine S.seq ?_); refine S.cond rfl (fun h5 => ?_) (fun h5 => ?_) <;> (try first | refine S.skip ?_ | refine S.exit ?_))
  · skip
    ((repeat refine S.seq ?_); refine S.region (L.go (T := tt) tt_ok rfl rfl ?sd628 ?_); (try (case sd628 => (repeat' (first | exact trivial | with_reducible refine zI ?_ ?_ | rfl | exact zN rfl)))); try (refine L.nil ?_))
    (refine L.store (T := tt) tt_ok rfl rfl rfl rfl rfl rfl ?sd656 ?_; (try (case sd656 => (repeat' (first | exact trivial | with_reducible refine zI ?_ ?_ | rfl | exact zN rfl)))))
    (refine L.go (T := tt) tt_ok rfl rfl ?sd644 ?_; (try (case sd644 => (repeat' (first | exact trivial | with_reducible refine zI ?_ ?_)))); try (refine L.nil ?_))
    (((repeat refine S.seq ?_); refine S.ret ?_); refine E.retP (T := tt) tt_ok rfl rfl (by (repeat' (first | exact trivial | with_reducible refine zI ?_ ?_ | rfl | exact zN rfl))) (Imp.of_eq ?_))
    rw [put_eq, if_neg (by simp_all), if_neg h2', if_neg h3', if_neg (by simp_all), if_pos (by simpa only [Bool.or_eq_true, Bool.and_eq_true, decide_eq_true_eq, beq_iff_eq, Int.toNat_zero] using h5)]
    rfl
    -- HOLE 9
  have h5' : ¬ ((s.ready.length : Int) + s.held.length + l.length > 48 ∨ (lastOf s.marks (l.getD 0 default).pub (l.getD 0 default).key = 0 ∧ (s.marks.length : Int) ≥ 64)) := by
    intro h
    have : (decide ((s.ready.length : Int) + s.held.length + l.length > 48) || ((lastOf s.marks (l.getD 0 default).pub (l.getD 0 default).key == 0) && decide ((s.marks.length : Int) ≥ 64))) = true := by simpa only [Bool.or_eq_true, Bool.and_eq_true, decide_eq_true_eq, beq_iff_eq] using h
    exact bad this h5
  -- HOLE 10
  ((repeat refine S.seq ?_); refine S.region (L.go (T := tt) tt_ok rfl rfl ?sd629 ?_); (try (case sd629 => (repeat' (first | exact trivial | with_reducible refine zI ?_ ?_ | rfl | exact zN rfl)))); try (refine L.nil ?_))
  refine L.alloc (T := tt) 8 tt_ok rfl rfl rfl rfl rfl fun b8 => ?_
  (refine L.store (T := tt) tt_ok rfl rfl rfl rfl rfl rfl ?sd657 ?_; (try (case sd657 => (repeat' (first | exact trivial | with_reducible refine zI ?_ ?_ | rfl | exact zN rfl)))))
  refine L.nil ?_
  repeat refine S.seq ?_
  refine S.region ?_
  refine L.buildSlice (T := tt) 77 tt_ok rfl rfl rfl rfl rfl rfl (by decide) (by decide) rfl rfl (by (repeat' (first | exact trivial | with_reducible refine zI ?_ ?_))) fun x77 => ?_
  (refine L.go (T := tt) tt_ok rfl rfl ?sd645 ?_; (try (case sd645 => (repeat' (first | exact trivial | with_reducible refine zI ?_ ?_ | rfl)))); try (refine L.nil ?_))
  refine L.append (T := tt) tt_ok rfl rfl rfl rfl rfl rfl rfl rfl rfl rfl (by (repeat' (first | exact trivial | with_reducible refine zI ?_ ?_ | rfl))) ⟨rfl, by decide, by decide⟩ (by simp; omega) fun y80 => ?_
  (refine L.go (T := tt) tt_ok rfl rfl ?sd646 ?_; (try (case sd646 => (repeat' (first | exact trivial | with_reducible refine zI ?_ ?_)))); try (refine L.nil ?_))
  refine L.append (T := tt) tt_ok rfl rfl rfl rfl rfl rfl rfl rfl rfl rfl (by (repeat' (first | exact trivial | with_reducible refine zI ?_ ?_ | rfl))) ⟨rfl, by decide, by decide⟩ (by simp; omega) fun y82 => ?_
  (refine L.go (T := tt) tt_ok rfl rfl ?sd647 ?_; (try (case sd647 => (repeat' (first | exact trivial | with_reducible refine zI ?_ ?_)))); try (refine L.nil ?_))
  (refine L.store (T := tt) tt_ok rfl rfl rfl rfl rfl rfl ?sd658 ?_; (try (case sd658 => (repeat' (first | exact trivial | with_reducible refine zI ?_ ?_ | rfl | exact zN rfl)))))
  refine L.nil ?_
  repeat refine S.seq ?_
  refine S.region ?_
  refine L.buildSlice (T := tt) 84 tt_ok rfl rfl rfl rfl rfl rfl (by decide) (by decide) rfl rfl (by (repeat' (first | exact trivial | with_reducible refine zI ?_ ?_))) fun x84 => ?_
  (refine L.go (T := tt) tt_ok rfl rfl ?sd648 ?_; (try (case sd648 => (repeat' (first | exact trivial | with_reducible refine zI ?_ ?_ | rfl)))); try (refine L.nil ?_))
  refine L.append (T := tt) tt_ok rfl rfl rfl rfl rfl rfl rfl rfl rfl rfl (by (repeat' (first | exact trivial | with_reducible refine zI ?_ ?_ | rfl))) ⟨rfl, by decide, by decide⟩ (by simp; omega) fun y87 => ?_
  (refine L.go (T := tt) tt_ok rfl rfl ?sd649 ?_; (try (case sd649 => (repeat' (first | exact trivial | with_reducible refine zI ?_ ?_)))); try (refine L.nil ?_))
  (refine L.store (T := tt) tt_ok rfl rfl rfl rfl rfl rfl ?sd659 ?_; (try (case sd659 => (repeat' (first | exact trivial | with_reducible refine zI ?_ ?_ | rfl | exact zN rfl)))))
  refine L.nil ?_
  ((repeat refine S.seq ?_); refine S.region (L.go (T := tt) tt_ok rfl rfl ?sd630 ?_); (try (case sd630 => (repeat' (first | exact trivial | with_reducible refine zI ?_ ?_)))); try (refine L.nil ?_))
  ((repeat refine S.seq ?_); refine S.cond rfl (fun h6 => ?_) (fun h6 => ?_) <;> (try first | refine S.skip ?_ | refine S.exit ?_))
  · skip
    repeat refine S.seq ?_
    refine S.draw [(1, [8])] mixed ?_
    (refine H.ts (T := tt) [0, 1, 2, 3, 4, 5, 6, 7, 8, 9, 10, 11] tt_ok (by kernel_rfl) (by kernel_rfl) (by kernel_rfl) (by intro ch a a' w h; obtain ⟨_, _, _, _, _, h, _⟩ := h; cases h) rfl ?sd665 ?_; (try (case sd665 => (repeat' (first | exact trivial | with_reducible refine zI ?_ ?_ | rfl | exact zN rfl | omega)))))
    refine H.o1 12 rfl (by kernel_rfl) (by kernel_rfl) (O.buildSlice (T := tt) 103 tt_ok rfl rfl rfl rfl rfl rfl (by decide) (by decide) rfl rfl (by (repeat' (first | exact trivial | with_reducible refine zI ?_ ?_ | rfl | exact zN rfl)))) (.inr rfl) rfl fun x103 => ?_
    refine H.o1 13 rfl (by kernel_rfl) (by kernel_rfl) (O.append (T := tt) tt_ok rfl rfl rfl rfl rfl rfl rfl rfl rfl rfl (by (repeat' (first | exact trivial | with_reducible refine zI ?_ ?_ | rfl))) ⟨rfl, by decide, by decide⟩ (by simp; omega)) (.inl (by kernel_rfl)) (by kernel_rfl) fun y104 => ?_
    (refine H.ts (T := tt) [14] tt_ok (by kernel_rfl) (by kernel_rfl) (by kernel_rfl) (by intro ch a a' w h; obtain ⟨_, _, _, _, _, h, _⟩ := h; cases h) rfl ?sd666 ?_; (try (case sd666 => (repeat' (first | exact trivial | with_reducible refine zI ?_ ?_)))))
    (refine H.store (T := tt) 15 rfl (by kernel_rfl) (by kernel_rfl) tt_ok rfl rfl rfl rfl rfl rfl ?sd668 rfl (by kernel_rfl) ?_; (try (case sd668 => (repeat' (first | exact trivial | with_reducible refine zI ?_ ?_ | rfl | exact zN rfl)))))
    refine H.done (by kernel_rfl) ?_
    ((repeat refine S.seq ?_); refine S.region (L.go (T := tt) tt_ok rfl rfl ?sd631 ?_); (try (case sd631 => (repeat' (first | exact trivial | with_reducible refine zI ?_ ?_ | rfl | exact zN rfl)))); try (refine L.nil ?_))
    (refine L.store (T := tt) tt_ok rfl rfl rfl rfl rfl rfl ?sd660 ?_; (try (case sd660 => (repeat' (first | exact trivial | with_reducible refine zI ?_ ?_ | rfl | exact zN rfl)))))
    (refine L.go (T := tt) tt_ok rfl rfl ?sd650 ?_; (try (case sd650 => (repeat' (first | exact trivial | with_reducible refine zI ?_ ?_)))); try (refine L.nil ?_))
    ((repeat refine S.seq ?_); refine S.ret ?_)
    refine freezeCell 4 2 77 rfl rfl rfl rfl (freezeCell 4 4 84 rfl rfl rfl rfl ?_)
    refine E.retP (T := tt) tt_ok rfl rfl (by (repeat' (first | exact trivial | with_reducible refine zI ?_ ?_ | rfl | exact zN rfl))) ?_
    rw [put_eq, if_neg (by simp_all), if_neg h2', if_neg h3', if_neg (by simp_all), if_neg h5']
    have hneg := (was_zero m (l.getD 0 default).pub (l.getD 0 default).key).1 (by simpa using h6)
    rw [putM_new (x := markOf l) (markAt_neg.1 hneg)]
    refine Imp.tup ⟨Imp.agg ⟨Imp.refl _, Imp.refl _, Imp.lst (by simp) fun i hi => ?_, Imp.refl _, Imp.lst (by simp) fun i hi => ?_, trivial⟩, Imp.refl _, trivial⟩
    · simp only [joinG, Nat.zero_add, Nat.not_lt_zero, if_false, Nat.sub_zero, gOf, List.getD_eq_getElem?_getD, List.getElem?_append]
      split <;> rfl
    · exact app1_g _ _ (markOf l) _ _ rfl (by simp at hi; omega)
    -- HOLE 11
  refine ownAs 84 (gOf Mark.cells (mput s.marks (markOf l) 0)) rfl (Nat.zero_add _) (fun i hi => ?_) ?_
  · simp [joinG, mput]
  -- HOLE 12
  ((repeat refine S.seq ?_); refine S.region (L.go (T := tt) tt_ok rfl rfl ?sd632 ?_); (try (case sd632 => (repeat' (first | exact trivial | with_reducible refine zI ?_ ?_)))); try (refine L.nil ?_))
  repeat refine S.seq ?_
  refine S.block (S.loop (ι := { k : Nat // k ≤ s.marks.length }) (fun k => [(1, msgs l), (4, .ptr 4 b4 0), (7, .v (.int .i64 (lastMsg l).seq)), (8, .ptr 8 b8 0), (9, .v (.int .i64 k.1))])
    (fun k => [(84, .own y87 60 3 s.marks.length (gOf Mark.cells (mput s.marks (markOf l) k.1))), (77, .own y82 41 5 (0 + s.ready.length + l.length) (joinG (0 + s.ready.length) (joinG 0 (rowsOf 5 []) (gOf Msg.cells s.ready)) (gOf Msg.cells l))), (8, .blk b8 29 [.v (.bool s.frozen), .v (.int .i64 s.next), .ref 77 y82, helds s.held, .ref 84 y87]), (4, .blk b4 29 [.v (.bool false), .v (.int .i64 0), .v (.slice none 0 0), .v (.slice none 0 0), .v (.slice none 0 0)])]) (fun k => s.marks.length - k.1) ?_ ?_)
  · exact fun a w h => ⟨⟨0, Nat.zero_le _⟩, h.weak (by (repeat' (first | exact True.intro | exact Imp.refl _ | refine ⟨?_, ?_⟩))) (by (repeat (first | exact List.nil_sublist _ | refine List.Sublist.cons_cons _ ?_ | refine List.Sublist.cons _ ?_)))⟩
  rintro ⟨k, hk⟩
  dsimp only
  ((repeat refine S.seq ?_); refine S.region (L.go (T := tt) tt_ok rfl rfl ?sd633 ?_); (try (case sd633 => (repeat' (first | exact trivial | with_reducible refine zI ?_ ?_ | rfl)))); try (refine L.nil ?_))
  ((repeat refine S.seq ?_); refine S.cond rfl (fun h7 => ?_) (fun h7 => ?_) <;> (try first | refine S.skip ?_ | refine S.exit ?_))
  · have h7 := of_dec h7
    repeat refine S.seq ?_
    refine S.block ?_
    repeat refine S.seq ?_
    refine S.draw [(1, [8]), (5, [84]), (13, [8]), (17, [84])] mixed ?_
    (refine H.ts (T := tt) [0, 1, 2, 3, 4, 5, 6, 7, 8, 9, 10, 11, 12, 13, 14, 15, 16, 17, 18, 19, 20, 21, 22, 23] tt_ok (by kernel_rfl) (by kernel_rfl) (by kernel_rfl) (by intro ch a a' w h; obtain ⟨_, _, _, _, _, h, _⟩ := h; cases h) rfl ?sd667 ?_; (try (case sd667 => (repeat' (first | exact trivial | exact zA | with_reducible refine zI ?_ ?_ | exact zB | exact zC | exact zD | rfl | omega | (simp; done) | (simp; omega))))))
    refine H.done (by kernel_rfl) ?_
    refine S.cut (ι := Unit) (fun _ => [(1, msgs l), (4, .ptr 4 b4 0), (7, .v (.int .i64 (lastMsg l).seq)), (8, .ptr 8 b8 0), (9, .v (.int .i64 k))]) (fun _ => [(84, .own y87 60 3 s.marks.length (gOf Mark.cells (mput s.marks (markOf l) (k + 1)))), (77, .own y82 41 5 (0 + s.ready.length + l.length) (joinG (0 + s.ready.length) (joinG 0 (rowsOf 5 []) (gOf Msg.cells s.ready)) (gOf Msg.cells l))), (8, .blk b8 29 [.v (.bool s.frozen), .v (.int .i64 s.next), .ref 77 y82, helds s.held, .ref 84 y87]), (4, .blk b4 29 [.v (.bool false), .v (.int .i64 0), .v (.slice none 0 0), .v (.slice none 0 0), .v (.slice none 0 0)])]) ?_ ?_
    · ((repeat refine S.seq ?_); refine S.cond rfl (fun h8 => ?_) (fun h8 => ?_) <;> (try first | refine S.skip ?_ | refine S.exit ?_))
      · skip
        ((repeat refine S.seq ?_); refine S.region (L.go (T := tt) tt_ok rfl rfl ?sd634 ?_); (try (case sd634 => (repeat' (first | exact trivial | with_reducible refine zI ?_ ?_ | rfl | omega)))); try (refine L.nil ?_))
        (refine L.store (T := tt) tt_ok rfl rfl rfl rfl rfl rfl ?sd661 ?_; (try (case sd661 => (repeat' (first | exact trivial | with_reducible refine zI ?_ ?_ | rfl | exact zN rfl | omega)))))
        refine L.nil ?_
        refine ownAs 84 (gOf Mark.cells (mput s.marks (markOf l) (k + 1))) rfl rfl (fun i hi => ?_) ?_
        · exact mput_step s.marks (markOf l) k i hi (by omega) ((nm_b _ _ _).1 h8)
        exact fun a w hR => ⟨(), hR.weak (by (repeat' (first | exact True.intro | exact Imp.refl _ | refine ⟨?_, ?_⟩))) (by (repeat (first | exact List.nil_sublist _ | refine List.Sublist.cons_cons _ ?_ | refine List.Sublist.cons _ ?_)))⟩
      · skip
        refine ownAs 84 (gOf Mark.cells (mput s.marks (markOf l) (k + 1))) rfl rfl (fun i hi => ?_) ?_
        · exact mput_stay s.marks (markOf l) k i hi (by omega) (fun e => bad ((nm_b _ _ _).2 e) h8)
        exact fun a w hR => ⟨(), hR.weak (by (repeat' (first | exact True.intro | exact Imp.refl _ | refine ⟨?_, ?_⟩))) (by (repeat (first | exact List.nil_sublist _ | refine List.Sublist.cons_cons _ ?_ | refine List.Sublist.cons _ ?_)))⟩
    rintro ⟨⟩
    ((repeat refine S.seq ?_); refine S.region (L.go (T := tt) tt_ok rfl rfl ?sd635 ?_); (try (case sd635 => (repeat' (first | exact trivial | with_reducible refine zI ?_ ?_ | (unfold fits; omega))))); try (refine L.nil ?_))
    exact fun a w hR => ⟨⟨k + 1, by omega⟩, by simp only; omega, hR.weak (by (repeat' (first | exact True.intro | exact Imp.refl _ | refine ⟨?_, ?_⟩))) (by (repeat (first | exact List.nil_sublist _ | refine List.Sublist.cons_cons _ ?_ | refine List.Sublist.cons _ ?_)))⟩
  · have h7 := of_dec' h7
    -- HOLE 13
    ((repeat refine S.seq ?_); refine S.region (L.go (T := tt) tt_ok rfl rfl ?sd636 ?_); (try (case sd636 => (repeat' (first | exact trivial | with_reducible refine zI ?_ ?_ | rfl | exact zN rfl)))); try (refine L.nil ?_))
    (refine L.store (T := tt) tt_ok rfl rfl rfl rfl rfl rfl ?sd662 ?_; (try (case sd662 => (repeat' (first | exact trivial | with_reducible refine zI ?_ ?_ | rfl | exact zN rfl)))))
    (refine L.go (T := tt) tt_ok rfl rfl ?sd651 ?_; (try (case sd651 => (repeat' (first | exact trivial | with_reducible refine zI ?_ ?_)))); try (refine L.nil ?_))
    ((repeat refine S.seq ?_); refine S.ret ?_)
    refine freezeCell 4 2 77 rfl rfl rfl rfl (freezeCell 4 4 84 rfl rfl rfl rfl ?_)
    refine E.retP (T := tt) tt_ok rfl rfl (by (repeat' (first | exact trivial | with_reducible refine zI ?_ ?_ | rfl | exact zN rfl))) ?_
    rw [put_eq, if_neg (by simp_all), if_neg h2', if_neg h3', if_neg (by simp_all), if_neg h5']
    have hpos : markAt s.marks (markOf l).pub (markOf l).key ≥ 0 := by
      have := (was_zero m (l.getD 0 default).pub (l.getD 0 default).key).2
      by_cases h : markAt s.marks (l.getD 0 default).pub (l.getD 0 default).key < 0
      · have h6' : (lastOf s.marks (l.getD 0 default).pub (l.getD 0 default).key == 0) = true := by rw [this h]; rfl
        exact (bad h6' h6).elim
      · show markAt s.marks (l.getD 0 default).pub (l.getD 0 default).key ≥ 0
        omega
    rw [← mput_all m.apart _ hpos]
    have hk0 : k = s.marks.length := by omega
    subst hk0
    refine Imp.tup ⟨Imp.agg ⟨Imp.refl _, Imp.refl _, Imp.lst (by simp) fun i hi => ?_, Imp.refl _, Imp.lst (mput_len _ _ _).symm fun i hi => rfl, trivial⟩, Imp.refl _, trivial⟩
    · simp only [joinG, Nat.zero_add, Nat.not_lt_zero, if_false, Nat.sub_zero, gOf, List.getD_eq_getElem?_getD, List.getElem?_append]
      split <;> rfl
    
    -- HOLE 14

end Go.Proofs.Ytlbbcjlhnjnkeaa

/- Steps of a shard. -/
namespace Go.Proofs.Ytlbbcjlhnjnkeaa
set_option linter.unusedVariables false
set_option linter.unusedSimpArgs false
set_option maxHeartbeats 8000000
open Go.RowKit
set_option maxRecDepth 4000

/-- A key: one of six. -/
def nameK (k : Int) : ByteArray := (⟨#[97, 98, 99, 100, 101, 102]⟩ : ByteArray).extract (k.tmod 6).toNat (k.tmod 6 + 1).toNat

structure OpD where
  kind : Int
  pub : Int
  key : Int
  many : Int
  n : Int
  l : List Msg
instance : Inhabited OpD := ⟨⟨0, 0, 0, 0, 0, []⟩⟩
def OpD.cells (o : OpD) : List AV := [.v (.int .i64 o.kind), .v (.int .i64 o.pub), .v (.int .i64 o.key), .v (.int .i64 o.many), .v (.int .i64 o.n), msgs o.l]
def OpD.av (o : OpD) : AV := .agg o.cells
/-- 'int(uint(n) % m)'. -/
def uM (n m : Int) : Int := IntKind.i64.wrap ((IntKind.u64.wrap n).tmod m)
theorem uM_lt (n m : Int) (hm : 0 < m) (h2 : m ≤ 4611686018427387904) : 0 ≤ uM n m ∧ uM n m < m := by
  obtain ⟨K, h1, h2⟩ := umod n m hm h2
  unfold uM
  omega
/-- The batch behind the last one. -/
def nextG (s : Shard) (o : OpD) (k : Nat) : List Msg := (List.range k).map fun (i : Nat) => ⟨uM o.pub 4, lastOf s.marks (uM o.pub 4) (nameK (uM o.key 6)) + 1 + (i : Int), nameK (uM o.key 6), ⟨#[120]⟩, false⟩
def nextL (s : Shard) (o : OpD) : List Msg := nextG s o ((uM o.many 3).toNat + 1)

theorem nextG_succ (s : Shard) (o : OpD) (k : Nat) : nextG s o (k + 1) = nextG s o k ++ [⟨uM o.pub 4, lastOf s.marks (uM o.pub 4) (nameK (uM o.key 6)) + 1 + k, nameK (uM o.key 6), ⟨#[120]⟩, false⟩] := by simp [nextG, List.range_succ]

theorem name_p (k : Int) (h0 : 0 ≤ k) (h1 : k ≤ 1000) : PFn Try.prog 36 [.v (.int .i64 k)] (.v (.string (nameK k))) := by
  have hm1 : 0 ≤ k.tmod 6 := by rw [Int.tmod_eq_emod_of_nonneg h0]; omega
  have hm2 : k.tmod 6 < 6 := by rw [Int.tmod_eq_emod_of_nonneg h0]; omega
  have e6 : (ByteArray.mk #[97, 98, 99, 100, 101, 102]).size = 6 := rfl
  refine FnC.intro Try.func36 rfl Try.ntmps36 rfl ?_; intro off w0
  ((repeat refine S.seq ?_); refine S.region (L.go (T := tt) tt_ok rfl rfl ?sd669 ?_); (try (case sd669 => (repeat' (first | exact trivial | with_reducible refine zI ?_ ?_)))); try (refine L.nil ?_))
  ((repeat refine S.seq ?_); refine S.region (L.go (T := tt) tt_ok rfl rfl ?sd670 ?_); (try (case sd670 => (repeat' (first | exact trivial | with_reducible refine zI ?_ ?_ | omega | (unfold fits; omega))))); try (refine L.nil ?_))
  (((repeat refine S.seq ?_); refine S.ret ?_); refine E.retP (T := tt) tt_ok rfl rfl (by (repeat' (first | exact trivial | with_reducible refine zI ?_ ?_))) (Imp.of_eq ?_))
  rfl

theorem next_p (s : Shard) (o : OpD) (hl : lastOf s.marks (uM o.pub 4) (nameK (uM o.key 6)) ≤ 4611686018427387904 ∧ -4611686018427387904 ≤ lastOf s.marks (uM o.pub 4) (nameK (uM o.key 6))) : PFn Try.prog 16 [s.av, o.av] (msgs (nextL s o)) := by
  have hp := uM_lt o.pub 4 (by decide) (by decide)
  have hq := uM_lt o.key 6 (by decide) (by decide)
  have hm := uM_lt o.many 3 (by decide) (by decide)
  have hme : IntKind.i64.wrap ((IntKind.u64.wrap o.many).tmod 3) = uM o.many 3 := rfl
  refine FnC.intro Try.func16 rfl Try.ntmps16 rfl ?_; intro off w0
  repeat refine S.seq ?_
  refine S.region ?_
  refine L.box 2 rfl rfl rfl rfl rfl trivial rfl fun b2 => ?_
  refine L.box 3 rfl rfl rfl rfl rfl trivial rfl fun b3 => ?_
  (refine L.go (T := tt) tt_ok rfl rfl ?sd677 ?_; (try (case sd677 => (repeat' (first | exact trivial | with_reducible refine zI ?_ ?_)))); try (refine L.nil ?_))
  repeat refine S.seq ?_
  refine S.draw [(1, [3]), (6, [3])] mixed ?_
  (refine H.ts (T := tt) [0, 1, 2, 3, 4, 5, 6, 7, 8, 9, 10, 11] tt_ok (by kernel_rfl) (by kernel_rfl) (by kernel_rfl) (by intro ch a a' w h; obtain ⟨_, _, _, _, _, h, _⟩ := h; cases h) rfl ?sd680 ?_; (try (case sd680 => (repeat' (first | exact trivial | with_reducible refine zI ?_ ?_ | rfl | omega)))))
  refine H.done (by kernel_rfl) ?_
  repeat refine S.seq ?_
  refine S.draw [(0, [2])] mixed ?_
  (refine H.ts (T := tt) [0, 1, 2] tt_ok (by kernel_rfl) (by kernel_rfl) (by kernel_rfl) (by intro ch a a' w h; obtain ⟨_, _, _, _, _, h, _⟩ := h; cases h) rfl ?sd681 ?_; (try (case sd681 => (repeat' (first | exact trivial | with_reducible refine zI ?_ ?_ | rfl | exact zN rfl)))))
  refine H.callP 3 rfl (by kernel_rfl) (by kernel_rfl) rfl rfl rfl rfl rfl rfl rfl ⟨trivial, by (repeat' (first | exact trivial | with_reducible refine zI ?_ ?_))⟩ rfl (by exact Imps.refl _) ((name_p (uM o.key 6) hq.1 (by omega))) ?_
  refine H.callP 4 rfl (by kernel_rfl) (by kernel_rfl) rfl rfl rfl rfl rfl rfl rfl ⟨trivial, by (repeat' (first | exact trivial | with_reducible refine zI ?_ ?_))⟩ rfl (by exact Imps.refl _) ((rlast_p s (uM o.pub 4) (nameK (uM o.key 6)))) ?_
  (refine H.ts (T := tt) [5] tt_ok (by kernel_rfl) (by kernel_rfl) (by kernel_rfl) (by intro ch a a' w h; obtain ⟨_, _, _, _, _, h, _⟩ := h; cases h) rfl ?sd682 ?_; (try (case sd682 => (repeat' (first | exact trivial | with_reducible refine zI ?_ ?_)))))
  refine H.done (by kernel_rfl) ?_
  ((repeat refine S.seq ?_); refine S.region (L.go (T := tt) tt_ok rfl rfl ?sd671 ?_); (try (case sd671 => (repeat' (first | exact trivial | with_reducible refine zI ?_ ?_)))); try (refine L.nil ?_))
  refine nilRow 8 41 5 (gOf Msg.cells (nextG s o 0)) (slotAs 8 (.ref 8 (.slice none 0 0)) rfl (Imp.vref rfl) ?_)
  ((repeat refine S.seq ?_); refine S.region (L.go (T := tt) tt_ok rfl rfl ?sd672 ?_); (try (case sd672 => (repeat' (first | exact trivial | with_reducible refine zI ?_ ?_)))); try (refine L.nil ?_))
  repeat refine S.seq ?_
  refine S.block (S.loop (ι := { k : Nat × Value // k.1 ≤ (uM o.many 3).toNat + 1 }) (fun k => [(3, .ptr 3 b3 0), (5, .v (.int .i64 (uM o.pub 4))), (6, .v (.int .i64 (uM o.key 6))), (7, .v (.int .i64 (lastOf s.marks (uM o.pub 4) (nameK (uM o.key 6))))), (8, .ref 8 k.1.2), (9, .v (.int .i64 k.1.1))])
    (fun k => [(8, .own k.1.2 41 5 k.1.1 (gOf Msg.cells (nextG s o k.1.1))), (3, .blk b3 51 o.cells)]) (fun k => (uM o.many 3).toNat + 1 - k.1.1) ?_ ?_)
  · exact fun a w h => ⟨⟨(0, _), Nat.zero_le _⟩, h.weak (by (repeat' (first | exact True.intro | exact Imp.refl _ | refine ⟨?_, ?_⟩))) (by (repeat (first | exact List.nil_sublist _ | refine List.Sublist.cons_cons _ ?_ | refine List.Sublist.cons _ ?_)))⟩
  rintro ⟨⟨k, y⟩, hk⟩
  dsimp only at hk ⊢
  ((repeat refine S.seq ?_); refine S.region (L.go (T := tt) tt_ok rfl rfl ?sd673 ?_); (try (case sd673 => (repeat' (first | exact trivial | with_reducible refine zI ?_ ?_ | rfl | omega)))); try (refine L.nil ?_))
  ((repeat refine S.seq ?_); refine S.cond rfl (fun h1 => ?_) (fun h1 => ?_) <;> (try first | refine S.skip ?_ | refine S.exit ?_))
  · have h1 := of_dec h1
    repeat refine S.seq ?_
    refine S.block ?_
    ((repeat refine S.seq ?_); refine S.region (L.go (T := tt) tt_ok rfl rfl ?sd674 ?_); (try (case sd674 => (repeat' (first | exact trivial | with_reducible refine zI ?_ ?_ | (unfold fits; omega))))); try (refine L.nil ?_))
    refine L.callP rfl rfl rfl rfl rfl rfl rfl ⟨trivial, by (repeat' (first | exact trivial | with_reducible refine zI ?_ ?_))⟩ rfl (Imps.refl _) (name_p (uM o.key 6) hq.1 (by omega)) ?_
    (refine L.go (T := tt) tt_ok rfl rfl ?sd678 ?_; (try (case sd678 => (repeat' (first | exact trivial | with_reducible refine zI ?_ ?_ | rfl | exact zN rfl)))); try (refine L.nil ?_))
    refine L.buildSlice (T := tt) 43 tt_ok rfl rfl rfl rfl rfl rfl (by decide) (by decide) rfl rfl (by (repeat' (first | exact trivial | with_reducible refine zI ?_ ?_ | rfl | exact zN rfl))) fun x43 => ?_
    refine L.append (T := tt) tt_ok rfl rfl rfl rfl rfl rfl rfl rfl rfl rfl (by (repeat' (first | exact trivial | with_reducible refine zI ?_ ?_ | rfl))) ⟨rfl, by decide, by decide⟩ (by simp; omega) fun y44 => ?_
    (refine L.go (T := tt) tt_ok rfl rfl ?sd679 ?_; (try (case sd679 => (repeat' (first | exact trivial | with_reducible refine zI ?_ ?_)))); try (refine L.nil ?_))
    refine ownAs 8 (gOf Msg.cells (nextG s o (k + 1))) rfl rfl (fun i hi => ?_) ?_
    · rw [nextG_succ]
      refine app1_h Msg.cells (nextG s o k) _ _ ?_ ?_ hi
      · simp [nextG]
      · rfl
    ((repeat refine S.seq ?_); refine S.region (L.go (T := tt) tt_ok rfl rfl ?sd675 ?_); (try (case sd675 => (repeat' (first | exact trivial | with_reducible refine zI ?_ ?_ | (unfold fits; omega))))); try (refine L.nil ?_))
    exact fun a w hR => ⟨⟨(k + 1, y44), by show k + 1 ≤ _; omega⟩, by show (uM o.many 3).toNat + 1 - (k + 1) < (uM o.many 3).toNat + 1 - k; omega, hR.weak (by (repeat' (first | exact True.intro | exact Imp.refl _ | refine ⟨?_, ?_⟩))) (by (repeat (first | exact List.nil_sublist _ | refine List.Sublist.cons_cons _ ?_ | refine List.Sublist.cons _ ?_)))⟩
  · have h1 := of_dec' h1
    -- HOLE 1
    ((repeat refine S.seq ?_); refine S.region (L.go (T := tt) tt_ok rfl rfl ?sd676 ?_); (try (case sd676 => (repeat' (first | exact trivial | with_reducible refine zI ?_ ?_)))); try (refine L.nil ?_))
    refine freezeSlot 4 8 rfl rfl rfl ?_
    (((repeat refine S.seq ?_); refine S.ret ?_); refine E.retP (T := tt) tt_ok rfl rfl (by (repeat' (first | exact trivial | with_reducible refine zI ?_ ?_))) ?_)
    have hk0 : k = (uM o.many 3).toNat + 1 := by omega
    subst hk0
    exact Imp.lst (by simp [nextL, nextG]) fun i hi => rfl

end Go.Proofs.Ytlbbcjlhnjnkeaa
