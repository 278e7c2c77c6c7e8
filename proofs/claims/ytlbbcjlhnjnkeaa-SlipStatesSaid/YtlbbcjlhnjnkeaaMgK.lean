/- Texts of this proof, laid together: SlD, SlE, SlF. -/
import Derived.Test.YtlbbcjlhnjnkeaaMgJ
import Derived.Test.YtlbbcjlhnjnkeaaMgC
import Derived.Test.YtlbbcjlhnjnkeaaMgI
/- Which records may be. -/
namespace Go.Proofs.Ytlbbcjlhnjnkeaa
set_option linter.unusedVariables false
set_option linter.unusedSimpArgs false
set_option maxHeartbeats 8000000
open Go.RowKit
set_option maxRecDepth 4000

structure RecOk (r : RecD) : Prop where
  back : r.back = false
  shard : r.kind ≠ 7 → r.shard = shard0
  batch : r.kind ≠ 1 → r.batch = []
  small : r.shard.small
def mayRec (r : RecD) : Bool :=
  if r.kind = 1 then r.tag == 0 && decide ((r.batch.length : Int) ≥ 1) && decide ((r.batch.length : Int) ≤ 8) && r.batch.all mayMsg
  else if r.kind = 2 ∨ r.kind = 3 ∨ r.kind = 4 then decide (r.tag ≥ 1) && decide (r.tag ≤ 1073741824)
  else if r.kind = 5 ∨ r.kind = 6 then r.tag == 0
  else if r.kind = 7 then r.tag == 0 && mayShard r.shard else false

theorem shard0_imp : Imp (.agg [.v (.bool false), .v (.int .i64 0), .v (.slice none 0 0), .v (.slice none 0 0), .v (.slice none 0 0)]) shard0.av := Imp.agg ⟨Imp.refl _, Imp.refl _, Imp.nil _ _, Imp.nil _ _, Imp.nil _ _, trivial⟩

theorem none_p (s : Shard) : PFn Try.prog 30 [s.av] (.v (.bool (same s shard0))) := by
  refine FnC.intro Try.func30 rfl Try.ntmps30 rfl ?_; intro off w0
  repeat refine S.seq ?_
  refine S.region ?_
  refine L.box 1 rfl rfl rfl rfl rfl trivial rfl fun b1 => ?_
  (refine L.go (T := tt) tt_ok rfl rfl ?sd102 ?_; (try (case sd102 => (repeat' (first | exact trivial | with_reducible refine zI ?_ ?_)))); try (refine L.nil ?_))
  ((repeat refine S.seq ?_); refine S.region (L.go (T := tt) tt_ok rfl rfl ?sd63 ?_); (try (case sd63 => (repeat' (first | exact trivial | with_reducible refine zI ?_ ?_ | rfl | exact zN rfl)))); try (refine L.nil ?_))
  refine L.callP rfl rfl rfl rfl rfl rfl rfl ⟨trivial, by (repeat' (first | exact trivial | with_reducible refine zI ?_ ?_))⟩ rfl (Bs := [s.av, shard0.av]) (by exact ⟨Imp.refl _, shard0_imp, trivial⟩) (same_p s shard0) ?_
  (refine L.go (T := tt) tt_ok rfl rfl ?sd103 ?_; (try (case sd103 => (repeat' (first | exact trivial | with_reducible refine zI ?_ ?_)))); try (refine L.nil ?_))
  ((repeat refine S.seq ?_); refine S.ret ?_)
  exact E.retP (T := tt) tt_ok rfl rfl (by (repeat' (first | exact trivial | with_reducible refine zI ?_ ?_))) (Imp.refl _)

theorem may1_p (m : Msg) : PFn Try.prog 32 [m.av] (.v (.bool (!mayMsg m))) := by
  refine FnC.intro Try.func32 rfl Try.ntmps32 rfl ?_; intro off w0
  repeat refine S.seq ?_
  refine S.region ?_
  refine L.box 1 rfl rfl rfl rfl rfl trivial rfl fun b1 => ?_
  (refine L.go (T := tt) tt_ok rfl rfl ?sd104 ?_; (try (case sd104 => (repeat' (first | exact trivial | with_reducible refine zI ?_ ?_)))); try (refine L.nil ?_))
  ((repeat refine S.seq ?_); refine S.region (L.go (T := tt) tt_ok rfl rfl ?sd64 ?_); (try (case sd64 => (repeat' (first | exact trivial | with_reducible refine zI ?_ ?_ | rfl | exact zN rfl)))); try (refine L.nil ?_))
  refine L.callP rfl rfl rfl rfl rfl rfl rfl ⟨trivial, by (repeat' (first | exact trivial | with_reducible refine zI ?_ ?_))⟩ rfl (Imps.refl _) (mayMsg_p m) ?_
  (refine L.go (T := tt) tt_ok rfl rfl ?sd105 ?_; (try (case sd105 => (repeat' (first | exact trivial | with_reducible refine zI ?_ ?_)))); try (refine L.nil ?_))
  ((repeat refine S.seq ?_); refine S.ret ?_)
  exact E.retP (T := tt) tt_ok rfl rfl (by (repeat' (first | exact trivial | with_reducible refine zI ?_ ?_))) (Imp.refl _)

def nayAt (l : List Msg) : Int := pidx (fun i => !mayMsg (l.getD i default)) l.length
theorem nay_all (l : List Msg) : (!decide (nayAt l ≥ 0)) = l.all mayMsg := by
  unfold nayAt
  rcases pidx_cases (fun i => !mayMsg (l.getD i default)) l.length with ⟨h, hn⟩ | ⟨k, hk, hp, -, h⟩
  · rw [h]
    symm
    show l.all mayMsg = true
    rw [List.all_eq_true]
    intro x hx
    obtain ⟨j, hj, rfl⟩ := List.mem_iff_getElem.1 hx
    have := hn j hj
    rw [getD_get hj] at this
    simpa using this
  · rw [h]
    have : l.all mayMsg = false := by
      rw [List.all_eq_false]
      rw [getD_get hk] at hp
      exact ⟨l[k], List.getElem_mem hk, by simpa using hp⟩
    rw [this]
    simp
theorem has_p (l : List Msg) : PFn Try.prog 31 [msgs l, .fn (.func 32) []] (.v (.bool (decide (nayAt l ≥ 0)))) := by
  refine FnC.intro Try.func31 rfl Try.ntmps31 rfl ?_; intro off w0
  ((repeat refine S.seq ?_); refine S.region (L.go (T := tt) tt_ok rfl rfl ?sd65 ?_); (try (case sd65 => (repeat' (first | exact trivial | with_reducible refine zI ?_ ?_)))); try (refine L.nil ?_))
  ((repeat refine S.seq ?_); refine S.region (L.go (T := tt) tt_ok rfl rfl ?sd66 ?_); (try (case sd66 => (repeat' (first | exact trivial | with_reducible refine zI ?_ ?_)))); try (refine L.nil ?_))
  refine L.callP rfl rfl rfl rfl rfl rfl rfl ⟨trivial, by (repeat' (first | exact trivial | with_reducible refine zI ?_ ?_))⟩ rfl (Imps.refl [msgs l, .fn (.func 32) []]) (IdxMsg (fun i => !mayMsg (l.getD i default)) rfl (fun i hi => rfl) (fun i hi => may1_p _)) ?_
  (refine L.go (T := tt) tt_ok rfl rfl ?sd106 ?_; (try (case sd106 => (repeat' (first | exact trivial | with_reducible refine zI ?_ ?_)))); try (refine L.nil ?_))
  ((repeat refine S.seq ?_); refine S.ret ?_)
  exact E.retP (T := tt) tt_ok rfl rfl (by (repeat' (first | exact trivial | with_reducible refine zI ?_ ?_))) (Imp.refl _)

theorem shard0_same : same shard0 shard0 = true := by rw [same_eq]; simp
theorem RecOk.first {r : RecD} (h : RecOk r) {n : Int} (hn : n = r.batch.length) : ((r.kind != 1 && decide (n > 0)) || (r.kind != 7 && !same r.shard shard0)) = false := by
  subst hn
  rw [Bool.or_eq_false_iff]
  constructor
  · by_cases hk : r.kind = 1
    · simp [hk]
    · simp [h.batch hk]
  · by_cases hk : r.kind = 7
    · simp [hk]
    · rw [h.shard hk, shard0_same]; simp

theorem of_beq {a b : Int} (h : (a == b) = true) : a = b := eq_of_beq h
theorem of_nbeq {a b : Int} (h : (a == b) = false) : a ≠ b := beq_eq_false_iff_ne.1 h
theorem beq_no {a b : Int} (h : a ≠ b) : (a == b) = false := beq_eq_false_iff_ne.2 h

theorem slipmay_p (r : RecD) (h : RecOk r) : PFn Try.prog 14 [r.av] (.v (.bool (mayRec r))) := by
  have hs := h.small
  refine FnC.intro Try.func14 rfl Try.ntmps14 rfl ?_; intro off w0
  repeat refine S.seq ?_
  refine S.region ?_
  refine L.box 1 rfl rfl rfl rfl rfl trivial rfl fun b1 => ?_
  (refine L.go (T := tt) tt_ok rfl rfl ?sd107 ?_; (try (case sd107 => (repeat' (first | exact trivial | with_reducible refine zI ?_ ?_)))); try (refine L.nil ?_))
  ((repeat refine S.seq ?_); refine S.region (L.go (T := tt) tt_ok rfl rfl ?sd67 ?_); (try (case sd67 => (repeat' (first | exact trivial | exact zA | with_reducible refine zI ?_ ?_ | exact zB | exact zC | exact zE | rfl | exact zN rfl | omega | (simp; done) | intro _)))); try (refine L.nil ?_))
  refine L.callG rfl rfl rfl rfl rfl rfl rfl (fun hb => ⟨trivial, hb, trivial⟩) rfl (by exact Imps.refl [r.shard.av]) (fun _ => none_p r.shard) ?_
  (refine L.go (T := tt) tt_ok rfl rfl ?sd108 ?_; (try (case sd108 => (repeat' (first | exact trivial | exact zA | with_reducible refine zI ?_ ?_ | exact zB | exact zC | exact zE | omega | (simp; done) | intro _)))); try (refine L.nil ?_))
  · simp
    exact ⟨fun a => ⟨a, fun b => ⟨(Classical.em _).imp id a, b⟩⟩, fun a b => ⟨⟨a, b⟩, fun c => ⟨⟨(Classical.em _).imp id a, (Classical.em _).imp id b⟩, c⟩⟩⟩
  have hf := h.first (n := r.batch.length) rfl
  ((repeat refine S.seq ?_); refine S.cond rfl (fun h0 => ?_) (fun h0 => ?_) <;> (try first | refine S.skip ?_ | refine S.exit ?_))
  · exfalso
    rw [hf, h.back] at h0
    simp at h0
  ((repeat refine S.seq ?_); refine S.region (L.go (T := tt) tt_ok rfl rfl ?sd68 ?_); (try (case sd68 => (repeat' (first | exact trivial | with_reducible refine zI ?_ ?_ | rfl)))); try (refine L.nil ?_))
  repeat refine S.seq ?_
  refine S.block ?_
  ((repeat refine S.seq ?_); refine S.region (L.go (T := tt) tt_ok rfl rfl ?sd69 ?_); (try (case sd69 => (repeat' (first | exact trivial | with_reducible refine zI ?_ ?_)))); try (refine L.nil ?_))
  ((repeat refine S.seq ?_); refine S.cond rfl (fun k1 => ?_) (fun k1 => ?_) <;> (try first | refine S.skip ?_ | refine S.exit ?_))
  · have k1 := of_beq k1
    ((repeat refine S.seq ?_); refine S.region (L.go (T := tt) tt_ok rfl rfl ?sd70 ?_); (try (case sd70 => (repeat' (first | exact trivial | exact zA | with_reducible refine zI ?_ ?_ | exact zB | exact zC | exact zE | rfl | (simp; done))))); try (refine L.nil ?_))
    refine L.callG rfl rfl rfl rfl rfl rfl rfl (fun hb => ⟨trivial, hb, trivial, trivial⟩) rfl (by exact Imps.refl [msgs r.batch, .fn (.func 32) []]) (fun _ => has_p r.batch) ?_
    (refine L.go (T := tt) tt_ok rfl rfl ?sd109 ?_; (try (case sd109 => (repeat' (first | exact trivial | with_reducible refine zI ?_ ?_ | exact zB | exact zC)))); try (refine L.nil ?_))
    ((repeat refine S.seq ?_); refine S.ret ?_)
    refine E.retP (T := tt) tt_ok rfl rfl (by (repeat' (first | exact trivial | with_reducible refine zI ?_ ?_))) (Imp.of_eq ?_)
    rw [mayRec, if_pos k1, ← nay_all]
    rfl
  have k1 := of_nbeq k1
  ((repeat refine S.seq ?_); refine S.region (L.go (T := tt) tt_ok rfl rfl ?sd71 ?_); (try (case sd71 => (repeat' (first | exact trivial | with_reducible refine zI ?_ ?_)))); try (refine L.nil ?_))
  repeat refine S.seq ?_
  refine S.cut (ι := Unit) (fun _ => [(1, .ptr 1 b1 0), (33, .v (.int .i64 r.kind)), (57, .v (.bool (r.kind == 2 || (r.kind == 3 || r.kind == 4))))]) (fun _ => [(1, .blk b1 37 r.cells)]) ?_ ?_
  · ((repeat refine S.seq ?_); refine S.cond rfl (fun k2 => ?_) (fun k2 => ?_) <;> (try first | refine S.skip ?_ | refine S.exit ?_))
    · rw [k2]
      exact fun a w hR => ⟨(), hR.weak (by (repeat' (first | exact True.intro | exact Imp.refl _ | refine ⟨?_, ?_⟩))) (by (repeat (first | exact List.nil_sublist _ | refine List.Sublist.cons_cons _ ?_ | refine List.Sublist.cons _ ?_)))⟩
    rw [k2]
    ((repeat refine S.seq ?_); refine S.region (L.go (T := tt) tt_ok rfl rfl ?sd72 ?_); (try (case sd72 => (repeat' (first | exact trivial | with_reducible refine zI ?_ ?_)))); try (refine L.nil ?_))
    ((repeat refine S.seq ?_); refine S.cond rfl (fun k3 => ?_) (fun k3 => ?_) <;> (try first | refine S.skip ?_ | refine S.exit ?_))
    · rw [k3]
      exact fun a w hR => ⟨(), hR.weak (by (repeat' (first | exact True.intro | exact Imp.refl _ | refine ⟨?_, ?_⟩))) (by (repeat (first | exact List.nil_sublist _ | refine List.Sublist.cons_cons _ ?_ | refine List.Sublist.cons _ ?_)))⟩
    rw [k3]
    ((repeat refine S.seq ?_); refine S.region (L.go (T := tt) tt_ok rfl rfl ?sd73 ?_); (try (case sd73 => (repeat' (first | exact trivial | with_reducible refine zI ?_ ?_)))); try (refine L.nil ?_))
    exact fun a w hR => ⟨(), hR.weak (by (repeat' (first | exact True.intro | exact Imp.refl _ | refine ⟨?_, ?_⟩))) (by (repeat (first | exact List.nil_sublist _ | refine List.Sublist.cons_cons _ ?_ | refine List.Sublist.cons _ ?_)))⟩
  rintro ⟨⟩
  ((repeat refine S.seq ?_); refine S.cond rfl (fun k2 => ?_) (fun k2 => ?_) <;> (try first | refine S.skip ?_ | refine S.exit ?_))
  · have k2 : r.kind = 2 ∨ r.kind = 3 ∨ r.kind = 4 := by simpa using k2
    ((repeat refine S.seq ?_); refine S.region (L.go (T := tt) tt_ok rfl rfl ?sd74 ?_); (try (case sd74 => (repeat' (first | exact trivial | exact zA | with_reducible refine zI ?_ ?_ | exact zB | exact zC | exact zE | rfl | (simp; done))))); try (refine L.nil ?_))
    ((repeat refine S.seq ?_); refine S.ret ?_)
    refine E.retP (T := tt) tt_ok rfl rfl (by (repeat' (first | exact trivial | with_reducible refine zI ?_ ?_))) (Imp.of_eq ?_)
    rw [mayRec, if_neg k1, if_pos k2, h.back]
    simp [oneOf]
  have k2 : ¬ (r.kind = 2 ∨ r.kind = 3 ∨ r.kind = 4) := by simpa using k2
  ((repeat refine S.seq ?_); refine S.region (L.go (T := tt) tt_ok rfl rfl ?sd75 ?_); (try (case sd75 => (repeat' (first | exact trivial | with_reducible refine zI ?_ ?_)))); try (refine L.nil ?_))
  repeat refine S.seq ?_
  refine S.cut (ι := Unit) (fun _ => [(1, .ptr 1 b1 0), (33, .v (.int .i64 r.kind)), (74, .v (.bool (r.kind == 5 || r.kind == 6)))]) (fun _ => [(1, .blk b1 37 r.cells)]) ?_ ?_
  · ((repeat refine S.seq ?_); refine S.cond rfl (fun k3 => ?_) (fun k3 => ?_) <;> (try first | refine S.skip ?_ | refine S.exit ?_))
    · rw [k3]
      exact fun a w hR => ⟨(), hR.weak (by (repeat' (first | exact True.intro | exact Imp.refl _ | refine ⟨?_, ?_⟩))) (by (repeat (first | exact List.nil_sublist _ | refine List.Sublist.cons_cons _ ?_ | refine List.Sublist.cons _ ?_)))⟩
    rw [k3]
    ((repeat refine S.seq ?_); refine S.region (L.go (T := tt) tt_ok rfl rfl ?sd76 ?_); (try (case sd76 => (repeat' (first | exact trivial | with_reducible refine zI ?_ ?_)))); try (refine L.nil ?_))
    exact fun a w hR => ⟨(), hR.weak (by (repeat' (first | exact True.intro | exact Imp.refl _ | refine ⟨?_, ?_⟩))) (by (repeat (first | exact List.nil_sublist _ | refine List.Sublist.cons_cons _ ?_ | refine List.Sublist.cons _ ?_)))⟩
  rintro ⟨⟩
  ((repeat refine S.seq ?_); refine S.cond rfl (fun k3 => ?_) (fun k3 => ?_) <;> (try first | refine S.skip ?_ | refine S.exit ?_))
  · have k3 : r.kind = 5 ∨ r.kind = 6 := by simpa using k3
    ((repeat refine S.seq ?_); refine S.region (L.go (T := tt) tt_ok rfl rfl ?sd77 ?_); (try (case sd77 => (repeat' (first | exact trivial | with_reducible refine zI ?_ ?_ | rfl)))); try (refine L.nil ?_))
    ((repeat refine S.seq ?_); refine S.ret ?_)
    refine E.retP (T := tt) tt_ok rfl rfl (by (repeat' (first | exact trivial | with_reducible refine zI ?_ ?_))) (Imp.of_eq ?_)
    rw [mayRec, if_neg k1, if_neg k2, if_pos k3]
    rfl
  have k3 : ¬ (r.kind = 5 ∨ r.kind = 6) := by simpa using k3
  ((repeat refine S.seq ?_); refine S.region (L.go (T := tt) tt_ok rfl rfl ?sd78 ?_); (try (case sd78 => (repeat' (first | exact trivial | with_reducible refine zI ?_ ?_)))); try (refine L.nil ?_))
  ((repeat refine S.seq ?_); refine S.cond rfl (fun k4 => ?_) (fun k4 => ?_) <;> (try first | refine S.skip ?_ | refine S.exit ?_))
  · have k4 := of_beq k4
    ((repeat refine S.seq ?_); refine S.region (L.go (T := tt) tt_ok rfl rfl ?sd79 ?_); (try (case sd79 => (repeat' (first | exact trivial | exact zA | with_reducible refine zI ?_ ?_ | rfl | exact zN rfl | omega | intro _)))); try (refine L.nil ?_))
    refine L.callG rfl rfl rfl rfl rfl rfl rfl (fun hb => ⟨trivial, hb, trivial⟩) rfl (by exact Imps.refl [r.shard.av]) (fun _ => may_p r.shard hs.ready hs.held hs.keys) ?_
    (refine L.go (T := tt) tt_ok rfl rfl ?sd110 ?_; (try (case sd110 => (repeat' (first | exact trivial | with_reducible refine zI ?_ ?_ | exact zB)))); try (refine L.nil ?_))
    ((repeat refine S.seq ?_); refine S.ret ?_)
    refine E.retP (T := tt) tt_ok rfl rfl (by (repeat' (first | exact trivial | with_reducible refine zI ?_ ?_))) (Imp.of_eq ?_)
    rw [mayRec, if_neg k1, if_neg k2, if_neg k3, if_pos k4]
    rfl
  have k4 := of_nbeq k4
  ((repeat refine S.seq ?_); refine S.region (L.go (T := tt) tt_ok rfl rfl ?sd80 ?_); (try (case sd80 => (repeat' (first | exact trivial | with_reducible refine zI ?_ ?_)))); try (refine L.nil ?_))
  ((repeat refine S.seq ?_); refine S.ret ?_)
  refine E.retP (T := tt) tt_ok rfl rfl (by (repeat' (first | exact trivial | with_reducible refine zI ?_ ?_))) (Imp.of_eq ?_)
  rw [mayRec, if_neg k1, if_neg k2, if_neg k3, if_neg k4]
  rfl

theorem recmay_p (r : RecD) (h : RecOk r) : PFn Try.prog 37 [r.av] (.v (.bool (mayRec r))) := by
  have hs := h.small
  refine FnC.intro Try.func37 rfl Try.ntmps37 rfl ?_; intro off w0
  repeat refine S.seq ?_
  refine S.region ?_
  refine L.box 1 rfl rfl rfl rfl rfl trivial rfl fun b1 => ?_
  (refine L.go (T := tt) tt_ok rfl rfl ?sd111 ?_; (try (case sd111 => (repeat' (first | exact trivial | with_reducible refine zI ?_ ?_)))); try (refine L.nil ?_))
  ((repeat refine S.seq ?_); refine S.region (L.go (T := tt) tt_ok rfl rfl ?sd81 ?_); (try (case sd81 => (repeat' (first | exact trivial | exact zA | with_reducible refine zI ?_ ?_ | exact zB | exact zC | exact zE | rfl | exact zN rfl | omega | (simp; done) | (simp_all; done) | intro _)))); try (refine L.nil ?_))
  refine L.callG rfl rfl rfl rfl rfl rfl rfl (fun hb => ⟨trivial, hb, hb, trivial⟩) rfl (Bs := [r.shard.av, shard0.av]) (by exact ⟨Imp.refl _, shard0_imp, trivial⟩) (fun _ => rsame_p r.shard shard0) ?_
  (refine L.go (T := tt) tt_ok rfl rfl ?sd112 ?_; (try (case sd112 => (repeat' (first | exact trivial | with_reducible refine zI ?_ ?_ | exact zB | exact zC | omega | intro _)))); try (refine L.nil ?_))
  · simp
    exact fun a b c d => ⟨⟨⟨⟨a, b⟩, c⟩, d⟩, fun e => ⟨⟨⟨⟨a, b⟩, c⟩, (Classical.em _).imp id d⟩, e⟩⟩
  have hf := h.first (n := r.batch.length) rfl
  have hb := h.back
  ((repeat refine S.seq ?_); refine S.cond rfl (fun h0 => ?_) (fun h0 => ?_) <;> (try first | refine S.skip ?_ | refine S.exit ?_))
  · ((repeat refine S.seq ?_); refine S.region (L.go (T := tt) tt_ok rfl rfl ?sd82 ?_); (try (case sd82 => (repeat' (first | exact trivial | with_reducible refine zI ?_ ?_)))); try (refine L.nil ?_))
    ((repeat refine S.seq ?_); refine S.ret ?_)
    refine E.retP (T := tt) tt_ok rfl rfl (by (repeat' (first | exact trivial | with_reducible refine zI ?_ ?_))) (Imp.of_eq ?_)
    have hk : r.kind < 1 ∨ r.kind > 7 := by
      rw [hb] at h0
      rw [Bool.or_eq_false_iff] at hf
      rw [hf.1, hf.2] at h0
      simpa using h0
    rw [mayRec, if_neg (by omega), if_neg (by omega), if_neg (by omega), if_neg (by omega)]
    rfl
  have hk : 1 ≤ r.kind ∧ r.kind ≤ 7 := by
    simp only [Bool.or_eq_false_iff, decide_eq_false_iff_not] at h0
    omega
  ((repeat refine S.seq ?_); refine S.region (L.go (T := tt) tt_ok rfl rfl ?sd83 ?_); (try (case sd83 => (repeat' (first | exact trivial | with_reducible refine zI ?_ ?_ | rfl)))); try (refine L.nil ?_))
  repeat refine S.seq ?_
  refine S.cut (ι := { u : Unit // mayRec r = (r.tag == 0) }) (fun _ => [(1, .ptr 1 b1 0)]) (fun _ => [(1, .blk b1 37 r.cells)]) ?_ ?_
  · refine S.block ?_
    ((repeat refine S.seq ?_); refine S.region (L.go (T := tt) tt_ok rfl rfl ?sd84 ?_); (try (case sd84 => (repeat' (first | exact trivial | with_reducible refine zI ?_ ?_)))); try (refine L.nil ?_))
    repeat refine S.seq ?_
    refine S.cut (ι := Unit) (fun _ => [(1, .ptr 1 b1 0), (40, .v (.int .i64 r.kind)), (41, .v (.bool (r.kind == 2 || (r.kind == 3 || r.kind == 4))))]) (fun _ => [(1, .blk b1 37 r.cells)]) ?_ ?_
    · ((repeat refine S.seq ?_); refine S.cond rfl (fun k2 => ?_) (fun k2 => ?_) <;> (try first | refine S.skip ?_ | refine S.exit ?_))
      · rw [k2]
        exact fun a w hR => ⟨(), hR.weak (by (repeat' (first | exact True.intro | exact Imp.refl _ | refine ⟨?_, ?_⟩))) (by (repeat (first | exact List.nil_sublist _ | refine List.Sublist.cons_cons _ ?_ | refine List.Sublist.cons _ ?_)))⟩
      rw [k2]
      ((repeat refine S.seq ?_); refine S.region (L.go (T := tt) tt_ok rfl rfl ?sd85 ?_); (try (case sd85 => (repeat' (first | exact trivial | with_reducible refine zI ?_ ?_)))); try (refine L.nil ?_))
      ((repeat refine S.seq ?_); refine S.cond rfl (fun k3 => ?_) (fun k3 => ?_) <;> (try first | refine S.skip ?_ | refine S.exit ?_))
      · rw [k3]
        exact fun a w hR => ⟨(), hR.weak (by (repeat' (first | exact True.intro | exact Imp.refl _ | refine ⟨?_, ?_⟩))) (by (repeat (first | exact List.nil_sublist _ | refine List.Sublist.cons_cons _ ?_ | refine List.Sublist.cons _ ?_)))⟩
      rw [k3]
      ((repeat refine S.seq ?_); refine S.region (L.go (T := tt) tt_ok rfl rfl ?sd86 ?_); (try (case sd86 => (repeat' (first | exact trivial | with_reducible refine zI ?_ ?_)))); try (refine L.nil ?_))
      exact fun a w hR => ⟨(), hR.weak (by (repeat' (first | exact True.intro | exact Imp.refl _ | refine ⟨?_, ?_⟩))) (by (repeat (first | exact List.nil_sublist _ | refine List.Sublist.cons_cons _ ?_ | refine List.Sublist.cons _ ?_)))⟩
    rintro ⟨⟩
    ((repeat refine S.seq ?_); refine S.cond rfl (fun k2 => ?_) (fun k2 => ?_) <;> (try first | refine S.skip ?_ | refine S.exit ?_))
    · have k2 : r.kind = 2 ∨ r.kind = 3 ∨ r.kind = 4 := by simpa using k2
      ((repeat refine S.seq ?_); refine S.region (L.go (T := tt) tt_ok rfl rfl ?sd87 ?_); (try (case sd87 => (repeat' (first | exact trivial | exact zA | with_reducible refine zI ?_ ?_ | exact zB | exact zE | rfl | (simp; done))))); try (refine L.nil ?_))
      ((repeat refine S.seq ?_); refine S.ret ?_)
      refine E.retP (T := tt) tt_ok rfl rfl (by (repeat' (first | exact trivial | with_reducible refine zI ?_ ?_))) (Imp.of_eq ?_)
      rw [mayRec, if_neg (by omega), if_pos k2]
      rfl
    have k2 : ¬ (r.kind = 2 ∨ r.kind = 3 ∨ r.kind = 4) := by simpa using k2
    ((repeat refine S.seq ?_); refine S.region (L.go (T := tt) tt_ok rfl rfl ?sd88 ?_); (try (case sd88 => (repeat' (first | exact trivial | with_reducible refine zI ?_ ?_)))); try (refine L.nil ?_))
    ((repeat refine S.seq ?_); refine S.cond rfl (fun k1 => ?_) (fun k1 => ?_) <;> (try first | refine S.skip ?_ | refine S.exit ?_))
    · have k1 := of_beq k1
      ((repeat refine S.seq ?_); refine S.region (L.go (T := tt) tt_ok rfl rfl ?sd89 ?_); (try (case sd89 => (repeat' (first | exact trivial | exact zA | with_reducible refine zI ?_ ?_ | exact zB | exact zC | exact zE | rfl | (simp; done))))); try (refine L.nil ?_))
      ((repeat refine S.seq ?_); refine S.cond rfl (fun h1 => ?_) (fun h1 => ?_) <;> (try first | refine S.skip ?_ | refine S.exit ?_))
      · ((repeat refine S.seq ?_); refine S.region (L.go (T := tt) tt_ok rfl rfl ?sd90 ?_); (try (case sd90 => (repeat' (first | exact trivial | with_reducible refine zI ?_ ?_)))); try (refine L.nil ?_))
        ((repeat refine S.seq ?_); refine S.ret ?_)
        refine E.retP (T := tt) tt_ok rfl rfl (by (repeat' (first | exact trivial | with_reducible refine zI ?_ ?_))) (Imp.of_eq ?_)
        have hl : ¬ (1 ≤ r.batch.length ∧ r.batch.length ≤ 8) := by
          simp only [Bool.or_eq_true, decide_eq_true_eq] at h1
          omega
        have : mayRec r = false := by
          rw [mayRec, if_pos k1]
          rcases Nat.lt_or_ge r.batch.length 1 with h3 | h3
          · rw [decide_eq_false (show ¬ (r.batch.length : Int) ≥ 1 by omega)]; simp
          · rw [decide_eq_false (show ¬ (r.batch.length : Int) ≤ 8 by omega)]; simp
        rw [this]
        rfl
      have hl : 1 ≤ r.batch.length ∧ r.batch.length ≤ 8 := by
        simp only [Bool.or_eq_false_iff, decide_eq_false_iff_not] at h1
        omega
      ((repeat refine S.seq ?_); refine S.region (L.go (T := tt) tt_ok rfl rfl ?sd91 ?_); (try (case sd91 => (repeat' (first | exact trivial | with_reducible refine zI ?_ ?_)))); try (refine L.nil ?_))
      refine S.block (S.loop (ι := { k : Nat // k ≤ r.batch.length ∧ ∀ j, j < k → mayMsg (r.batch.getD j default) = true }) (fun k => [(1, .ptr 1 b1 0), (3, .v (.int .i64 k.1))])
        (fun k => [(1, .blk b1 37 r.cells)]) (fun k => r.batch.length - k.1) ?_ ?_)
      · exact fun a w hR => ⟨⟨0, Nat.zero_le _, fun j hj => absurd hj (by omega)⟩, hR.weak (by (repeat' (first | exact True.intro | exact Imp.refl _ | refine ⟨?_, ?_⟩))) (by (repeat (first | exact List.nil_sublist _ | refine List.Sublist.cons_cons _ ?_ | refine List.Sublist.cons _ ?_)))⟩
      rintro ⟨k, hk, ik⟩
      dsimp only
      ((repeat refine S.seq ?_); refine S.region (L.go (T := tt) tt_ok rfl rfl ?sd92 ?_); (try (case sd92 => (repeat' (first | exact trivial | with_reducible refine zI ?_ ?_ | rfl)))); try (refine L.nil ?_))
      ((repeat refine S.seq ?_); refine S.cond rfl (fun h2 => ?_) (fun h2 => ?_) <;> (try first | refine S.skip ?_ | refine S.exit ?_))
      · have h2 := of_dec h2
        repeat refine S.seq ?_
        refine S.block ?_
        ((repeat refine S.seq ?_); refine S.region (L.go (T := tt) tt_ok rfl rfl ?sd93 ?_); (try (case sd93 => (repeat' (first | exact trivial | with_reducible refine zI ?_ ?_ | rfl | omega)))); try (refine L.nil ?_))
        refine L.callP rfl rfl rfl rfl rfl rfl rfl ⟨trivial, by (repeat' (first | exact trivial | with_reducible refine zI ?_ ?_))⟩ rfl (Imps.refl _) (rmayMsg_p (r.batch.getD k default)) ?_
        (refine L.go (T := tt) tt_ok rfl rfl ?sd113 ?_; (try (case sd113 => (repeat' (first | exact trivial | with_reducible refine zI ?_ ?_)))); try (refine L.nil ?_))
        ((repeat refine S.seq ?_); refine S.cond rfl (fun h3 => ?_) (fun h3 => ?_) <;> (try first | refine S.skip ?_ | refine S.exit ?_))
        · ((repeat refine S.seq ?_); refine S.region (L.go (T := tt) tt_ok rfl rfl ?sd94 ?_); (try (case sd94 => (repeat' (first | exact trivial | with_reducible refine zI ?_ ?_)))); try (refine L.nil ?_))
          ((repeat refine S.seq ?_); refine S.ret ?_)
          refine E.retP (T := tt) tt_ok rfl rfl (by (repeat' (first | exact trivial | with_reducible refine zI ?_ ?_))) (Imp.of_eq ?_)
          have : r.batch.all mayMsg = false := by
            rw [List.all_eq_false]
            refine ⟨r.batch.getD k default, ?_, by simpa using h3⟩
            rw [getD_get (show k < r.batch.length by omega)]
            exact List.getElem_mem _
          rw [mayRec, if_pos k1, this]
          simp [oneOf]
        ((repeat refine S.seq ?_); refine S.region (L.go (T := tt) tt_ok rfl rfl ?sd95 ?_); (try (case sd95 => (repeat' (first | exact trivial | with_reducible refine zI ?_ ?_ | (unfold fits; omega))))); try (refine L.nil ?_))
        exact fun a w hR => ⟨⟨k + 1, by omega, upto_succ ik (by simpa using h3)⟩, by show _ - (k + 1) < _ - k; omega, hR.weak (by (repeat' (first | exact True.intro | exact Imp.refl _ | refine ⟨?_, ?_⟩))) (by (repeat (first | exact List.nil_sublist _ | refine List.Sublist.cons_cons _ ?_ | refine List.Sublist.cons _ ?_)))⟩
      · have h2 := of_dec' h2
        refine fun a w hR => ⟨⟨(), ?_⟩, hR.weak (by (repeat' (first | exact True.intro | exact Imp.refl _ | refine ⟨?_, ?_⟩))) (by (repeat (first | exact List.nil_sublist _ | refine List.Sublist.cons_cons _ ?_ | refine List.Sublist.cons _ ?_)))⟩
        have : r.batch.all mayMsg = true := by
          rw [List.all_eq_true]
          intro x hx
          obtain ⟨j, hj, rfl⟩ := List.mem_iff_getElem.1 hx
          have := ik j (by omega)
          rwa [getD_get hj] at this
        rw [mayRec, if_pos k1, this, decide_eq_true (show (r.batch.length : Int) ≥ 1 by omega), decide_eq_true (show (r.batch.length : Int) ≤ 8 by omega)]
        simp
    have k1 := of_nbeq k1
    ((repeat refine S.seq ?_); refine S.region (L.go (T := tt) tt_ok rfl rfl ?sd96 ?_); (try (case sd96 => (repeat' (first | exact trivial | with_reducible refine zI ?_ ?_)))); try (refine L.nil ?_))
    ((repeat refine S.seq ?_); refine S.cond rfl (fun k4 => ?_) (fun k4 => ?_) <;> (try first | refine S.skip ?_ | refine S.exit ?_))
    · have k4 := of_beq k4
      ((repeat refine S.seq ?_); refine S.region (L.go (T := tt) tt_ok rfl rfl ?sd97 ?_); (try (case sd97 => (repeat' (first | exact trivial | exact zA | with_reducible refine zI ?_ ?_ | rfl | exact zN rfl | omega | intro _)))); try (refine L.nil ?_))
      refine L.callG rfl rfl rfl rfl rfl rfl rfl (fun hb => ⟨trivial, hb, trivial⟩) rfl (by exact Imps.refl [r.shard.av]) (fun _ => rmay_p r.shard hs) ?_
      (refine L.go (T := tt) tt_ok rfl rfl ?sd114 ?_; (try (case sd114 => (repeat' (first | exact trivial | with_reducible refine zI ?_ ?_ | exact zB)))); try (refine L.nil ?_))
      ((repeat refine S.seq ?_); refine S.ret ?_)
      refine E.retP (T := tt) tt_ok rfl rfl (by (repeat' (first | exact trivial | with_reducible refine zI ?_ ?_))) (Imp.of_eq ?_)
      rw [mayRec, if_neg k1, if_neg k2, if_neg (by omega), if_pos k4]
      rfl
    have k4 := of_nbeq k4
    refine fun a w hR => ⟨⟨(), ?_⟩, hR.weak (by (repeat' (first | exact True.intro | exact Imp.refl _ | refine ⟨?_, ?_⟩))) (by (repeat (first | exact List.nil_sublist _ | refine List.Sublist.cons_cons _ ?_ | refine List.Sublist.cons _ ?_)))⟩
    rw [mayRec, if_neg k1, if_neg k2, if_pos (by omega)]
  rintro ⟨⟨⟩, hm⟩
  ((repeat refine S.seq ?_); refine S.region (L.go (T := tt) tt_ok rfl rfl ?sd98 ?_); (try (case sd98 => (repeat' (first | exact trivial | with_reducible refine zI ?_ ?_ | rfl)))); try (refine L.nil ?_))
  ((repeat refine S.seq ?_); refine S.ret ?_)
  refine E.retP (T := tt) tt_ok rfl rfl (by (repeat' (first | exact trivial | with_reducible refine zI ?_ ?_))) (Imp.of_eq ?_)
  rw [hm]
  rfl

def sameRec (a b : RecD) : Bool := a.kind == b.kind && a.tag == b.tag && a.back == b.back && decide (a.batch = b.batch) && same a.shard b.shard
theorem slipsame_p (a b : RecD) : PFn Try.prog 13 [a.av, b.av] (.v (.bool (sameRec a b))) := by
  refine FnC.intro Try.func13 rfl Try.ntmps13 rfl ?_; intro off w0
  repeat refine S.seq ?_
  refine S.region ?_
  refine L.box 1 rfl rfl rfl rfl rfl trivial rfl fun b1 => ?_
  refine L.box 2 rfl rfl rfl rfl rfl trivial rfl fun b2 => ?_
  (refine L.go (T := tt) tt_ok rfl rfl ?sd115 ?_; (try (case sd115 => (repeat' (first | exact trivial | with_reducible refine zI ?_ ?_)))); try (refine L.nil ?_))
  ((repeat refine S.seq ?_); refine S.region (L.go (T := tt) tt_ok rfl rfl ?sd99 ?_); (try (case sd99 => (repeat' (first | exact trivial | exact zA | with_reducible refine zI ?_ ?_ | exact zB | exact zD | rfl | (simp; done))))); try (refine L.nil ?_))
  refine L.callG rfl rfl rfl rfl rfl rfl rfl (fun hb => ⟨trivial, hb, hb, trivial⟩) rfl (by exact Imps.refl [msgs a.batch, msgs b.batch]) (fun _ => EqMsgs a.batch b.batch) ?_
  (refine L.go (T := tt) tt_ok rfl rfl ?sd116 ?_; (try (case sd116 => (repeat' (first | exact trivial | exact zA | with_reducible refine zI ?_ ?_ | exact zB | rfl | exact zN rfl | omega | intro _)))); try (refine L.nil ?_))
  refine L.callG rfl rfl rfl rfl rfl rfl rfl (fun hb => ⟨trivial, hb, hb, trivial⟩) rfl (by exact Imps.refl [a.shard.av, b.shard.av]) (fun _ => same_p a.shard b.shard) ?_
  (refine L.go (T := tt) tt_ok rfl rfl ?sd117 ?_; (try (case sd117 => (repeat' (first | exact trivial | with_reducible refine zI ?_ ?_ | exact zB)))); try (refine L.nil ?_))
  ((repeat refine S.seq ?_); refine S.ret ?_)
  exact E.retP (T := tt) tt_ok rfl rfl (by (repeat' (first | exact trivial | with_reducible refine zI ?_ ?_))) (Imp.refl _)

theorem byteseq_p (a b : List UInt8) : PFn Try.prog 29 [bytesL a, bytesL b] (.v (.bool (strL a == strL b))) := by
  refine FnC.intro Try.func29 rfl Try.ntmps29 rfl ?_; intro off w0
  ((repeat refine S.seq ?_); refine S.region (L.go (T := tt) tt_ok rfl rfl ?sd100 ?_); (try (case sd100 => (repeat' (first | exact trivial | with_reducible refine zI ?_ ?_)))); try (refine L.nil ?_))
  ((repeat refine S.seq ?_); refine S.region (L.go (T := tt) tt_ok rfl rfl ?sd101 ?_); (try (case sd101 => (repeat' (first | exact trivial | with_reducible refine zI ?_ ?_)))); try (refine L.nil ?_))
  refine L.toStr (T := tt) (m := a.length) (g2 := gOf u8C a) tt_ok rfl rfl rfl rfl rfl rfl rfl rfl rfl (by (repeat' (first | exact trivial | with_reducible refine zI ?_ ?_))) (strL_size a).symm (fun i hi => strL_g a hi) ?_
  (refine L.go (T := tt) tt_ok rfl rfl ?sd118 ?_; (try (case sd118 => (repeat' (first | exact trivial | with_reducible refine zI ?_ ?_)))); try (refine L.nil ?_))
  refine L.toStr (T := tt) (m := b.length) (g2 := gOf u8C b) tt_ok rfl rfl rfl rfl rfl rfl rfl rfl rfl (by (repeat' (first | exact trivial | with_reducible refine zI ?_ ?_))) (strL_size b).symm (fun i hi => strL_g b hi) ?_
  (refine L.go (T := tt) tt_ok rfl rfl ?sd119 ?_; (try (case sd119 => (repeat' (first | exact trivial | with_reducible refine zI ?_ ?_)))); try (refine L.nil ?_))
  ((repeat refine S.seq ?_); refine S.ret ?_)
  exact E.retP (T := tt) tt_ok rfl rfl (by (repeat' (first | exact trivial | with_reducible refine zI ?_ ?_))) (Imp.refl _)
end Go.Proofs.Ytlbbcjlhnjnkeaa

/- A record as bytes, and back. -/
namespace Go.Proofs.Ytlbbcjlhnjnkeaa
set_option linter.unusedVariables false
set_option linter.unusedSimpArgs false
set_option maxHeartbeats 8000000
open Go.RowKit
set_option maxRecDepth 4000

def putB (r : RecD) : List UInt8 := if mayRec r then recL r else []
def putC (r : RecD) : Int := if mayRec r then 0 else 1
theorem msg_small {m : Msg} (h : mayMsg m = true) : msgSmall m := by
  simp only [mayMsg, Bool.and_eq_true, decide_eq_true_eq] at h
  unfold msgSmall
  omega
theorem mayRec_batch {r : RecD} (h : mayRec r = true) (hk : r.kind = 1) : r.batch.length ≤ 8 ∧ ∀ m ∈ r.batch, msgSmall m := by
  rw [mayRec, if_pos hk] at h
  simp only [Bool.and_eq_true, decide_eq_true_eq, List.all_eq_true] at h
  exact ⟨by omega, fun m hm => msg_small (h.2 m hm)⟩
theorem recL_len {r : RecD} (h : mayRec r = true) : (recL r).length ≤ 20000 := by
  unfold recL
  rw [List.length_append, numL_len]
  split
  · rename_i hk
    have h1 := mayRec_batch h hk
    have h2 := flat_len h1.2
    rw [msgsL, List.length_append, numL_len]
    omega
  · split
    · rw [numL_len]; omega
    · simp

theorem slipput_p (r : RecD) (h : RecOk r) (h7 : r.kind ≠ 7) : PFn Try.prog 11 [r.av] (.tup [bytesL (putB r), .v (.int .i64 (putC r))]) := by
  refine FnC.intro Try.func11 rfl Try.ntmps11 rfl ?_; intro off w0
  repeat refine S.seq ?_
  refine S.region ?_
  refine L.box 1 rfl rfl rfl rfl rfl trivial rfl fun b1 => ?_
  (refine L.go (T := tt) tt_ok rfl rfl ?sd132 ?_; (try (case sd132 => (repeat' (first | exact trivial | with_reducible refine zI ?_ ?_)))); try (refine L.nil ?_))
  ((repeat refine S.seq ?_); refine S.region (L.go (T := tt) tt_ok rfl rfl ?sd120 ?_); (try (case sd120 => (repeat' (first | exact trivial | with_reducible refine zI ?_ ?_ | rfl | exact zN rfl)))); try (refine L.nil ?_))
  refine L.callP rfl rfl rfl rfl rfl rfl rfl ⟨trivial, by (repeat' (first | exact trivial | with_reducible refine zI ?_ ?_))⟩ rfl (Imps.refl _) (slipmay_p r h) ?_
  (refine L.go (T := tt) tt_ok rfl rfl ?sd133 ?_; (try (case sd133 => (repeat' (first | exact trivial | with_reducible refine zI ?_ ?_)))); try (refine L.nil ?_))
  ((repeat refine S.seq ?_); refine S.cond rfl (fun h0 => ?_) (fun h0 => ?_) <;> (try first | refine S.skip ?_ | refine S.exit ?_))
  · have e : mayRec r = false := by simpa using h0
    ((repeat refine S.seq ?_); refine S.region (L.go (T := tt) tt_ok rfl rfl ?sd121 ?_); (try (case sd121 => (repeat' (first | exact trivial | with_reducible refine zI ?_ ?_)))); try (refine L.nil ?_))
    ((repeat refine S.seq ?_); refine S.ret ?_)
    refine E.retP (T := tt) tt_ok rfl rfl (by (repeat' (first | exact trivial | with_reducible refine zI ?_ ?_))) ?_
    rw [putB, putC, e]
    exact Imp.tup ⟨Imp.nil _ _, Imp.refl _, trivial⟩
  have e : mayRec r = true := by simpa using h0
  rw [putB, putC, e]
  simp only [if_true]
  repeat refine S.seq ?_
  refine S.region ?_
  (refine L.go (T := tt) tt_ok rfl rfl ?sd134 ?_; (try (case sd134 => (repeat' (first | exact trivial | with_reducible refine zI ?_ ?_)))); try (refine L.nil ?_))
  refine L.box 30 rfl rfl rfl rfl rfl trivial rfl fun b30 => ?_
  (refine L.go (T := tt) tt_ok rfl rfl ?sd135 ?_; (try (case sd135 => (repeat' (first | exact trivial | with_reducible refine zI ?_ ?_)))); try (refine L.nil ?_))
  refine nilRow 31 5 1 (gOf u8C []) ?_
  refine blkAs 30 [.ref 31 (.slice none 0 0)] rfl ⟨Imp.vref rfl, trivial⟩ ?_
  refine rowsTo (wrR b30 (.slice none 0 0) [] ++ [(1, .blk b1 37 r.cells)]) (by unfold wrR; (repeat (first | exact Sub.refl _ | refine Sub.pick (by first | exact p0 | exact pS p0 | exact pS (pS p0) | exact pS (pS (pS p0)) | exact pS (pS (pS (pS p0))) | exact pS (pS (pS (pS (pS p0))))) ?_))) ?_
  repeat refine S.seq ?_
  refine S.region ?_
  (refine L.go (T := tt) tt_ok rfl rfl ?sd136 ?_; (try (case sd136 => (repeat' (first | exact trivial | with_reducible refine zI ?_ ?_ | rfl)))); try (refine L.nil ?_))
  refine L.call (G := wrR b30 (.slice none 0 0) []) (H := [(1, .blk b1 37 r.cells)]) rfl rfl rfl rfl rfl rfl rfl ⟨trivial, by (repeat' (first | exact trivial | with_reducible refine zI ?_ ?_))⟩ rfl (by exact Imps.refl [.ptr 30 b30 0, .v (.int .i64 r.kind), .v (.int .i64 1)]) (List.Perm.refl _) (wnum_p b30 (.slice none 0 0) [] r.kind 1 (by decide) (by decide)) ?_
  rintro x F' ⟨rfl, y1, rfl⟩
  (refine L.go (T := tt) tt_ok rfl rfl ?sd137 ?_; (try (case sd137 => (repeat' (first | exact trivial)))); try (refine L.nil ?_))
  obtain ⟨l1, hl1⟩ : ∃ l1, l1 = numL r.kind 1 := ⟨_, rfl⟩
  have g1 : l1.length = 1 := by rw [hl1, numL_len]
  refine rowsEq (wrR b30 y1 l1 ++ [(1, .blk b1 37 r.cells)]) (by rw [List.nil_append, hl1]) ?_
  ((repeat refine S.seq ?_); refine S.region (L.go (T := tt) tt_ok rfl rfl ?sd122 ?_); (try (case sd122 => (repeat' (first | exact trivial | with_reducible refine zI ?_ ?_ | rfl)))); try (refine L.nil ?_))
  repeat refine S.seq ?_
  refine S.cut (ι := Value) (fun _ => [(4, .ptr 30 b30 0)]) (fun y => wrR b30 y (recL r) ++ [(1, .blk b1 37 r.cells)]) ?_ ?_
  · refine S.block ?_
    ((repeat refine S.seq ?_); refine S.region (L.go (T := tt) tt_ok rfl rfl ?sd123 ?_); (try (case sd123 => (repeat' (first | exact trivial | with_reducible refine zI ?_ ?_)))); try (refine L.nil ?_))
    ((repeat refine S.seq ?_); refine S.cond rfl (fun k1 => ?_) (fun k1 => ?_) <;> (try first | refine S.skip ?_ | refine S.exit ?_))
    · have k1 := of_beq k1
      have hb := mayRec_batch e k1
      ((repeat refine S.seq ?_); refine S.region (L.go (T := tt) tt_ok rfl rfl ?sd124 ?_); (try (case sd124 => (repeat' (first | exact trivial | with_reducible refine zI ?_ ?_ | rfl)))); try (refine L.nil ?_))
      refine L.call (G := wrR b30 y1 l1) (H := [(1, .blk b1 37 r.cells)]) rfl rfl rfl rfl rfl rfl rfl ⟨trivial, by (repeat' (first | exact trivial | with_reducible refine zI ?_ ?_))⟩ rfl (by exact Imps.refl [.ptr 30 b30 0, msgs r.batch]) (List.Perm.refl _) (wmessages_p b30 y1 l1 r.batch (by omega) (by omega) hb.2) ?_
      rintro x F' ⟨rfl, y2, rfl⟩
      (refine L.go (T := tt) tt_ok rfl rfl ?sd138 ?_; (try (case sd138 => (repeat' (first | exact trivial)))); try (refine L.nil ?_))
      exact fun a w hR => ⟨y2, hR.weakP (by (repeat' (first | exact True.intro | exact Imp.refl _ | refine ⟨?_, ?_⟩))) (Sub.of _ (List.Perm.of_eq (by rw [recL, if_pos k1, hl1, List.append_nil])))⟩
    have k1 := of_nbeq k1
    ((repeat refine S.seq ?_); refine S.region (L.go (T := tt) tt_ok rfl rfl ?sd125 ?_); (try (case sd125 => (repeat' (first | exact trivial | with_reducible refine zI ?_ ?_)))); try (refine L.nil ?_))
    repeat refine S.seq ?_
    refine S.cut (ι := Unit) (fun _ => [(1, .ptr 1 b1 0), (4, .ptr 30 b30 0), (15, .v (.int .i64 r.kind)), (22, .v (.bool (r.kind == 2 || (r.kind == 3 || r.kind == 4))))]) (fun _ => wrR b30 y1 l1 ++ [(1, .blk b1 37 r.cells)]) ?_ ?_
    · ((repeat refine S.seq ?_); refine S.cond rfl (fun k2 => ?_) (fun k2 => ?_) <;> (try first | refine S.skip ?_ | refine S.exit ?_))
      · rw [k2]
        exact fun a w hR => ⟨(), hR.weak (by (repeat' (first | exact True.intro | exact Imp.refl _ | refine ⟨?_, ?_⟩))) (by (repeat (first | exact List.nil_sublist _ | refine List.Sublist.cons_cons _ ?_ | refine List.Sublist.cons _ ?_)))⟩
      rw [k2]
      ((repeat refine S.seq ?_); refine S.region (L.go (T := tt) tt_ok rfl rfl ?sd126 ?_); (try (case sd126 => (repeat' (first | exact trivial | with_reducible refine zI ?_ ?_)))); try (refine L.nil ?_))
      ((repeat refine S.seq ?_); refine S.cond rfl (fun k3 => ?_) (fun k3 => ?_) <;> (try first | refine S.skip ?_ | refine S.exit ?_))
      · rw [k3]
        exact fun a w hR => ⟨(), hR.weak (by (repeat' (first | exact True.intro | exact Imp.refl _ | refine ⟨?_, ?_⟩))) (by (repeat (first | exact List.nil_sublist _ | refine List.Sublist.cons_cons _ ?_ | refine List.Sublist.cons _ ?_)))⟩
      rw [k3]
      ((repeat refine S.seq ?_); refine S.region (L.go (T := tt) tt_ok rfl rfl ?sd127 ?_); (try (case sd127 => (repeat' (first | exact trivial | with_reducible refine zI ?_ ?_)))); try (refine L.nil ?_))
      exact fun a w hR => ⟨(), hR.weak (by (repeat' (first | exact True.intro | exact Imp.refl _ | refine ⟨?_, ?_⟩))) (by (repeat (first | exact List.nil_sublist _ | refine List.Sublist.cons_cons _ ?_ | refine List.Sublist.cons _ ?_)))⟩
    rintro ⟨⟩
    ((repeat refine S.seq ?_); refine S.cond rfl (fun k2 => ?_) (fun k2 => ?_) <;> (try first | refine S.skip ?_ | refine S.exit ?_))
    · have k2 : r.kind = 2 ∨ r.kind = 3 ∨ r.kind = 4 := by simpa using k2
      ((repeat refine S.seq ?_); refine S.region (L.go (T := tt) tt_ok rfl rfl ?sd128 ?_); (try (case sd128 => (repeat' (first | exact trivial | with_reducible refine zI ?_ ?_ | rfl)))); try (refine L.nil ?_))
      refine L.call (G := wrR b30 y1 l1) (H := [(1, .blk b1 37 r.cells)]) rfl rfl rfl rfl rfl rfl rfl ⟨trivial, by (repeat' (first | exact trivial | with_reducible refine zI ?_ ?_))⟩ rfl (by exact Imps.refl [.ptr 30 b30 0, .v (.int .i64 r.tag), .v (.int .i64 4)]) (List.Perm.refl _) (wnum_p b30 y1 l1 r.tag 4 (by decide) (by omega)) ?_
      rintro x F' ⟨rfl, y2, rfl⟩
      (refine L.go (T := tt) tt_ok rfl rfl ?sd139 ?_; (try (case sd139 => (repeat' (first | exact trivial)))); try (refine L.nil ?_))
      exact fun a w hR => ⟨y2, hR.weakP (by (repeat' (first | exact True.intro | exact Imp.refl _ | refine ⟨?_, ?_⟩))) (Sub.of _ (List.Perm.of_eq (by rw [recL, if_neg k1, if_pos k2, hl1, List.append_nil])))⟩
    have k2 : ¬ (r.kind = 2 ∨ r.kind = 3 ∨ r.kind = 4) := by simpa using k2
    ((repeat refine S.seq ?_); refine S.region (L.go (T := tt) tt_ok rfl rfl ?sd129 ?_); (try (case sd129 => (repeat' (first | exact trivial | with_reducible refine zI ?_ ?_)))); try (refine L.nil ?_))
    ((repeat refine S.seq ?_); refine S.cond rfl (fun k4 => ?_) (fun k4 => ?_) <;> (try first | refine S.skip ?_ | refine S.exit ?_))
    · exact absurd (of_beq k4) h7
    exact fun a w hR => ⟨y1, hR.weakP (by (repeat' (first | exact True.intro | exact Imp.refl _ | refine ⟨?_, ?_⟩))) (Sub.of _ (List.Perm.of_eq (by rw [recL, if_neg k1, if_neg k2, hl1, List.append_nil, List.append_nil])))⟩
  intro y
  have hlen := recL_len e
  unfold wrR
  ((repeat refine S.seq ?_); refine S.region (L.go (T := tt) tt_ok rfl rfl ?sd130 ?_); (try (case sd130 => (repeat' (first | exact trivial | with_reducible refine zI ?_ ?_ | rfl)))); try (refine L.nil ?_))
  ((repeat refine S.seq ?_); refine S.cond rfl (fun h4 => ?_) (fun h4 => ?_) <;> (try first | refine S.skip ?_ | refine S.exit ?_))
  · have := of_dec h4
    omega
  ((repeat refine S.seq ?_); refine S.region (L.go (T := tt) tt_ok rfl rfl ?sd131 ?_); (try (case sd131 => (repeat' (first | exact trivial | with_reducible refine zI ?_ ?_ | rfl)))); try (refine L.nil ?_))
  refine freezeSlot 2 31 rfl rfl rfl (slotAs 2 (bytesL (recL r)) rfl (Imp.refl _) ?_)
  ((repeat refine S.seq ?_); refine S.ret ?_)
  exact E.retP (T := tt) tt_ok rfl rfl (by (repeat' (first | exact trivial | with_reducible refine zI ?_ ?_))) (Imp.refl _)
end Go.Proofs.Ytlbbcjlhnjnkeaa

/- Bytes as a record. -/
namespace Go.Proofs.Ytlbbcjlhnjnkeaa
set_option linter.unusedVariables false
set_option linter.unusedSimpArgs false
set_option maxHeartbeats 8000000
open Go.RowKit
set_option maxRecDepth 4000

def readM (s : RdD) : List Msg × RdD := msgsR (numR s 1).1.toNat (numR s 1).2
def rd0 (l : List UInt8) : RdD := ⟨l, false⟩
def rdK (l : List UInt8) : Int := (numR (rd0 l) 1).1
def rdN (l : List UInt8) : RdD := (numR (rd0 l) 1).2
def rdRec (l : List UInt8) : RecD × RdD :=
  if rdK l = 1 then (⟨rdK l, 0, false, (readM (rdN l)).1, shard0⟩, (readM (rdN l)).2)
  else if rdK l = 2 ∨ rdK l = 3 ∨ rdK l = 4 then (⟨rdK l, (numR (rdN l) 4).1, false, [], shard0⟩, (numR (rdN l) 4).2) else (⟨rdK l, 0, false, [], shard0⟩, rdN l)
def rec0 : RecD := ⟨0, 0, false, [], shard0⟩
def getBad (l : List UInt8) : Bool := (rdRec l).2.bad || putC (rdRec l).1 != 0 || !(strL (putB (rdRec l).1) == strL l)
def slipG (l : List UInt8) : RecD × Int := if getBad l then (rec0, 2) else ((rdRec l).1, 0)
theorem shard0_small : shard0.small := ⟨by simp [shard0], by simp [shard0], by simp [shard0]⟩
theorem rdRec_kind (l : List UInt8) : (rdRec l).1.kind = rdK l := by
  unfold rdRec
  split
  · rfl
  · split <;> rfl
theorem rdRec_ok (l : List UInt8) : RecOk (rdRec l).1 := by
  unfold rdRec
  split
  · rename_i h
    exact ⟨rfl, fun _ => rfl, fun h' => absurd h h', shard0_small⟩
  · split
    · exact ⟨rfl, fun _ => rfl, fun _ => rfl, shard0_small⟩
    · exact ⟨rfl, fun _ => rfl, fun _ => rfl, shard0_small⟩
def recZ : List AV := [.v (.int .i64 0), .v (.int .i64 0), .v (.bool false), .v (.slice none 0 0), .v (.bool false), .v (.int .i64 0), .v (.slice none 0 0), .v (.slice none 0 0), .v (.slice none 0 0)]
theorem recZ_imp : Imps recZ rec0.cells := ⟨Imp.refl _, Imp.refl _, Imp.refl _, Imp.nil _ _, Imp.refl _, Imp.refl _, Imp.nil _ _, Imp.nil _ _, Imp.nil _ _, trivial⟩

theorem slipget_p (l : List UInt8) (hl : l.length ≤ 1000000) (h7 : rdK l ≠ 7) : PFn Try.prog 12 [bytesL l] (.tup [(slipG l).1.av, .v (.int .i64 (slipG l).2)]) := by
  have hok := rdRec_ok l
  have hb1 := numR_b (rd0 l) 1
  have hb0 : (rd0 l).b = l := rfl
  rw [hb0] at hb1
  refine FnC.intro Try.func12 rfl Try.ntmps12 rfl ?_; intro off w0
  repeat refine S.seq ?_
  refine S.region ?_
  refine L.alloc (T := tt) 2 tt_ok rfl rfl rfl rfl rfl fun b2 => ?_
  (refine L.go (T := tt) tt_ok rfl rfl ?sd152 ?_; (try (case sd152 => (repeat' (first | exact trivial | with_reducible refine zI ?_ ?_)))); try (refine L.nil ?_))
  repeat refine S.seq ?_
  refine S.region ?_
  (refine L.go (T := tt) tt_ok rfl rfl ?sd153 ?_; (try (case sd153 => (repeat' (first | exact trivial | with_reducible refine zI ?_ ?_ | rfl | exact zN rfl)))); try (refine L.nil ?_))
  refine L.box 30 rfl rfl rfl rfl rfl trivial rfl fun b30 => ?_
  (refine L.go (T := tt) tt_ok rfl rfl ?sd154 ?_; (try (case sd154 => (repeat' (first | exact trivial | with_reducible refine zI ?_ ?_)))); try (refine L.nil ?_))
  refine rowsTo (rdR b30 (rd0 l) ++ [(2, .blk b2 37 recZ)]) (Sub.self _) ?_
  repeat refine S.seq ?_
  refine S.region ?_
  (refine L.go (T := tt) tt_ok rfl rfl ?sd155 ?_; (try (case sd155 => (repeat' (first | exact trivial | with_reducible refine zI ?_ ?_)))); try (refine L.nil ?_))
  refine L.call (G := rdR b30 (rd0 l)) (H := [(2, .blk b2 37 recZ)]) rfl rfl rfl rfl rfl rfl rfl ⟨trivial, by (repeat' (first | exact trivial | with_reducible refine zI ?_ ?_))⟩ rfl (by exact Imps.refl [.ptr 30 b30 0, .v (.int .i64 1)]) (List.Perm.refl _) (rnum_p b30 (rd0 l) 1 hl) ?_
  rintro x F' ⟨rfl, rfl⟩
  refine slotAs 12 (.v (.int .i64 (rdK l))) rfl (Imp.refl _) ?_
  refine rowsEq (rdR b30 (rdN l) ++ [(2, .blk b2 37 recZ)]) rfl ?_
  (refine L.go (T := tt) tt_ok rfl rfl ?sd156 ?_; (try (case sd156 => (repeat' (first | exact trivial | with_reducible refine zI ?_ ?_ | rfl | exact zN rfl)))); try (refine L.nil ?_))
  refine L.alloc (T := tt) 5 tt_ok rfl rfl rfl rfl rfl fun b5 => ?_
  (refine L.store (T := tt) tt_ok rfl rfl rfl rfl rfl rfl ?sd163 ?_; (try (case sd163 => (repeat' (first | exact trivial | with_reducible refine zI ?_ ?_ | rfl | exact zN rfl)))))
  refine L.nil ?_
  refine blkAs 5 (RecD.cells ⟨rdK l, 0, false, [], shard0⟩) rfl ⟨Imp.refl _, Imp.refl _, Imp.refl _, Imp.nil _ _, Imp.refl _, Imp.refl _, Imp.nil _ _, Imp.nil _ _, Imp.nil _ _, trivial⟩ ?_
  ((repeat refine S.seq ?_); refine S.region (L.go (T := tt) tt_ok rfl rfl ?sd140 ?_); (try (case sd140 => (repeat' (first | exact trivial | with_reducible refine zI ?_ ?_ | rfl)))); try (refine L.nil ?_))
  repeat refine S.seq ?_
  refine S.cut (ι := Unit) (fun _ => [(0, bytesL l), (2, .ptr 2 b2 0), (4, .ptr 30 b30 0), (5, .ptr 5 b5 0)]) (fun _ => rdR b30 (rdRec l).2 ++ [(5, .blk b5 37 (rdRec l).1.cells), (2, .blk b2 37 recZ)]) ?_ ?_
  · refine S.block ?_
    ((repeat refine S.seq ?_); refine S.region (L.go (T := tt) tt_ok rfl rfl ?sd141 ?_); (try (case sd141 => (repeat' (first | exact trivial | with_reducible refine zI ?_ ?_)))); try (refine L.nil ?_))
    ((repeat refine S.seq ?_); refine S.cond rfl (fun k1 => ?_) (fun k1 => ?_) <;> (try first | refine S.skip ?_ | refine S.exit ?_))
    · have k1 := of_beq k1
      have e : rdRec l = (⟨rdK l, 0, false, (readM (rdN l)).1, shard0⟩, (readM (rdN l)).2) := by rw [rdRec, if_pos k1]
      rw [e]
      ((repeat refine S.seq ?_); refine S.region (L.go (T := tt) tt_ok rfl rfl ?sd142 ?_); (try (case sd142 => (repeat' (first | exact trivial | with_reducible refine zI ?_ ?_)))); try (refine L.nil ?_))
      refine L.call (G := rdR b30 (rdN l)) (H := [(5, .blk b5 37 (RecD.cells ⟨rdK l, 0, false, [], shard0⟩)), (2, .blk b2 37 recZ)]) rfl rfl rfl rfl rfl rfl rfl ⟨trivial, by (repeat' (first | exact trivial | with_reducible refine zI ?_ ?_))⟩ rfl (by exact Imps.refl [.ptr 30 b30 0]) (by (repeat (first | exact pick0 | refine pickS (by first | exact p0 | exact pS p0 | exact pS (pS p0) | exact pS (pS (pS p0)) | exact pS (pS (pS (pS p0))) | exact pS (pS (pS (pS (pS p0)))) | exact pS (pS (pS (pS (pS (pS p0)))))) ?_))) (rmessages_p b30 (rdN l) (by unfold rdN; omega)) ?_
      rintro x F' ⟨y, rfl, rfl⟩
      refine freezeSlot 19 37 rfl rfl rfl (slotAs 19 (msgs (readM (rdN l)).1) rfl (Imp.refl _) ?_)
      refine rowsEq (rdR b30 (readM (rdN l)).2 ++ [(5, .blk b5 37 (RecD.cells ⟨rdK l, 0, false, [], shard0⟩)), (2, .blk b2 37 recZ)]) rfl ?_
      (refine L.go (T := tt) tt_ok rfl rfl ?sd157 ?_; (try (case sd157 => (repeat' (first | exact trivial | with_reducible refine zI ?_ ?_)))); try (refine L.nil ?_))
      (refine L.store (T := tt) tt_ok rfl rfl rfl rfl rfl rfl ?sd164 ?_; (try (case sd164 => (repeat' (first | exact trivial | with_reducible refine zI ?_ ?_ | rfl | exact zN rfl)))))
      refine L.nil ?_
      exact fun a w hR => ⟨(), hR.weakP (by (repeat' (first | exact True.intro | exact Imp.refl _ | refine ⟨?_, ?_⟩))) (by (repeat (first | exact Sub.refl _ | refine Sub.pick (by first | exact p0 | exact pS p0 | exact pS (pS p0) | exact pS (pS (pS p0)) | exact pS (pS (pS (pS p0))) | exact pS (pS (pS (pS (pS p0))))) ?_)))⟩
    have k1 := of_nbeq k1
    ((repeat refine S.seq ?_); refine S.region (L.go (T := tt) tt_ok rfl rfl ?sd143 ?_); (try (case sd143 => (repeat' (first | exact trivial | with_reducible refine zI ?_ ?_)))); try (refine L.nil ?_))
    repeat refine S.seq ?_
    refine S.cut (ι := Unit) (fun _ => [(0, bytesL l), (2, .ptr 2 b2 0), (4, .ptr 30 b30 0), (5, .ptr 5 b5 0), (15, .v (.int .i64 (rdK l))), (21, .v (.bool (rdK l == 2 || (rdK l == 3 || rdK l == 4))))]) (fun _ => rdR b30 (rdN l) ++ [(5, .blk b5 37 (RecD.cells ⟨rdK l, 0, false, [], shard0⟩)), (2, .blk b2 37 recZ)]) ?_ ?_
    · ((repeat refine S.seq ?_); refine S.cond rfl (fun k2 => ?_) (fun k2 => ?_) <;> (try first | refine S.skip ?_ | refine S.exit ?_))
      · rw [k2]
        exact fun a w hR => ⟨(), hR.weakP (by (repeat' (first | exact True.intro | exact Imp.refl _ | refine ⟨?_, ?_⟩))) (by (repeat (first | exact Sub.refl _ | refine Sub.pick (by first | exact p0 | exact pS p0 | exact pS (pS p0) | exact pS (pS (pS p0)) | exact pS (pS (pS (pS p0))) | exact pS (pS (pS (pS (pS p0))))) ?_)))⟩
      rw [k2]
      ((repeat refine S.seq ?_); refine S.region (L.go (T := tt) tt_ok rfl rfl ?sd144 ?_); (try (case sd144 => (repeat' (first | exact trivial | with_reducible refine zI ?_ ?_)))); try (refine L.nil ?_))
      ((repeat refine S.seq ?_); refine S.cond rfl (fun k3 => ?_) (fun k3 => ?_) <;> (try first | refine S.skip ?_ | refine S.exit ?_))
      · rw [k3]
        exact fun a w hR => ⟨(), hR.weakP (by (repeat' (first | exact True.intro | exact Imp.refl _ | refine ⟨?_, ?_⟩))) (by (repeat (first | exact Sub.refl _ | refine Sub.pick (by first | exact p0 | exact pS p0 | exact pS (pS p0) | exact pS (pS (pS p0)) | exact pS (pS (pS (pS p0))) | exact pS (pS (pS (pS (pS p0))))) ?_)))⟩
      rw [k3]
      ((repeat refine S.seq ?_); refine S.region (L.go (T := tt) tt_ok rfl rfl ?sd145 ?_); (try (case sd145 => (repeat' (first | exact trivial | with_reducible refine zI ?_ ?_)))); try (refine L.nil ?_))
      exact fun a w hR => ⟨(), hR.weakP (by (repeat' (first | exact True.intro | exact Imp.refl _ | refine ⟨?_, ?_⟩))) (by (repeat (first | exact Sub.refl _ | refine Sub.pick (by first | exact p0 | exact pS p0 | exact pS (pS p0) | exact pS (pS (pS p0)) | exact pS (pS (pS (pS p0))) | exact pS (pS (pS (pS (pS p0))))) ?_)))⟩
    rintro ⟨⟩
    ((repeat refine S.seq ?_); refine S.cond rfl (fun k2 => ?_) (fun k2 => ?_) <;> (try first | refine S.skip ?_ | refine S.exit ?_))
    · have k2 : rdK l = 2 ∨ rdK l = 3 ∨ rdK l = 4 := by simpa using k2
      have e : rdRec l = (⟨rdK l, (numR (rdN l) 4).1, false, [], shard0⟩, (numR (rdN l) 4).2) := by rw [rdRec, if_neg k1, if_pos k2]
      rw [e]
      ((repeat refine S.seq ?_); refine S.region (L.go (T := tt) tt_ok rfl rfl ?sd146 ?_); (try (case sd146 => (repeat' (first | exact trivial | with_reducible refine zI ?_ ?_)))); try (refine L.nil ?_))
      refine L.call (G := rdR b30 (rdN l)) (H := [(5, .blk b5 37 (RecD.cells ⟨rdK l, 0, false, [], shard0⟩)), (2, .blk b2 37 recZ)]) rfl rfl rfl rfl rfl rfl rfl ⟨trivial, by (repeat' (first | exact trivial | with_reducible refine zI ?_ ?_))⟩ rfl (by exact Imps.refl [.ptr 30 b30 0, .v (.int .i64 4)]) (List.Perm.refl _) (rnum_p b30 (rdN l) 4 (by unfold rdN; omega)) ?_
      rintro x F' ⟨rfl, rfl⟩
      refine rowsEq (rdR b30 (numR (rdN l) 4).2 ++ [(5, .blk b5 37 (RecD.cells ⟨rdK l, 0, false, [], shard0⟩)), (2, .blk b2 37 recZ)]) rfl ?_
      (refine L.go (T := tt) tt_ok rfl rfl ?sd158 ?_; (try (case sd158 => (repeat' (first | exact trivial | with_reducible refine zI ?_ ?_)))); try (refine L.nil ?_))
      (refine L.store (T := tt) tt_ok rfl rfl rfl rfl rfl rfl ?sd165 ?_; (try (case sd165 => (repeat' (first | exact trivial | with_reducible refine zI ?_ ?_ | rfl | exact zN rfl)))))
      refine L.nil ?_
      exact fun a w hR => ⟨(), hR.weakP (by (repeat' (first | exact True.intro | exact Imp.refl _ | refine ⟨?_, ?_⟩))) (by (repeat (first | exact Sub.refl _ | refine Sub.pick (by first | exact p0 | exact pS p0 | exact pS (pS p0) | exact pS (pS (pS p0)) | exact pS (pS (pS (pS p0))) | exact pS (pS (pS (pS (pS p0))))) ?_)))⟩
    have k2 : ¬ (rdK l = 2 ∨ rdK l = 3 ∨ rdK l = 4) := by simpa using k2
    have e : rdRec l = (⟨rdK l, 0, false, [], shard0⟩, rdN l) := by rw [rdRec, if_neg k1, if_neg k2]
    rw [e]
    ((repeat refine S.seq ?_); refine S.region (L.go (T := tt) tt_ok rfl rfl ?sd147 ?_); (try (case sd147 => (repeat' (first | exact trivial | with_reducible refine zI ?_ ?_)))); try (refine L.nil ?_))
    ((repeat refine S.seq ?_); refine S.cond rfl (fun k4 => ?_) (fun k4 => ?_) <;> (try first | refine S.skip ?_ | refine S.exit ?_))
    · exact absurd (of_beq k4) h7
    exact fun a w hR => ⟨(), hR.weakP (by (repeat' (first | exact True.intro | exact Imp.refl _ | refine ⟨?_, ?_⟩))) (Sub.self _)⟩
  rintro ⟨⟩
  have h7' : (rdRec l).1.kind ≠ 7 := by rw [rdRec_kind]; exact h7
  unfold slipG getBad
  obtain ⟨q, hq⟩ : ∃ q, q = rdRec l := ⟨_, rfl⟩
  rw [← hq] at h7' hok ⊢
  obtain ⟨r, s⟩ := q
  dsimp only at h7' hok ⊢
  unfold rdR rdC
  ((repeat refine S.seq ?_); refine S.region (L.go (T := tt) tt_ok rfl rfl ?sd148 ?_); (try (case sd148 => (repeat' (first | exact trivial | with_reducible refine zI ?_ ?_ | rfl | exact zN rfl)))); try (refine L.nil ?_))
  refine L.callP rfl rfl rfl rfl rfl rfl rfl ⟨trivial, by (repeat' (first | exact trivial | with_reducible refine zI ?_ ?_))⟩ rfl (Imps.refl _) (slipput_p r hok h7') ?_
  (refine L.go (T := tt) tt_ok rfl rfl ?sd159 ?_; (try (case sd159 => (repeat' (first | exact trivial | with_reducible refine zI ?_ ?_)))); try (refine L.nil ?_))
  ((repeat refine S.seq ?_); refine S.region (L.go (T := tt) tt_ok rfl rfl ?sd149 ?_); (try (case sd149 => (repeat' (first | exact trivial | exact zA | with_reducible refine zI ?_ ?_ | exact zB | exact zE | rfl)))); try (refine L.nil ?_))
  refine L.callG rfl rfl rfl rfl rfl rfl rfl (fun hb => ⟨trivial, hb, hb, trivial⟩) rfl (by exact Imps.refl [bytesL (putB r), bytesL l]) (fun _ => byteseq_p (putB r) l) ?_
  (refine L.go (T := tt) tt_ok rfl rfl ?sd160 ?_; (try (case sd160 => (repeat' (first | exact trivial | with_reducible refine zI ?_ ?_ | exact zB | exact zC)))); try (refine L.nil ?_))
  obtain ⟨bb, hbb⟩ : ∃ bb, bb = (s.bad || putC r != 0 || !(strL (putB r) == strL l)) := ⟨_, rfl⟩
  rw [← hbb]
  refine slotAs 51 (.v (.bool bb)) rfl (Imp.of_eq (by rw [hbb])) ?_
  ((repeat refine S.seq ?_); refine S.cond rfl (fun h3 => ?_) (fun h3 => ?_) <;> (try first | refine S.skip ?_ | refine S.exit ?_))
  · rw [h3]
    ((repeat refine S.seq ?_); refine S.region (L.go (T := tt) tt_ok rfl rfl ?sd150 ?_); (try (case sd150 => (repeat' (first | exact trivial | with_reducible refine zI ?_ ?_)))); try (refine L.nil ?_))
    (refine L.store (T := tt) tt_ok rfl rfl rfl rfl rfl rfl ?sd166 ?_; (try (case sd166 => (repeat' (first | exact trivial | with_reducible refine zI ?_ ?_ | rfl | exact zN rfl)))))
    (refine L.go (T := tt) tt_ok rfl rfl ?sd161 ?_; (try (case sd161 => (repeat' (first | exact trivial | with_reducible refine zI ?_ ?_)))); try (refine L.nil ?_))
    refine blkAs 2 rec0.cells rfl recZ_imp ?_
    ((repeat refine S.seq ?_); refine S.ret ?_)
    exact E.retP (T := tt) tt_ok rfl rfl (by (repeat' (first | exact trivial | with_reducible refine zI ?_ ?_ | rfl | exact zN rfl))) (Imp.refl _)
  rw [h3]
  ((repeat refine S.seq ?_); refine S.region (L.go (T := tt) tt_ok rfl rfl ?sd151 ?_); (try (case sd151 => (repeat' (first | exact trivial | with_reducible refine zI ?_ ?_ | rfl | exact zN rfl)))); try (refine L.nil ?_))
  (refine L.store (T := tt) tt_ok rfl rfl rfl rfl rfl rfl ?sd167 ?_; (try (case sd167 => (repeat' (first | exact trivial | with_reducible refine zI ?_ ?_ | rfl | exact zN rfl)))))
  (refine L.go (T := tt) tt_ok rfl rfl ?sd162 ?_; (try (case sd162 => (repeat' (first | exact trivial | with_reducible refine zI ?_ ?_)))); try (refine L.nil ?_))
  ((repeat refine S.seq ?_); refine S.ret ?_)
  exact E.retP (T := tt) tt_ok rfl rfl (by (repeat' (first | exact trivial | with_reducible refine zI ?_ ?_ | rfl | exact zN rfl))) (Imp.refl _)
end Go.Proofs.Ytlbbcjlhnjnkeaa
