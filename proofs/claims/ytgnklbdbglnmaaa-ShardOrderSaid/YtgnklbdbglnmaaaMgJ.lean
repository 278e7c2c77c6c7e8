/- Texts of this proof, laid together: SymBlk, BDo, TxA, TxB, TxC, Told13. -/
import Derived.Test.YtgnklbdbglnmaaaMgH
import Derived.Test.YtgnklbdbglnmaaaMgI
/- A block told otherwise; rows picked for a call. -/
namespace Go.Proofs.Ytgnklbdbglnmaaa
set_option linter.unusedVariables false
set_option linter.unusedSimpArgs false
set_option maxHeartbeats 8000000
open Go.RowKit

theorem blkAs {c : Ctx} {σ : Slots} {F : Rows} {K : Act → World → Prop} (id : Nat) {b : Nat} {T : TypeId} {cs : List AV} (cs' : List AV) (h : F.lookup id = some (.blk b T cs)) (hi : Imps cs cs')
    (next : ∀ a w, R c σ (setF id id (.blk b T cs') F) a w → K a w) : ∀ a w, R c σ F a w → K a w := by
  intro a w hR
  refine next a w ?_
  obtain ⟨L1, L2, h1, h2⟩ := setF_split h
  rw [h2]
  have hsat := hR.sat
  rw [h1] at hsat
  obtain ⟨i1, i2⟩ := hi.get
  obtain ⟨g1, g2⟩ := hsat.turn (i' := id) (r' := .blk b T cs') (w' := w) hR.off (Nat.le_refl _) (fun _ _ _ => rfl) (fun b hb => .inl hb) fun he => by
    obtain ⟨us, hh, hl, hu, hr⟩ := hsat.rows (id, .blk b T cs) (by simp)
    exact ⟨us, hh, hl.trans i1, hu, fun j A u hA hu => by
      obtain ⟨B, hB, hi⟩ := i2 j A hA
      exact hi _ _ _ ((hr j B u hB hu).ext he)⟩
  refine ⟨hR.len, hR.defers, hR.hoff, hR.kept, fun s hs b hb => ?_, g1, fun k A hA => (hR.slots k A hA).ext (by rw [h1]; exact g2)⟩
  rcases List.mem_append.1 hs with h3 | h3
  · exact hR.fresh s (by rw [h1]; simp [h3]) b hb
  · rcases List.mem_cons.1 h3 with rfl | h3
    · exact hR.fresh (id, .blk _ T cs) (by rw [h1]; simp) b hb
    · exact hR.fresh s (by rw [h1]; simp [h3]) b hb

theorem pickS {r : Nat × Row} {F F' G H : Rows} (h : F.Perm (r :: F')) (t : F'.Perm (G ++ H)) : F.Perm ((r :: G) ++ H) := h.trans (List.Perm.cons _ t)
theorem pick0 {F : Rows} : F.Perm ([] ++ F) := List.Perm.refl _

section
variable {P : Program} {c : Ctx} {σ : Slots} {F : Rows} {Q : Exit → Act → World → Prop} {ops : Array Oper} {rest : List Oper} {o : Oper}
/-- A guarded call that is made. -/
theorem O.callT {cl : Call} {x : Operand} {f d : Nat} {bb tt' : Bool} {caps As Bs : List AV} {p q : Prop} {G H : Rows} {Post : AV → Rows → Prop} (ho : o.op = .call cl) (hcl : cl.callee = .value x) (hg : guardA ops σ o = some (some (bb, tt'))) (hb : bb = tt') (hd : o.dst = some d) (hdN : Nat.blt d c.N = true) (hx : evalS σ x = some (.fn (.func f) caps, p)) (ha : argsA σ cl.args.toList = some (As, q))
    (hpq : p ∧ q) (hf : callable P f = true) (himp : Imps (As ++ caps) Bs) (hp : F.Perm (G ++ H)) (h : FnC P f Bs G Post) : O P ops c o σ F Q (G.map (·.1)) (PostOf Post) (fun i => (d, i.1.1) :: σ) (fun i => i.1.2 ++ H) := by
  intro a w hR K hK
  unfold Op1
  rw [if_pos ((guard_iff hR hg).2 hb)]
  obtain ⟨vs, h1, h2, h3⟩ := exec_call hR ho hcl hx ha hpq hf
  obtain ⟨i1, i2⟩ := himp.get
  simp only [Oper.wp]
  rw [h1, Oper.upon_enter, hd]
  exact call_core hR hp h (h2.trans i1) (fun j A u hA hu => by obtain ⟨B, hB, hi⟩ := i2 j A hA; exact hi _ _ _ (h3 j B u hB hu)) hdN fun r G' hP a' w' hR' hS hv => hK ⟨(r, G'), hP⟩ a' w' hR' hS (by rw [hd]; exact hv)
theorem L.callT {cl : Call} {x : Operand} {f d : Nat} {bb tt' : Bool} {caps As Bs : List AV} {p q : Prop} {G H : Rows} {Post : AV → Rows → Prop} (ho : o.op = .call cl) (hcl : cl.callee = .value x) (hg : guardA ops σ o = some (some (bb, tt'))) (hb : bb = tt') (hd : o.dst = some d) (hdN : Nat.blt d c.N = true) (hx : evalS σ x = some (.fn (.func f) caps, p)) (ha : argsA σ cl.args.toList = some (As, q))
    (hpq : p ∧ q) (hf : callable P f = true) (himp : Imps (As ++ caps) Bs) (hp : F.Perm (G ++ H)) (h : FnC P f Bs G Post) (next : ∀ r G', Post r G' → L P ops c rest ((d, r) :: σ) (G' ++ H) Q) : L P ops c (o :: rest) σ F Q :=
  L.of (O.callT ho hcl hg hb hd hdN hx ha hpq hf himp hp h) fun i => next i.1.1 i.1.2 i.2
end

end Go.Proofs.Ytgnklbdbglnmaaa

/- All or nothing. -/
namespace Go.Proofs.Ytgnklbdbglnmaaa
set_option linter.unusedVariables false
set_option linter.unusedSimpArgs false
set_option maxHeartbeats 8000000
open Go.RowKit
set_option maxRecDepth 4000

def intC (z : Int) : List AV := [.v (.int .i64 z)]
def ints (l : List Int) : AV := .lst 1 l.length (gOf intC l)
/-- So many acks, one behind the other. -/
def ackRun (s : Shard) (l : List Int) : Nat → Shard
  | 0 => s
  | k + 1 => (ackS (ackRun s l k) (l.getD k default)).1
theorem ackRun_fine {s : Shard} (h : s.fine) (l : List Int) : ∀ k, (ackRun s l k).fine
  | 0 => h
  | k + 1 => fine_ack _ (ackRun_fine h l k)
theorem ackRun_may {s : Shard} (h : May s) (l : List Int) : ∀ k, May (ackRun s l k)
  | 0 => h
  | k + 1 => may_ackR (ackRun_may h l k) _
def ackE (s : Shard) (l : List Int) (k : Nat) : Int := (ackS (ackRun s l k) (l.getD k default)).2
/-- The first ack that is refused; -1. -/
def ackAt (s : Shard) (l : List Int) : Int := pidx (fun k => ackE s l k != 0) l.length
def bdo (s : Shard) (put : List Msg) (l : List Int) : Shard × Int :=
  if put.length = 0 ∧ l.length = 0 then (s, 1) else if ackAt s l ≥ 0 then (s, ackE s l (ackAt s l).toNat) else if put.length = 0 then (ackRun s l l.length, 0)
  else if (putR (ackRun s l l.length) put).2 = 0 then ((putR (ackRun s l l.length) put).1, 0) else if (putR (ackRun s l l.length) put).2 = 8 then (ackRun s l l.length, 8) else (s, (putR (ackRun s l l.length) put).2)

theorem bdo_p (s : Shard) (put : List Msg) (l : List Int) (hs : s.fine) : PFn Try.prog 18 [s.av, msgs put, ints l] (.tup [(bdo s put l).1.av, .v (.int .i64 (bdo s put l).2)]) := by
  refine FnC.intro Try.func18 rfl Try.ntmps18 rfl ?_; intro off w0
  refine lenAt (sz := 1) (n := l.length) (g := gOf intC l) 2 rfl fun hn => ?_
  repeat refine S.seq ?_
  refine S.region ?_
  refine L.box 3 rfl rfl rfl rfl rfl trivial rfl fun b3 => ?_
  refine L.alloc (T := tt) 6 tt_ok rfl rfl rfl rfl rfl fun b6 => ?_
  (refine L.go (T := tt) tt_ok rfl rfl ?sd762 ?_; (try (case sd762 => (repeat' (first | exact trivial | exact zA | with_reducible refine zI ?_ ?_ | exact zB | exact zC | exact zD | exact zE | rfl | exact zN rfl | omega | assumption | (simp; done) | (simp [splice]; done) | (simp; omega) | (unfold fits; omega) | (unfold fits; simp_all; omega) | (simp_all; omega) | (simp_all; done) | intro _)))); try (refine L.nil ?_))
  repeat refine S.seq ?_
  refine S.scopeE 0 (ι := { p : Nat × Nat // p.1 ≤ l.length ∧ (∀ j, j < p.1 → (ackE s l j != 0) = false) ∧ ¬ (put.length = 0 ∧ l.length = 0) }) (fun k => [(1, msgs put), (2, ints l), (3, .ptr 3 b3 0), (6, .ptr 6 b6 0), (8, .ptr 8 k.1.2 0), (10, .v (.int .i64 k.1.1))])
    (fun k => [(8, .blk k.1.2 35 s.cells), (6, .blk b6 35 [.v (.bool false), .v (.int .i64 0), .v (.slice none 0 0), .v (.slice none 0 0), .v (.slice none 0 0)]), (3, .blk b3 35 (ackRun s l k.1.1).cells)]) (fun k => l.length - k.1.1) rfl ?_ ?_
  · rintro ⟨⟨k, b8⟩, hk, ik, h1'⟩ J hJ
    dsimp only at hk ik hJ ⊢
    have hf := ackRun_fine hs l k
    ((repeat refine S.seq ?_); refine S.region (L.go (T := tt) tt_ok rfl rfl ?sd746 ?_); (try (case sd746 => (repeat' (first | exact trivial | exact zA | with_reducible refine zI ?_ ?_ | exact zB | exact zC | exact zD | exact zE | rfl | exact zN rfl | omega | assumption | (simp; done) | (simp [splice]; done) | (simp; omega) | (unfold fits; omega) | (unfold fits; simp_all; omega) | (simp_all; omega) | (simp_all; done) | intro _)))); try (refine L.nil ?_))
    ((repeat refine S.seq ?_); refine S.cond rfl (fun h1 => ?_) (fun h1 => ?_) <;> (try first | refine S.skip ?_ | refine S.exit ?_))
    · have h2' := of_dec h1
      repeat refine S.seq ?_
      refine S.draw [(0, [3])] mixed ?_
      (refine H.ts (T := tt) [0, 1, 2, 3, 4] tt_ok (by kernel_rfl) (by kernel_rfl) (by kernel_rfl) (by intro ch a a' w h; obtain ⟨_, _, _, _, _, h, _⟩ := h; cases h) rfl ?sd780 ?_; (try (case sd780 => (repeat' (first | exact trivial | exact zA | with_reducible refine zI ?_ ?_ | exact zB | exact zC | exact zD | exact zE | rfl | exact zN rfl | omega | assumption | (simp; done) | (simp [splice]; done) | (simp; omega) | (unfold fits; omega) | (unfold fits; simp_all; omega) | (simp_all; omega) | (simp_all; done) | intro _)))))
      refine H.callP 5 rfl (by kernel_rfl) (by kernel_rfl) rfl rfl rfl rfl rfl rfl rfl ⟨trivial, by (repeat' (first | exact trivial | exact zA | with_reducible refine zI ?_ ?_ | exact zB | exact zC | exact zD | exact zE | rfl | exact zN rfl | omega | assumption | (simp; done) | (simp [splice]; done) | (simp; omega) | (unfold fits; omega) | (unfold fits; simp_all; omega) | (simp_all; omega) | (simp_all; done) | intro _))⟩ rfl (by exact Imps.refl _) ((ackR_p (ackRun s l k) (l.getD k default) hf)) ?_
      refine H.rebase ?_
      (refine H.ts (T := tt) [6, 7, 8] tt_ok (by kernel_rfl) (by kernel_rfl) (by kernel_rfl) (by intro ch a a' w h; obtain ⟨_, _, _, _, _, h, _⟩ := h; cases h) rfl ?sd781 ?_; (try (case sd781 => (repeat' (first | exact trivial | exact zA | with_reducible refine zI ?_ ?_ | exact zB | exact zC | exact zD | exact zE | rfl | exact zN rfl | omega | assumption | (simp; done) | (simp [splice]; done) | (simp; omega) | (unfold fits; omega) | (unfold fits; simp_all; omega) | (simp_all; omega) | (simp_all; done) | intro _)))))
      (refine H.store (T := tt) 9 rfl (by kernel_rfl) (by kernel_rfl) tt_ok rfl rfl rfl rfl rfl rfl ?sd783 rfl (by kernel_rfl) ?_; (try (case sd783 => (repeat' (first | exact trivial | exact zA | with_reducible refine zI ?_ ?_ | exact zB | exact zC | exact zD | exact zE | rfl | exact zN rfl | omega | assumption | (simp; done) | (simp [splice]; done) | (simp; omega) | (unfold fits; omega) | (unfold fits; simp_all; omega) | (simp_all; omega) | (simp_all; done) | intro _)))))
      (refine H.ts (T := tt) [10] tt_ok (by kernel_rfl) (by kernel_rfl) (by kernel_rfl) (by intro ch a a' w h; obtain ⟨_, _, _, _, _, h, _⟩ := h; cases h) rfl ?sd782 ?_; (try (case sd782 => (repeat' (first | exact trivial | exact zA | with_reducible refine zI ?_ ?_ | exact zB | exact zC | exact zD | exact zE | rfl | exact zN rfl | omega | assumption | (simp; done) | (simp [splice]; done) | (simp; omega) | (unfold fits; omega) | (unfold fits; simp_all; omega) | (simp_all; omega) | (simp_all; done) | intro _)))))
      refine H.done (by kernel_rfl) ?_
      ((repeat refine S.seq ?_); refine S.region (L.go (T := tt) tt_ok rfl rfl ?sd747 ?_); (try (case sd747 => (repeat' (first | exact trivial | exact zA | with_reducible refine zI ?_ ?_ | exact zB | exact zC | exact zD | exact zE | rfl | exact zN rfl | omega | assumption | (simp; done) | (simp [splice]; done) | (simp; omega) | (unfold fits; omega) | (unfold fits; simp_all; omega) | (simp_all; omega) | (simp_all; done) | intro _)))); try (refine L.nil ?_))
      ((repeat refine S.seq ?_); refine S.cond rfl (fun h2 => ?_) (fun h2 => ?_) <;> (try first | refine S.skip ?_ | refine S.exit ?_))
      · skip
        ((repeat refine S.seq ?_); refine S.region (L.go (T := tt) tt_ok rfl rfl ?sd748 ?_); (try (case sd748 => (repeat' (first | exact trivial | exact zA | with_reducible refine zI ?_ ?_ | exact zB | exact zC | exact zD | exact zE | rfl | exact zN rfl | omega | assumption | (simp; done) | (simp [splice]; done) | (simp; omega) | (unfold fits; omega) | (unfold fits; simp_all; omega) | (simp_all; omega) | (simp_all; done) | intro _)))); try (refine L.nil ?_))
        (refine L.store (T := tt) tt_ok rfl rfl rfl rfl rfl rfl ?sd772 ?_; (try (case sd772 => (repeat' (first | exact trivial | exact zA | with_reducible refine zI ?_ ?_ | exact zB | exact zC | exact zD | exact zE | rfl | exact zN rfl | omega | assumption | (simp; done) | (simp [splice]; done) | (simp; omega) | (unfold fits; omega) | (unfold fits; simp_all; omega) | (simp_all; omega) | (simp_all; done) | intro _)))))
        (refine L.go (T := tt) tt_ok rfl rfl ?sd763 ?_; (try (case sd763 => (repeat' (first | exact trivial | exact zA | with_reducible refine zI ?_ ?_ | exact zB | exact zC | exact zD | exact zE | rfl | exact zN rfl | omega | assumption | (simp; done) | (simp [splice]; done) | (simp; omega) | (unfold fits; omega) | (unfold fits; simp_all; omega) | (simp_all; omega) | (simp_all; done) | intro _)))); try (refine L.nil ?_))
        (((repeat refine S.seq ?_); refine S.ret ?_); refine E.retP (T := tt) tt_ok rfl rfl (by (repeat' (first | exact trivial | exact zA | with_reducible refine zI ?_ ?_ | exact zB | exact zC | exact zD | exact zE | rfl | exact zN rfl | omega | assumption | (simp; done) | (simp [splice]; done) | (simp; omega) | (unfold fits; omega) | (unfold fits; simp_all; omega) | (simp_all; omega) | (simp_all; done) | intro _))) (Imp.of_eq ?_))
        have hat : ackAt s l = k := pidx_some (by omega) h2 ik
        rw [bdo, if_neg h1', if_pos (by omega), hat]
        rfl
        -- HOLE 1
      have h3' : ackE s l k = 0 := by unfold ackE; simpa using h2
      -- HOLE 2
      ((repeat refine S.seq ?_); refine S.region (L.go (T := tt) tt_ok rfl rfl ?sd749 ?_); (try (case sd749 => (repeat' (first | exact trivial | exact zA | with_reducible refine zI ?_ ?_ | exact zB | exact zC | exact zD | exact zE | rfl | exact zN rfl | omega | assumption | (simp; done) | (simp [splice]; done) | (simp; omega) | (unfold fits; omega) | (unfold fits; simp_all; omega) | (simp_all; omega) | (simp_all; done) | intro _)))); try (refine L.nil ?_))
      repeat refine S.seq ?_
      refine S.goto ?_
      exact fun a w hR => ⟨rfl, hJ a w ⟨(k + 1, b8), by show k + 1 ≤ _; omega, upto_succ ik h2, h1'⟩ (by show l.length - (k + 1) < l.length - k; omega) (hR.weak (by (repeat' (first | exact True.intro | exact Imp.refl _ | refine ⟨?_, ?_⟩))) (by (repeat (first | exact List.nil_sublist _ | refine List.Sublist.cons_cons _ ?_ | refine List.Sublist.cons _ ?_))))⟩
    have h2' := of_dec' h1
    have hk0 : k = l.length := by omega
    subst hk0
    have hat : ackAt s l = -1 := pidx_none ik
    -- HOLE 3
    ((repeat refine S.seq ?_); refine S.region (L.go (T := tt) tt_ok rfl rfl ?sd750 ?_); (try (case sd750 => (repeat' (first | exact trivial | exact zA | with_reducible refine zI ?_ ?_ | exact zB | exact zC | exact zD | exact zE | rfl | exact zN rfl | omega | assumption | (simp; done) | (simp [splice]; done) | (simp; omega) | (unfold fits; omega) | (unfold fits; simp_all; omega) | (simp_all; omega) | (simp_all; done) | intro _)))); try (refine L.nil ?_))
    ((repeat refine S.seq ?_); refine S.cond rfl (fun h3 => ?_) (fun h3 => ?_) <;> (try first | refine S.skip ?_ | refine S.exit ?_))
    · skip
      ((repeat refine S.seq ?_); refine S.region (L.go (T := tt) tt_ok rfl rfl ?sd751 ?_); (try (case sd751 => (repeat' (first | exact trivial | exact zA | with_reducible refine zI ?_ ?_ | exact zB | exact zC | exact zD | exact zE | rfl | exact zN rfl | omega | assumption | (simp; done) | (simp [splice]; done) | (simp; omega) | (unfold fits; omega) | (unfold fits; simp_all; omega) | (simp_all; omega) | (simp_all; done) | intro _)))); try (refine L.nil ?_))
      (refine L.store (T := tt) tt_ok rfl rfl rfl rfl rfl rfl ?sd773 ?_; (try (case sd773 => (repeat' (first | exact trivial | exact zA | with_reducible refine zI ?_ ?_ | exact zB | exact zC | exact zD | exact zE | rfl | exact zN rfl | omega | assumption | (simp; done) | (simp [splice]; done) | (simp; omega) | (unfold fits; omega) | (unfold fits; simp_all; omega) | (simp_all; omega) | (simp_all; done) | intro _)))))
      (refine L.go (T := tt) tt_ok rfl rfl ?sd764 ?_; (try (case sd764 => (repeat' (first | exact trivial | exact zA | with_reducible refine zI ?_ ?_ | exact zB | exact zC | exact zD | exact zE | rfl | exact zN rfl | omega | assumption | (simp; done) | (simp [splice]; done) | (simp; omega) | (unfold fits; omega) | (unfold fits; simp_all; omega) | (simp_all; omega) | (simp_all; done) | intro _)))); try (refine L.nil ?_))
      (((repeat refine S.seq ?_); refine S.ret ?_); refine E.retP (T := tt) tt_ok rfl rfl (by (repeat' (first | exact trivial | exact zA | with_reducible refine zI ?_ ?_ | exact zB | exact zC | exact zD | exact zE | rfl | exact zN rfl | omega | assumption | (simp; done) | (simp [splice]; done) | (simp; omega) | (unfold fits; omega) | (unfold fits; simp_all; omega) | (simp_all; omega) | (simp_all; done) | intro _))) (Imp.of_eq ?_))
      have e : put.length = 0 := by simpa using h3
      rw [bdo, if_neg h1', if_neg (by omega), if_pos e]
      rfl
      -- HOLE 4
    have h4' : ¬ put.length = 0 := by simpa using h3
    -- HOLE 5
    ((repeat refine S.seq ?_); refine S.region (L.go (T := tt) tt_ok rfl rfl ?sd752 ?_); (try (case sd752 => (repeat' (first | exact trivial | exact zA | with_reducible refine zI ?_ ?_ | exact zB | exact zC | exact zD | exact zE | rfl | exact zN rfl | omega | assumption | (simp; done) | (simp [splice]; done) | (simp; omega) | (unfold fits; omega) | (unfold fits; simp_all; omega) | (simp_all; omega) | (simp_all; done) | intro _)))); try (refine L.nil ?_))
    refine L.callP rfl rfl rfl rfl rfl rfl rfl ⟨trivial, by (repeat' (first | exact trivial | exact zA | with_reducible refine zI ?_ ?_ | exact zB | exact zC | exact zD | exact zE | rfl | exact zN rfl | omega | assumption | (simp; done) | (simp [splice]; done) | (simp; omega) | (unfold fits; omega) | (unfold fits; simp_all; omega) | (simp_all; omega) | (simp_all; done) | intro _))⟩ rfl (Imps.refl _) (putR_p (ackRun s l l.length) put hf) ?_
    (refine L.go (T := tt) tt_ok rfl rfl ?sd765 ?_; (try (case sd765 => (repeat' (first | exact trivial | exact zA | with_reducible refine zI ?_ ?_ | exact zB | exact zC | exact zD | exact zE | rfl | exact zN rfl | omega | assumption | (simp; done) | (simp [splice]; done) | (simp; omega) | (unfold fits; omega) | (unfold fits; simp_all; omega) | (simp_all; omega) | (simp_all; done) | intro _)))); try (refine L.nil ?_))
    refine L.alloc (T := tt) 11 tt_ok rfl rfl rfl rfl rfl fun b11 => ?_
    (refine L.store (T := tt) tt_ok rfl rfl rfl rfl rfl rfl ?sd774 ?_; (try (case sd774 => (repeat' (first | exact trivial | exact zA | with_reducible refine zI ?_ ?_ | exact zB | exact zC | exact zD | exact zE | rfl | exact zN rfl | omega | assumption | (simp; done) | (simp [splice]; done) | (simp; omega) | (unfold fits; omega) | (unfold fits; simp_all; omega) | (simp_all; omega) | (simp_all; done) | intro _)))))
    (refine L.go (T := tt) tt_ok rfl rfl ?sd766 ?_; (try (case sd766 => (repeat' (first | exact trivial | exact zA | with_reducible refine zI ?_ ?_ | exact zB | exact zC | exact zD | exact zE | rfl | exact zN rfl | omega | assumption | (simp; done) | (simp [splice]; done) | (simp; omega) | (unfold fits; omega) | (unfold fits; simp_all; omega) | (simp_all; omega) | (simp_all; done) | intro _)))); try (refine L.nil ?_))
    ((repeat refine S.seq ?_); refine S.region (L.go (T := tt) tt_ok rfl rfl ?sd753 ?_); (try (case sd753 => (repeat' (first | exact trivial | exact zA | with_reducible refine zI ?_ ?_ | exact zB | exact zC | exact zD | exact zE | rfl | exact zN rfl | omega | assumption | (simp; done) | (simp [splice]; done) | (simp; omega) | (unfold fits; omega) | (unfold fits; simp_all; omega) | (simp_all; omega) | (simp_all; done) | intro _)))); try (refine L.nil ?_))
    repeat refine S.seq ?_
    refine S.block ?_
    ((repeat refine S.seq ?_); refine S.region (L.go (T := tt) tt_ok rfl rfl ?sd754 ?_); (try (case sd754 => (repeat' (first | exact trivial | exact zA | with_reducible refine zI ?_ ?_ | exact zB | exact zC | exact zD | exact zE | rfl | exact zN rfl | omega | assumption | (simp; done) | (simp [splice]; done) | (simp; omega) | (unfold fits; omega) | (unfold fits; simp_all; omega) | (simp_all; omega) | (simp_all; done) | intro _)))); try (refine L.nil ?_))
    ((repeat refine S.seq ?_); refine S.cond rfl (fun h4 => ?_) (fun h4 => ?_) <;> (try first | refine S.skip ?_ | refine S.exit ?_))
    · skip
      ((repeat refine S.seq ?_); refine S.region (L.go (T := tt) tt_ok rfl rfl ?sd755 ?_); (try (case sd755 => (repeat' (first | exact trivial | exact zA | with_reducible refine zI ?_ ?_ | exact zB | exact zC | exact zD | exact zE | rfl | exact zN rfl | omega | assumption | (simp; done) | (simp [splice]; done) | (simp; omega) | (unfold fits; omega) | (unfold fits; simp_all; omega) | (simp_all; omega) | (simp_all; done) | intro _)))); try (refine L.nil ?_))
      (refine L.store (T := tt) tt_ok rfl rfl rfl rfl rfl rfl ?sd775 ?_; (try (case sd775 => (repeat' (first | exact trivial | exact zA | with_reducible refine zI ?_ ?_ | exact zB | exact zC | exact zD | exact zE | rfl | exact zN rfl | omega | assumption | (simp; done) | (simp [splice]; done) | (simp; omega) | (unfold fits; omega) | (unfold fits; simp_all; omega) | (simp_all; omega) | (simp_all; done) | intro _)))))
      (refine L.go (T := tt) tt_ok rfl rfl ?sd767 ?_; (try (case sd767 => (repeat' (first | exact trivial | exact zA | with_reducible refine zI ?_ ?_ | exact zB | exact zC | exact zD | exact zE | rfl | exact zN rfl | omega | assumption | (simp; done) | (simp [splice]; done) | (simp; omega) | (unfold fits; omega) | (unfold fits; simp_all; omega) | (simp_all; omega) | (simp_all; done) | intro _)))); try (refine L.nil ?_))
      (((repeat refine S.seq ?_); refine S.ret ?_); refine E.retP (T := tt) tt_ok rfl rfl (by (repeat' (first | exact trivial | exact zA | with_reducible refine zI ?_ ?_ | exact zB | exact zC | exact zD | exact zE | rfl | exact zN rfl | omega | assumption | (simp; done) | (simp [splice]; done) | (simp; omega) | (unfold fits; omega) | (unfold fits; simp_all; omega) | (simp_all; omega) | (simp_all; done) | intro _))) (Imp.of_eq ?_))
      have e : (putR (ackRun s l l.length) put).2 = 0 := by simpa using h4
      rw [bdo, if_neg h1', if_neg (by omega), if_neg h4', if_pos e, e]
      rfl
      -- HOLE 6
    have h5' : ¬ (putR (ackRun s l l.length) put).2 = 0 := by simpa using h4
    -- HOLE 7
    ((repeat refine S.seq ?_); refine S.region (L.go (T := tt) tt_ok rfl rfl ?sd756 ?_); (try (case sd756 => (repeat' (first | exact trivial | exact zA | with_reducible refine zI ?_ ?_ | exact zB | exact zC | exact zD | exact zE | rfl | exact zN rfl | omega | assumption | (simp; done) | (simp [splice]; done) | (simp; omega) | (unfold fits; omega) | (unfold fits; simp_all; omega) | (simp_all; omega) | (simp_all; done) | intro _)))); try (refine L.nil ?_))
    ((repeat refine S.seq ?_); refine S.cond rfl (fun h5 => ?_) (fun h5 => ?_) <;> (try first | refine S.skip ?_ | refine S.exit ?_))
    · skip
      ((repeat refine S.seq ?_); refine S.region (L.go (T := tt) tt_ok rfl rfl ?sd757 ?_); (try (case sd757 => (repeat' (first | exact trivial | exact zA | with_reducible refine zI ?_ ?_ | exact zB | exact zC | exact zD | exact zE | rfl | exact zN rfl | omega | assumption | (simp; done) | (simp [splice]; done) | (simp; omega) | (unfold fits; omega) | (unfold fits; simp_all; omega) | (simp_all; omega) | (simp_all; done) | intro _)))); try (refine L.nil ?_))
      (refine L.store (T := tt) tt_ok rfl rfl rfl rfl rfl rfl ?sd776 ?_; (try (case sd776 => (repeat' (first | exact trivial | exact zA | with_reducible refine zI ?_ ?_ | exact zB | exact zC | exact zD | exact zE | rfl | exact zN rfl | omega | assumption | (simp; done) | (simp [splice]; done) | (simp; omega) | (unfold fits; omega) | (unfold fits; simp_all; omega) | (simp_all; omega) | (simp_all; done) | intro _)))))
      (refine L.go (T := tt) tt_ok rfl rfl ?sd768 ?_; (try (case sd768 => (repeat' (first | exact trivial | exact zA | with_reducible refine zI ?_ ?_ | exact zB | exact zC | exact zD | exact zE | rfl | exact zN rfl | omega | assumption | (simp; done) | (simp [splice]; done) | (simp; omega) | (unfold fits; omega) | (unfold fits; simp_all; omega) | (simp_all; omega) | (simp_all; done) | intro _)))); try (refine L.nil ?_))
      (((repeat refine S.seq ?_); refine S.ret ?_); refine E.retP (T := tt) tt_ok rfl rfl (by (repeat' (first | exact trivial | exact zA | with_reducible refine zI ?_ ?_ | exact zB | exact zC | exact zD | exact zE | rfl | exact zN rfl | omega | assumption | (simp; done) | (simp [splice]; done) | (simp; omega) | (unfold fits; omega) | (unfold fits; simp_all; omega) | (simp_all; omega) | (simp_all; done) | intro _))) (Imp.of_eq ?_))
      have e : (putR (ackRun s l l.length) put).2 = 8 := by simpa using h5
      rw [bdo, if_neg h1', if_neg (by omega), if_neg h4', if_neg h5', if_pos e, e]
      rfl
      -- HOLE 8
    have h6' : ¬ (putR (ackRun s l l.length) put).2 = 8 := by simpa using h5
    -- HOLE 9
    ((repeat refine S.seq ?_); refine S.region (L.go (T := tt) tt_ok rfl rfl ?sd758 ?_); (try (case sd758 => (repeat' (first | exact trivial | exact zA | with_reducible refine zI ?_ ?_ | exact zB | exact zC | exact zD | exact zE | rfl | exact zN rfl | omega | assumption | (simp; done) | (simp [splice]; done) | (simp; omega) | (unfold fits; omega) | (unfold fits; simp_all; omega) | (simp_all; omega) | (simp_all; done) | intro _)))); try (refine L.nil ?_))
    (refine L.store (T := tt) tt_ok rfl rfl rfl rfl rfl rfl ?sd777 ?_; (try (case sd777 => (repeat' (first | exact trivial | exact zA | with_reducible refine zI ?_ ?_ | exact zB | exact zC | exact zD | exact zE | rfl | exact zN rfl | omega | assumption | (simp; done) | (simp [splice]; done) | (simp; omega) | (unfold fits; omega) | (unfold fits; simp_all; omega) | (simp_all; omega) | (simp_all; done) | intro _)))))
    (refine L.go (T := tt) tt_ok rfl rfl ?sd769 ?_; (try (case sd769 => (repeat' (first | exact trivial | exact zA | with_reducible refine zI ?_ ?_ | exact zB | exact zC | exact zD | exact zE | rfl | exact zN rfl | omega | assumption | (simp; done) | (simp [splice]; done) | (simp; omega) | (unfold fits; omega) | (unfold fits; simp_all; omega) | (simp_all; omega) | (simp_all; done) | intro _)))); try (refine L.nil ?_))
    (((repeat refine S.seq ?_); refine S.ret ?_); refine E.retP (T := tt) tt_ok rfl rfl (by (repeat' (first | exact trivial | exact zA | with_reducible refine zI ?_ ?_ | exact zB | exact zC | exact zD | exact zE | rfl | exact zN rfl | omega | assumption | (simp; done) | (simp [splice]; done) | (simp; omega) | (unfold fits; omega) | (unfold fits; simp_all; omega) | (simp_all; omega) | (simp_all; done) | intro _))) (Imp.of_eq ?_))
    rw [bdo, if_neg h1', if_neg (by omega), if_neg h4', if_neg h5', if_neg h6']
    rfl
    -- HOLE 10
  · intro hp
    ((repeat refine S.seq ?_); refine S.region (L.go (T := tt) tt_ok rfl rfl ?sd759 ?_); (try (case sd759 => (repeat' (first | exact trivial | exact zA | with_reducible refine zI ?_ ?_ | exact zB | exact zC | exact zD | exact zE | rfl | exact zN rfl | omega | assumption | (simp; done) | (simp [splice]; done) | (simp; omega) | (unfold fits; omega) | (unfold fits; simp_all; omega) | (simp_all; omega) | (simp_all; done) | intro _)))); try (refine L.nil ?_))
    refine L.alloc (T := tt) 8 tt_ok rfl rfl rfl rfl rfl fun b8 => ?_
    (refine L.store (T := tt) tt_ok rfl rfl rfl rfl rfl rfl ?sd778 ?_; (try (case sd778 => (repeat' (first | exact trivial | exact zA | with_reducible refine zI ?_ ?_ | exact zB | exact zC | exact zD | exact zE | rfl | exact zN rfl | omega | assumption | (simp; done) | (simp [splice]; done) | (simp; omega) | (unfold fits; omega) | (unfold fits; simp_all; omega) | (simp_all; omega) | (simp_all; done) | intro _)))))
    (refine L.go (T := tt) tt_ok rfl rfl ?sd770 ?_; (try (case sd770 => (repeat' (first | exact trivial | exact zA | with_reducible refine zI ?_ ?_ | exact zB | exact zC | exact zD | exact zE | rfl | exact zN rfl | omega | assumption | (simp; done) | (simp [splice]; done) | (simp; omega) | (unfold fits; omega) | (unfold fits; simp_all; omega) | (simp_all; omega) | (simp_all; done) | intro _)))); try (refine L.nil ?_))
    ((repeat refine S.seq ?_); refine S.region (L.go (T := tt) tt_ok rfl rfl ?sd760 ?_); (try (case sd760 => (repeat' (first | exact trivial | exact zA | with_reducible refine zI ?_ ?_ | exact zB | exact zC | exact zD | exact zE | rfl | exact zN rfl | omega | assumption | (simp; done) | (simp [splice]; done) | (simp; omega) | (unfold fits; omega) | (unfold fits; simp_all; omega) | (simp_all; omega) | (simp_all; done) | intro _)))); try (refine L.nil ?_))
    ((repeat refine S.seq ?_); refine S.cond rfl (fun h6 => ?_) (fun h6 => ?_) <;> (try first | refine S.skip ?_ | refine S.exit ?_))
    · skip
      ((repeat refine S.seq ?_); refine S.region (L.go (T := tt) tt_ok rfl rfl ?sd761 ?_); (try (case sd761 => (repeat' (first | exact trivial | exact zA | with_reducible refine zI ?_ ?_ | exact zB | exact zC | exact zD | exact zE | rfl | exact zN rfl | omega | assumption | (simp; done) | (simp [splice]; done) | (simp; omega) | (unfold fits; omega) | (unfold fits; simp_all; omega) | (simp_all; omega) | (simp_all; done) | intro _)))); try (refine L.nil ?_))
      (refine L.store (T := tt) tt_ok rfl rfl rfl rfl rfl rfl ?sd779 ?_; (try (case sd779 => (repeat' (first | exact trivial | exact zA | with_reducible refine zI ?_ ?_ | exact zB | exact zC | exact zD | exact zE | rfl | exact zN rfl | omega | assumption | (simp; done) | (simp [splice]; done) | (simp; omega) | (unfold fits; omega) | (unfold fits; simp_all; omega) | (simp_all; omega) | (simp_all; done) | intro _)))))
      (refine L.go (T := tt) tt_ok rfl rfl ?sd771 ?_; (try (case sd771 => (repeat' (first | exact trivial | exact zA | with_reducible refine zI ?_ ?_ | exact zB | exact zC | exact zD | exact zE | rfl | exact zN rfl | omega | assumption | (simp; done) | (simp [splice]; done) | (simp; omega) | (unfold fits; omega) | (unfold fits; simp_all; omega) | (simp_all; omega) | (simp_all; done) | intro _)))); try (refine L.nil ?_))
      (((repeat refine S.seq ?_); refine S.ret ?_); refine E.retP (T := tt) tt_ok rfl rfl (by (repeat' (first | exact trivial | exact zA | with_reducible refine zI ?_ ?_ | exact zB | exact zC | exact zD | exact zE | rfl | exact zN rfl | omega | assumption | (simp; done) | (simp [splice]; done) | (simp; omega) | (unfold fits; omega) | (unfold fits; simp_all; omega) | (simp_all; omega) | (simp_all; done) | intro _))) (Imp.of_eq ?_))
      have e : put.length = 0 ∧ l.length = 0 := by simpa only [Bool.and_eq_true, beq_iff_eq, Int.natCast_eq_zero] using h6
      rw [bdo, if_pos e]
      rfl
      -- HOLE 11
    have h1' : ¬ (put.length = 0 ∧ l.length = 0) := by
      intro e
      have : (((put.length : Int) == 0) && ((l.length : Int) == 0)) = true := by rw [e.1, e.2]; rfl
      exact bad this h6
    -- HOLE 12
    repeat refine S.seq ?_
    refine S.label ?_
    exact fun a w hR => hp ⟨(0, b8), Nat.zero_le _, fun j hj => absurd hj (by show ¬ j < 0; omega), h1'⟩ a w (hR.weak (by (repeat' (first | exact True.intro | exact Imp.refl _ | refine ⟨?_, ?_⟩))) (by (repeat (first | exact List.nil_sublist _ | refine List.Sublist.cons_cons _ ?_ | refine List.Sublist.cons _ ?_))))

end Go.Proofs.Ytgnklbdbglnmaaa

/- A transaction's gathering. -/
namespace Go.Proofs.Ytgnklbdbglnmaaa
set_option linter.unusedVariables false
set_option linter.unusedSimpArgs false
set_option maxHeartbeats 8000000
open Go.RowKit
set_option maxRecDepth 4000

structure Tx where
  pub : Int
  queue : Int
  key : ByteArray
  put : List Msg
  ack : List Int
def Tx.cells (t : Tx) (p a : Value) : List AV := [.v (.int .i64 t.pub), .v (.int .i64 t.queue), .v (.string t.key), .ref 21 p, .ref 22 a]
/-- A transaction in memory. -/
def txR (b : Nat) (p a : Value) (t : Tx) : Rows := [(20, .blk b 77 (t.cells p a)), (21, .own p 46 5 t.put.length (gOf Msg.cells t.put)), (22, .own a 3 1 t.ack.length (gOf intC t.ack))]
def Tx.len (t : Tx) : Int := (t.put.length : Int) + t.ack.length
def Tx.here (t : Tx) (q : Int) (key : ByteArray) : Int := if (decide (t.len > 0) && (t.queue != q || !(t.key == key))) = true then 540 else 0
def Tx.msg (t : Tx) (key : ByteArray) (seq : Int) (body : ByteArray) : Msg := ⟨t.pub, seq, key, body, false⟩
def Tx.pubE (t : Tx) (q : Int) (key : ByteArray) (seq : Int) (body : ByteArray) : Int :=
  if (!mayMsg (t.msg key seq body) || decide (q < 0) || decide (q ≥ 4)) = true then 1 else if t.here q key ≠ 0 then t.here q key else if t.put.length = 8 then 4
  else if (decide ((t.put.length : Int) > 0) && seq != (t.put.getD ((t.put.length : Int) - 1).toNat default).seq + 1) = true then 1 else 0
def Tx.pubT (t : Tx) (q : Int) (key : ByteArray) (seq : Int) (body : ByteArray) : Tx := if t.pubE q key seq body = 0 then { t with queue := q, key := key, put := t.put ++ [t.msg key seq body] } else t

theorem txlen_p (b : Nat) (p a : Value) (t : Tx) (h1 : t.put.length ≤ 1000) (h2 : t.ack.length ≤ 1000) : FnC Try.prog 16 [.ptr 20 b 0] (txR b p a t) (fun r F' => r = .v (.int .i64 t.len) ∧ F' = txR b p a t) := by
  unfold txR
  refine FnC.intro Try.func16 rfl Try.ntmps16 rfl ?_; intro off w0
  ((repeat refine S.seq ?_); refine S.region (L.go (T := tt) tt_ok rfl rfl ?sd784 ?_); (try (case sd784 => (repeat' (first | exact trivial | exact zA | with_reducible refine zI ?_ ?_ | exact zB | exact zC | exact zD | exact zE | rfl | exact zN rfl | omega | assumption | (simp; done) | (simp [splice]; done) | (simp; omega) | (unfold fits; omega) | (unfold fits; simp_all; omega) | (simp_all; omega) | (simp_all; done) | intro _)))); try (refine L.nil ?_))
  ((repeat refine S.seq ?_); refine S.region (L.go (T := tt) tt_ok rfl rfl ?sd785 ?_); (try (case sd785 => (repeat' (first | exact trivial | exact zA | with_reducible refine zI ?_ ?_ | exact zB | exact zC | exact zD | exact zE | rfl | exact zN rfl | omega | assumption | (simp; done) | (simp [splice]; done) | (simp; omega) | (unfold fits; omega) | (unfold fits; simp_all; omega) | (simp_all; omega) | (simp_all; done) | intro _)))); try (refine L.nil ?_))
  ((repeat refine S.seq ?_); refine S.cond rfl (fun hc => ?_) (fun hc => ?_) <;> (try first | refine S.skip ?_ | refine S.exit ?_))
  · skip
    ((repeat refine S.seq ?_); refine S.region (L.go (T := tt) tt_ok rfl rfl ?sd786 ?_); (try (case sd786 => (repeat' (first | exact trivial | exact zA | with_reducible refine zI ?_ ?_ | exact zB | exact zC | exact zD | exact zE | rfl | exact zN rfl | omega | assumption | (simp; done) | (simp [splice]; done) | (simp; omega) | (unfold fits; omega) | (unfold fits; simp_all; omega) | (simp_all; omega) | (simp_all; done) | intro _)))); try (refine L.nil ?_))
    cases hc
  repeat refine S.seq ?_
  refine S.draw [(3, [20]), (8, [20])] mixed ?_
  (refine H.ts (T := tt) [0, 1, 2, 3, 4, 5, 6, 7, 8, 9, 10, 11] tt_ok (by kernel_rfl) (by kernel_rfl) (by kernel_rfl) (by intro ch a a' w h; obtain ⟨_, _, _, _, _, h, _⟩ := h; cases h) rfl ?sd810 ?_; (try (case sd810 => (repeat' (first | exact trivial | exact zA | with_reducible refine zI ?_ ?_ | exact zB | exact zC | exact zD | exact zE | rfl | exact zN rfl | omega | assumption | (simp; done) | (simp [splice]; done) | (simp; omega) | (unfold fits; omega) | (unfold fits; simp_all; omega) | (simp_all; omega) | (simp_all; done) | intro _)))))
  refine H.done (by kernel_rfl) ?_
  ((repeat refine S.seq ?_); refine S.ret ?_)
  exact E.ret (T := tt) tt_ok rfl rfl (by (repeat' (first | exact trivial | exact zA | with_reducible refine zI ?_ ?_ | exact zB | exact zC | exact zD | exact zE | rfl | exact zN rfl | omega | assumption | (simp; done) | (simp [splice]; done) | (simp; omega) | (unfold fits; omega) | (unfold fits; simp_all; omega) | (simp_all; omega) | (simp_all; done) | intro _))) (Imp.refl _) (by (repeat (first | exact List.nil_sublist _ | refine List.Sublist.cons_cons _ ?_ | refine List.Sublist.cons _ ?_))) ⟨rfl, rfl⟩

theorem here_p (b : Nat) (p a : Value) (t : Tx) (q : Int) (key : ByteArray) (h1 : t.put.length ≤ 1000) (h2 : t.ack.length ≤ 1000) : FnC Try.prog 51 [.ptr 20 b 0, .v (.int .i64 q), .v (.string key)] (txR b p a t) (fun r F' => r = .v (.int .i64 (t.here q key)) ∧ F' = txR b p a t) := by
  refine FnC.intro Try.func51 rfl Try.ntmps51 rfl ?_; intro off w0
  ((repeat refine S.seq ?_); refine S.region (L.go (T := tt) tt_ok rfl rfl ?sd787 ?_); (try (case sd787 => (repeat' (first | exact trivial | exact zA | with_reducible refine zI ?_ ?_ | exact zB | exact zC | exact zD | exact zE | rfl | exact zN rfl | omega | assumption | (simp; done) | (simp [splice]; done) | (simp; omega) | (unfold fits; omega) | (unfold fits; simp_all; omega) | (simp_all; omega) | (simp_all; done) | intro _)))); try (refine L.nil ?_))
  ((repeat refine S.seq ?_); refine S.region (L.go (T := tt) tt_ok rfl rfl ?sd788 ?_); (try (case sd788 => (repeat' (first | exact trivial | exact zA | with_reducible refine zI ?_ ?_ | exact zB | exact zC | exact zD | exact zE | rfl | exact zN rfl | omega | assumption | (simp; done) | (simp [splice]; done) | (simp; omega) | (unfold fits; omega) | (unfold fits; simp_all; omega) | (simp_all; omega) | (simp_all; done) | intro _)))); try (refine L.nil ?_))
  refine L.call (G := txR b p a t) (H := []) rfl rfl rfl rfl rfl rfl rfl ⟨trivial, by (repeat' (first | exact trivial | exact zA | with_reducible refine zI ?_ ?_ | exact zB | exact zC | exact zD | exact zE | rfl | exact zN rfl | omega | assumption | (simp; done) | (simp [splice]; done) | (simp; omega) | (unfold fits; omega) | (unfold fits; simp_all; omega) | (simp_all; omega) | (simp_all; done) | intro _))⟩ rfl (Imps.refl _) (List.Perm.refl _) (txlen_p b p a t h1 h2) ?_
  rintro r F' ⟨rfl, rfl⟩
  unfold txR
  (refine L.go (T := tt) tt_ok rfl rfl ?sd806 ?_; (try (case sd806 => (repeat' (first | exact trivial | exact zA | with_reducible refine zI ?_ ?_ | exact zB | exact zC | exact zD | exact zE | rfl | exact zN rfl | omega | assumption | (simp; done) | (simp [splice]; done) | (simp; omega) | (unfold fits; omega) | (unfold fits; simp_all; omega) | (simp_all; omega) | (simp_all; done) | intro _)))); try (refine L.nil ?_))
  ((repeat refine S.seq ?_); refine S.cond rfl (fun hc => ?_) (fun hc => ?_) <;> (try first | refine S.skip ?_ | refine S.exit ?_))
  · skip
    ((repeat refine S.seq ?_); refine S.region (L.go (T := tt) tt_ok rfl rfl ?sd789 ?_); (try (case sd789 => (repeat' (first | exact trivial | exact zA | with_reducible refine zI ?_ ?_ | exact zB | exact zC | exact zD | exact zE | rfl | exact zN rfl | omega | assumption | (simp; done) | (simp [splice]; done) | (simp; omega) | (unfold fits; omega) | (unfold fits; simp_all; omega) | (simp_all; omega) | (simp_all; done) | intro _)))); try (refine L.nil ?_))
    ((repeat refine S.seq ?_); refine S.ret ?_)
    have e : t.here q key = 540 := by rw [Tx.here]; exact if_pos hc
    rw [e]
    exact E.ret (T := tt) tt_ok rfl rfl (by (repeat' (first | exact trivial | exact zA | with_reducible refine zI ?_ ?_ | exact zB | exact zC | exact zD | exact zE | rfl | exact zN rfl | omega | assumption | (simp; done) | (simp [splice]; done) | (simp; omega) | (unfold fits; omega) | (unfold fits; simp_all; omega) | (simp_all; omega) | (simp_all; done) | intro _))) (Imp.refl _) (by (repeat (first | exact List.nil_sublist _ | refine List.Sublist.cons_cons _ ?_ | refine List.Sublist.cons _ ?_))) ⟨rfl, rfl⟩
  ((repeat refine S.seq ?_); refine S.region (L.go (T := tt) tt_ok rfl rfl ?sd790 ?_); (try (case sd790 => (repeat' (first | exact trivial | exact zA | with_reducible refine zI ?_ ?_ | exact zB | exact zC | exact zD | exact zE | rfl | exact zN rfl | omega | assumption | (simp; done) | (simp [splice]; done) | (simp; omega) | (unfold fits; omega) | (unfold fits; simp_all; omega) | (simp_all; omega) | (simp_all; done) | intro _)))); try (refine L.nil ?_))
  ((repeat refine S.seq ?_); refine S.ret ?_)
  have e : t.here q key = 0 := by rw [Tx.here]; exact if_neg (by rw [hc]; decide)
  rw [e]
  exact E.ret (T := tt) tt_ok rfl rfl (by (repeat' (first | exact trivial | exact zA | with_reducible refine zI ?_ ?_ | exact zB | exact zC | exact zD | exact zE | rfl | exact zN rfl | omega | assumption | (simp; done) | (simp [splice]; done) | (simp; omega) | (unfold fits; omega) | (unfold fits; simp_all; omega) | (simp_all; omega) | (simp_all; done) | intro _))) (Imp.refl _) (by (repeat (first | exact List.nil_sublist _ | refine List.Sublist.cons_cons _ ?_ | refine List.Sublist.cons _ ?_))) ⟨rfl, rfl⟩

theorem pub_p (b : Nat) (p a : Value) (t : Tx) (q : Int) (key : ByteArray) (seq : Int) (body : ByteArray) (h1 : t.put.length ≤ 1000) (h2 : t.ack.length ≤ 1000) (hq : (t.put.length : Int) > 0 → 1 ≤ (t.put.getD ((t.put.length : Int) - 1).toNat default).seq ∧ (t.put.getD ((t.put.length : Int) - 1).toNat default).seq ≤ 1073741824) : FnC Try.prog 15 [.ptr 20 b 0, .v (.int .i64 q), .v (.string key), .v (.int .i64 seq), .v (.string body)] (txR b p a t) (fun r F' => ∃ p', r = .v (.int .i64 (t.pubE q key seq body)) ∧ F' = txR b p' a (t.pubT q key seq body)) := by
  refine FnC.intro Try.func15 rfl Try.ntmps15 rfl ?_; intro off w0
  ((repeat refine S.seq ?_); refine S.region (L.go (T := tt) tt_ok rfl rfl ?sd791 ?_); (try (case sd791 => (repeat' (first | exact trivial | exact zA | with_reducible refine zI ?_ ?_ | exact zB | exact zC | exact zD | exact zE | rfl | exact zN rfl | omega | assumption | (simp; done) | (simp [splice]; done) | (simp; omega) | (unfold fits; omega) | (unfold fits; simp_all; omega) | (simp_all; omega) | (simp_all; done) | intro _)))); try (refine L.nil ?_))
  ((repeat refine S.seq ?_); refine S.region (L.go (T := tt) tt_ok rfl rfl ?sd792 ?_); (try (case sd792 => (repeat' (first | exact trivial | exact zA | with_reducible refine zI ?_ ?_ | exact zB | exact zC | exact zD | exact zE | rfl | exact zN rfl | omega | assumption | (simp; done) | (simp [splice]; done) | (simp; omega) | (unfold fits; omega) | (unfold fits; simp_all; omega) | (simp_all; omega) | (simp_all; done) | intro _)))); try (refine L.nil ?_))
  ((repeat refine S.seq ?_); refine S.cond rfl (fun hc1 => ?_) (fun hc1 => ?_) <;> (try first | refine S.skip ?_ | refine S.exit ?_))
  · skip
    ((repeat refine S.seq ?_); refine S.region (L.go (T := tt) tt_ok rfl rfl ?sd793 ?_); (try (case sd793 => (repeat' (first | exact trivial | exact zA | with_reducible refine zI ?_ ?_ | exact zB | exact zC | exact zD | exact zE | rfl | exact zN rfl | omega | assumption | (simp; done) | (simp [splice]; done) | (simp; omega) | (unfold fits; omega) | (unfold fits; simp_all; omega) | (simp_all; omega) | (simp_all; done) | intro _)))); try (refine L.nil ?_))
    cases hc1
  ((repeat refine S.seq ?_); refine S.region (L.go (T := tt) tt_ok rfl rfl ?sd794 ?_); (try (case sd794 => (repeat' (first | exact trivial | exact zA | with_reducible refine zI ?_ ?_ | exact zB | exact zC | exact zD | exact zE | rfl | exact zN rfl | omega | assumption | (simp; done) | (simp [splice]; done) | (simp; omega) | (unfold fits; omega) | (unfold fits; simp_all; omega) | (simp_all; omega) | (simp_all; done) | intro _)))); try (refine L.nil ?_))
  refine L.alloc (T := tt) 11 tt_ok rfl rfl rfl rfl rfl fun b11 => ?_
  (refine L.store (T := tt) tt_ok rfl rfl rfl rfl rfl rfl ?sd809 ?_; (try (case sd809 => (repeat' (first | exact trivial | exact zA | with_reducible refine zI ?_ ?_ | exact zB | exact zC | exact zD | exact zE | rfl | exact zN rfl | omega | assumption | (simp; done) | (simp [splice]; done) | (simp; omega) | (unfold fits; omega) | (unfold fits; simp_all; omega) | (simp_all; omega) | (simp_all; done) | intro _)))))
  refine L.nil ?_
  ((repeat refine S.seq ?_); refine S.region (L.go (T := tt) tt_ok rfl rfl ?sd795 ?_); (try (case sd795 => (repeat' (first | exact trivial | exact zA | with_reducible refine zI ?_ ?_ | exact zB | exact zC | exact zD | exact zE | rfl | exact zN rfl | omega | assumption | (simp; done) | (simp [splice]; done) | (simp; omega) | (unfold fits; omega) | (unfold fits; simp_all; omega) | (simp_all; omega) | (simp_all; done) | intro _)))); try (refine L.nil ?_))
  refine L.callP rfl rfl rfl rfl rfl rfl rfl ⟨trivial, by (repeat' (first | exact trivial | exact zA | with_reducible refine zI ?_ ?_ | exact zB | exact zC | exact zD | exact zE | rfl | exact zN rfl | omega | assumption | (simp; done) | (simp [splice]; done) | (simp; omega) | (unfold fits; omega) | (unfold fits; simp_all; omega) | (simp_all; omega) | (simp_all; done) | intro _))⟩ rfl (Imps.refl _) (mayMsg_p (t.msg key seq body)) ?_
  (refine L.go (T := tt) tt_ok rfl rfl ?sd807 ?_; (try (case sd807 => (repeat' (first | exact trivial | exact zA | with_reducible refine zI ?_ ?_ | exact zB | exact zC | exact zD | exact zE | rfl | exact zN rfl | omega | assumption | (simp; done) | (simp [splice]; done) | (simp; omega) | (unfold fits; omega) | (unfold fits; simp_all; omega) | (simp_all; omega) | (simp_all; done) | intro _)))); try (refine L.nil ?_))
  ((repeat refine S.seq ?_); refine S.cond rfl (fun hc2 => ?_) (fun hc2 => ?_) <;> (try first | refine S.skip ?_ | refine S.exit ?_))
  · skip
    ((repeat refine S.seq ?_); refine S.region (L.go (T := tt) tt_ok rfl rfl ?sd796 ?_); (try (case sd796 => (repeat' (first | exact trivial | exact zA | with_reducible refine zI ?_ ?_ | exact zB | exact zC | exact zD | exact zE | rfl | exact zN rfl | omega | assumption | (simp; done) | (simp [splice]; done) | (simp; omega) | (unfold fits; omega) | (unfold fits; simp_all; omega) | (simp_all; omega) | (simp_all; done) | intro _)))); try (refine L.nil ?_))
    ((repeat refine S.seq ?_); refine S.ret ?_)
    have e : t.pubE q key seq body = 1 := by rw [Tx.pubE]; exact if_pos hc2
    have e2 : t.pubT q key seq body = t := by rw [Tx.pubT, if_neg (by rw [e]; decide)]
    exact E.ret (T := tt) tt_ok rfl rfl (by (repeat' (first | exact trivial | exact zA | with_reducible refine zI ?_ ?_ | exact zB | exact zC | exact zD | exact zE | rfl | exact zN rfl | omega | assumption | (simp; done) | (simp [splice]; done) | (simp; omega) | (unfold fits; omega) | (unfold fits; simp_all; omega) | (simp_all; omega) | (simp_all; done) | intro _))) (F' := txR b p a t) (Imp.refl _) (by unfold txR; (repeat (first | exact List.nil_sublist _ | refine List.Sublist.cons_cons _ ?_ | refine List.Sublist.cons _ ?_))) ⟨p, by rw [e]; rfl, by first | (rw [e2]; rfl) | rw [e2]⟩
  have h2n : ¬ (!mayMsg (t.msg key seq body) || decide (q < 0) || decide (q ≥ 4)) = true := by rw [show (!mayMsg (t.msg key seq body) || decide (q < 0) || decide (q ≥ 4)) = false from hc2]; decide
  ((repeat refine S.seq ?_); refine S.region (L.go (T := tt) tt_ok rfl rfl ?sd797 ?_); (try (case sd797 => (repeat' (first | exact trivial | exact zA | with_reducible refine zI ?_ ?_ | exact zB | exact zC | exact zD | exact zE | rfl | exact zN rfl | omega | assumption | (simp; done) | (simp [splice]; done) | (simp; omega) | (unfold fits; omega) | (unfold fits; simp_all; omega) | (simp_all; omega) | (simp_all; done) | intro _)))); try (refine L.nil ?_))
  ((repeat refine S.seq ?_); refine S.region (L.go (T := tt) tt_ok rfl rfl ?sd798 ?_); (try (case sd798 => (repeat' (first | exact trivial | exact zA | with_reducible refine zI ?_ ?_ | exact zB | exact zC | exact zD | exact zE | rfl | exact zN rfl | omega | assumption | (simp; done) | (simp [splice]; done) | (simp; omega) | (unfold fits; omega) | (unfold fits; simp_all; omega) | (simp_all; omega) | (simp_all; done) | intro _)))); try (refine L.nil ?_))
  refine L.call (G := txR b p a t) (H := [_]) rfl rfl rfl rfl rfl rfl rfl ⟨trivial, by (repeat' (first | exact trivial | exact zA | with_reducible refine zI ?_ ?_ | exact zB | exact zC | exact zD | exact zE | rfl | exact zN rfl | omega | assumption | (simp; done) | (simp [splice]; done) | (simp; omega) | (unfold fits; omega) | (unfold fits; simp_all; omega) | (simp_all; omega) | (simp_all; done) | intro _))⟩ rfl (Imps.refl _) (by unfold txR; (repeat (first | exact pick0 | refine pickS (by first | exact p0 | exact pS p0 | exact pS (pS p0) | exact pS (pS (pS p0)) | exact pS (pS (pS (pS p0))) | exact pS (pS (pS (pS (pS p0)))) | exact pS (pS (pS (pS (pS (pS p0)))))) ?_))) (here_p b p a t q key h1 h2) ?_
  rintro r F' ⟨rfl, rfl⟩
  unfold txR
  (refine L.go (T := tt) tt_ok rfl rfl ?sd808 ?_; (try (case sd808 => (repeat' (first | exact trivial | exact zA | with_reducible refine zI ?_ ?_ | exact zB | exact zC | exact zD | exact zE | rfl | exact zN rfl | omega | assumption | (simp; done) | (simp [splice]; done) | (simp; omega) | (unfold fits; omega) | (unfold fits; simp_all; omega) | (simp_all; omega) | (simp_all; done) | intro _)))); try (refine L.nil ?_))
  repeat refine S.seq ?_
  refine S.block ?_
  ((repeat refine S.seq ?_); refine S.region (L.go (T := tt) tt_ok rfl rfl ?sd799 ?_); (try (case sd799 => (repeat' (first | exact trivial | exact zA | with_reducible refine zI ?_ ?_ | exact zB | exact zC | exact zD | exact zE | rfl | exact zN rfl | omega | assumption | (simp; done) | (simp [splice]; done) | (simp; omega) | (unfold fits; omega) | (unfold fits; simp_all; omega) | (simp_all; omega) | (simp_all; done) | intro _)))); try (refine L.nil ?_))
  ((repeat refine S.seq ?_); refine S.cond rfl (fun hc3 => ?_) (fun hc3 => ?_) <;> (try first | refine S.skip ?_ | refine S.exit ?_))
  · skip
    ((repeat refine S.seq ?_); refine S.region (L.go (T := tt) tt_ok rfl rfl ?sd800 ?_); (try (case sd800 => (repeat' (first | exact trivial | exact zA | with_reducible refine zI ?_ ?_ | exact zB | exact zC | exact zD | exact zE | rfl | exact zN rfl | omega | assumption | (simp; done) | (simp [splice]; done) | (simp; omega) | (unfold fits; omega) | (unfold fits; simp_all; omega) | (simp_all; omega) | (simp_all; done) | intro _)))); try (refine L.nil ?_))
    have h3n : t.here q key ≠ 0 := by simpa using hc3
    ((repeat refine S.seq ?_); refine S.ret ?_)
    have e : t.pubE q key seq body = t.here q key := by rw [Tx.pubE, if_neg h2n, if_pos h3n]
    have e2 : t.pubT q key seq body = t := by rw [Tx.pubT, if_neg (by rw [e]; exact h3n)]
    exact E.ret (T := tt) tt_ok rfl rfl (by (repeat' (first | exact trivial | exact zA | with_reducible refine zI ?_ ?_ | exact zB | exact zC | exact zD | exact zE | rfl | exact zN rfl | omega | assumption | (simp; done) | (simp [splice]; done) | (simp; omega) | (unfold fits; omega) | (unfold fits; simp_all; omega) | (simp_all; omega) | (simp_all; done) | intro _))) (F' := txR b p a t) (Imp.refl _) (by unfold txR; (repeat (first | exact List.nil_sublist _ | refine List.Sublist.cons_cons _ ?_ | refine List.Sublist.cons _ ?_))) ⟨p, by rw [e]; rfl, by first | (rw [e2]; rfl) | rw [e2]⟩
  have h3n : ¬ t.here q key ≠ 0 := by simpa using hc3
  ((repeat refine S.seq ?_); refine S.region (L.go (T := tt) tt_ok rfl rfl ?sd801 ?_); (try (case sd801 => (repeat' (first | exact trivial | exact zA | with_reducible refine zI ?_ ?_ | exact zB | exact zC | exact zD | exact zE | rfl | exact zN rfl | omega | assumption | (simp; done) | (simp [splice]; done) | (simp; omega) | (unfold fits; omega) | (unfold fits; simp_all; omega) | (simp_all; omega) | (simp_all; done) | intro _)))); try (refine L.nil ?_))
  ((repeat refine S.seq ?_); refine S.cond rfl (fun hc4 => ?_) (fun hc4 => ?_) <;> (try first | refine S.skip ?_ | refine S.exit ?_))
  · skip
    ((repeat refine S.seq ?_); refine S.region (L.go (T := tt) tt_ok rfl rfl ?sd802 ?_); (try (case sd802 => (repeat' (first | exact trivial | exact zA | with_reducible refine zI ?_ ?_ | exact zB | exact zC | exact zD | exact zE | rfl | exact zN rfl | omega | assumption | (simp; done) | (simp [splice]; done) | (simp; omega) | (unfold fits; omega) | (unfold fits; simp_all; omega) | (simp_all; omega) | (simp_all; done) | intro _)))); try (refine L.nil ?_))
    have h4y : t.put.length = 8 := by
      have : (t.put.length : Int) = 8 := by simpa only [beq_iff_eq] using hc4
      omega
    ((repeat refine S.seq ?_); refine S.ret ?_)
    have e : t.pubE q key seq body = 4 := by rw [Tx.pubE, if_neg h2n, if_neg h3n, if_pos h4y]
    have e2 : t.pubT q key seq body = t := by rw [Tx.pubT, if_neg (by rw [e]; decide)]
    exact E.ret (T := tt) tt_ok rfl rfl (by (repeat' (first | exact trivial | exact zA | with_reducible refine zI ?_ ?_ | exact zB | exact zC | exact zD | exact zE | rfl | exact zN rfl | omega | assumption | (simp; done) | (simp [splice]; done) | (simp; omega) | (unfold fits; omega) | (unfold fits; simp_all; omega) | (simp_all; omega) | (simp_all; done) | intro _))) (F' := txR b p a t) (Imp.refl _) (by unfold txR; (repeat (first | exact List.nil_sublist _ | refine List.Sublist.cons_cons _ ?_ | refine List.Sublist.cons _ ?_))) ⟨p, by rw [e]; rfl, by first | (rw [e2]; rfl) | rw [e2]⟩
  have h4n : ¬ t.put.length = 8 := by
    intro e
    have : ((t.put.length : Int) == 8) = true := by rw [e]; rfl
    exact bad this hc4
  ((repeat refine S.seq ?_); refine S.region (L.go (T := tt) tt_ok rfl rfl ?sd803 ?_); (try (case sd803 => (repeat' (first | exact trivial | exact zA | with_reducible refine zI ?_ ?_ | exact zB | exact zC | exact zD | exact zE | rfl | exact zN rfl | omega | assumption | (simp; done) | (simp [splice]; done) | (simp; omega) | (unfold fits; omega) | (unfold fits; simp_all; omega) | (simp_all; omega) | (simp_all; done) | intro _)))); try (refine L.nil ?_))
  ((repeat refine S.seq ?_); refine S.cond rfl (fun hc5 => ?_) (fun hc5 => ?_) <;> (try first | refine S.skip ?_ | refine S.exit ?_))
  · skip
    ((repeat refine S.seq ?_); refine S.region (L.go (T := tt) tt_ok rfl rfl ?sd804 ?_); (try (case sd804 => (repeat' (first | exact trivial | exact zA | with_reducible refine zI ?_ ?_ | exact zB | exact zC | exact zD | exact zE | rfl | exact zN rfl | omega | assumption | (simp; done) | (simp [splice]; done) | (simp; omega) | (unfold fits; omega) | (unfold fits; simp_all; omega) | (simp_all; omega) | (simp_all; done) | intro _)))); try (refine L.nil ?_))
    ((repeat refine S.seq ?_); refine S.ret ?_)
    have e : t.pubE q key seq body = 1 := by rw [Tx.pubE, if_neg h2n, if_neg h3n, if_neg h4n]; exact if_pos hc5
    have e2 : t.pubT q key seq body = t := by rw [Tx.pubT, if_neg (by rw [e]; decide)]
    exact E.ret (T := tt) tt_ok rfl rfl (by (repeat' (first | exact trivial | exact zA | with_reducible refine zI ?_ ?_ | exact zB | exact zC | exact zD | exact zE | rfl | exact zN rfl | omega | assumption | (simp; done) | (simp [splice]; done) | (simp; omega) | (unfold fits; omega) | (unfold fits; simp_all; omega) | (simp_all; omega) | (simp_all; done) | intro _))) (F' := txR b p a t) (Imp.refl _) (by unfold txR; (repeat (first | exact List.nil_sublist _ | refine List.Sublist.cons_cons _ ?_ | refine List.Sublist.cons _ ?_))) ⟨p, by rw [e]; rfl, by first | (rw [e2]; rfl) | rw [e2]⟩
  have e : t.pubE q key seq body = 0 := by
    rw [Tx.pubE, if_neg h2n, if_neg h3n, if_neg h4n]
    exact if_neg (by rw [show _ = false from hc5]; decide)
  have e2 : t.pubT q key seq body = { t with queue := q, key := key, put := t.put ++ [t.msg key seq body] } := by rw [Tx.pubT, if_pos e]
  repeat refine S.seq ?_
  refine S.draw [(8, [20]), (9, [11])] mixed ?_
  (refine H.ts (T := tt) [0, 1, 2, 3, 4, 5, 6, 7, 8, 9] tt_ok (by kernel_rfl) (by kernel_rfl) (by kernel_rfl) (by intro ch a a' w h; obtain ⟨_, _, _, _, _, h, _⟩ := h; cases h) rfl ?sd811 ?_; (try (case sd811 => (repeat' (first | exact trivial | exact zA | with_reducible refine zI ?_ ?_ | exact zB | exact zC | exact zD | exact zE | rfl | exact zN rfl | omega | assumption | (simp; done) | (simp [splice]; done) | (simp; omega) | (unfold fits; omega) | (unfold fits; simp_all; omega) | (simp_all; omega) | (simp_all; done) | intro _)))))
  refine H.o1 10 rfl (by kernel_rfl) (by kernel_rfl) (O.buildSlice (T := tt) 78 tt_ok rfl rfl rfl rfl rfl rfl (by decide) (by decide) rfl rfl (by (repeat' (first | exact trivial | exact zA | with_reducible refine zI ?_ ?_ | exact zB | exact zC | exact zD | exact zE | rfl | exact zN rfl | omega | assumption | (simp; done) | (simp [splice]; done) | (simp; omega) | (unfold fits; omega) | (unfold fits; simp_all; omega) | (simp_all; omega) | (simp_all; done) | intro _)))) (.inr rfl) rfl fun x78 => ?_
  refine H.o1 11 rfl (by kernel_rfl) (by kernel_rfl) (O.append (T := tt) tt_ok rfl rfl rfl rfl rfl rfl rfl rfl rfl rfl (by (repeat' (first | exact trivial | exact zA | with_reducible refine zI ?_ ?_ | exact zB | exact zC | exact zD | exact zE | rfl | exact zN rfl | omega | assumption | (simp; done) | (simp [splice]; done) | (simp; omega) | (unfold fits; omega) | (unfold fits; simp_all; omega) | (simp_all; omega) | (simp_all; done) | intro _))) ⟨rfl, by decide, by decide⟩ (by simp; omega)) (.inl (by kernel_rfl)) (by kernel_rfl) fun y79 => ?_
  (refine H.ts (T := tt) [12, 13] tt_ok (by kernel_rfl) (by kernel_rfl) (by kernel_rfl) (by intro ch a a' w h; obtain ⟨_, _, _, _, _, h, _⟩ := h; cases h) rfl ?sd812 ?_; (try (case sd812 => (repeat' (first | exact trivial | exact zA | with_reducible refine zI ?_ ?_ | exact zB | exact zC | exact zD | exact zE | rfl | exact zN rfl | omega | assumption | (simp; done) | (simp [splice]; done) | (simp; omega) | (unfold fits; omega) | (unfold fits; simp_all; omega) | (simp_all; omega) | (simp_all; done) | intro _)))))
  (refine H.store (T := tt) 14 rfl (by kernel_rfl) (by kernel_rfl) tt_ok rfl rfl rfl rfl rfl rfl ?sd815 rfl (by kernel_rfl) ?_; (try (case sd815 => (repeat' (first | exact trivial | exact zA | with_reducible refine zI ?_ ?_ | exact zB | exact zC | exact zD | exact zE | rfl | exact zN rfl | omega | assumption | (simp; done) | (simp [splice]; done) | (simp; omega) | (unfold fits; omega) | (unfold fits; simp_all; omega) | (simp_all; omega) | (simp_all; done) | intro _)))))
  (refine H.ts (T := tt) [15, 16] tt_ok (by kernel_rfl) (by kernel_rfl) (by kernel_rfl) (by intro ch a a' w h; obtain ⟨_, _, _, _, _, h, _⟩ := h; cases h) rfl ?sd813 ?_; (try (case sd813 => (repeat' (first | exact trivial | exact zA | with_reducible refine zI ?_ ?_ | exact zB | exact zC | exact zD | exact zE | rfl | exact zN rfl | omega | assumption | (simp; done) | (simp [splice]; done) | (simp; omega) | (unfold fits; omega) | (unfold fits; simp_all; omega) | (simp_all; omega) | (simp_all; done) | intro _)))))
  (refine H.store (T := tt) 17 rfl (by kernel_rfl) (by kernel_rfl) tt_ok rfl rfl rfl rfl rfl rfl ?sd816 rfl (by kernel_rfl) ?_; (try (case sd816 => (repeat' (first | exact trivial | exact zA | with_reducible refine zI ?_ ?_ | exact zB | exact zC | exact zD | exact zE | rfl | exact zN rfl | omega | assumption | (simp; done) | (simp [splice]; done) | (simp; omega) | (unfold fits; omega) | (unfold fits; simp_all; omega) | (simp_all; omega) | (simp_all; done) | intro _)))))
  (refine H.ts (T := tt) [18, 19] tt_ok (by kernel_rfl) (by kernel_rfl) (by kernel_rfl) (by intro ch a a' w h; obtain ⟨_, _, _, _, _, h, _⟩ := h; cases h) rfl ?sd814 ?_; (try (case sd814 => (repeat' (first | exact trivial | exact zA | with_reducible refine zI ?_ ?_ | exact zB | exact zC | exact zD | exact zE | rfl | exact zN rfl | omega | assumption | (simp; done) | (simp [splice]; done) | (simp; omega) | (unfold fits; omega) | (unfold fits; simp_all; omega) | (simp_all; omega) | (simp_all; done) | intro _)))))
  (refine H.store (T := tt) 20 rfl (by kernel_rfl) (by kernel_rfl) tt_ok rfl rfl rfl rfl rfl rfl ?sd817 rfl (by kernel_rfl) ?_; (try (case sd817 => (repeat' (first | exact trivial | exact zA | with_reducible refine zI ?_ ?_ | exact zB | exact zC | exact zD | exact zE | rfl | exact zN rfl | omega | assumption | (simp; done) | (simp [splice]; done) | (simp; omega) | (unfold fits; omega) | (unfold fits; simp_all; omega) | (simp_all; omega) | (simp_all; done) | intro _)))))
  refine H.done (by kernel_rfl) ?_
  ((repeat refine S.seq ?_); refine S.region (L.go (T := tt) tt_ok rfl rfl ?sd805 ?_); (try (case sd805 => (repeat' (first | exact trivial | exact zA | with_reducible refine zI ?_ ?_ | exact zB | exact zC | exact zD | exact zE | rfl | exact zN rfl | omega | assumption | (simp; done) | (simp [splice]; done) | (simp; omega) | (unfold fits; omega) | (unfold fits; simp_all; omega) | (simp_all; omega) | (simp_all; done) | intro _)))); try (refine L.nil ?_))
  refine ownAs 21 (gOf Msg.cells (t.put ++ [t.msg key seq body])) rfl (show t.put.length + 1 = (t.put ++ [t.msg key seq body]).length by simp) (fun i hi => ?_) ?_
  · refine app1_h Msg.cells t.put _ _ rfl ?_ hi
    rfl
  ((repeat refine S.seq ?_); refine S.ret ?_)
  exact E.ret (T := tt) tt_ok rfl rfl (by (repeat' (first | exact trivial | exact zA | with_reducible refine zI ?_ ?_ | exact zB | exact zC | exact zD | exact zE | rfl | exact zN rfl | omega | assumption | (simp; done) | (simp [splice]; done) | (simp; omega) | (unfold fits; omega) | (unfold fits; simp_all; omega) | (simp_all; omega) | (simp_all; done) | intro _))) (F' := txR b y79 a { t with queue := q, key := key, put := t.put ++ [t.msg key seq body] }) (Imp.refl _) (by unfold txR; (repeat (first | exact List.nil_sublist _ | refine List.Sublist.cons_cons _ ?_ | refine List.Sublist.cons _ ?_))) ⟨y79, by rw [e]; rfl, by first | (rw [e2]; rfl) | rw [e2]⟩

end Go.Proofs.Ytgnklbdbglnmaaa

/- A transaction's gathering: acks, and all that there is. -/
namespace Go.Proofs.Ytgnklbdbglnmaaa
set_option linter.unusedVariables false
set_option linter.unusedSimpArgs false
set_option maxHeartbeats 8000000
open Go.RowKit
set_option maxRecDepth 4000

theorem hasI (l : List Int) (z : Int) : (decide (pidx (fun i => z == l.getD i default) l.length ≥ 0)) = l.contains z := by
  rcases pidx_cases (fun i => z == l.getD i default) l.length with ⟨h, hno⟩ | ⟨k, hk, hp, -, h⟩
  · rw [h]
    have : l.contains z = false := by
      rw [Bool.eq_false_iff]
      intro hc
      obtain ⟨i, hi, e⟩ := List.getElem_of_mem (List.contains_iff_mem.1 hc)
      have := hno i hi
      rw [getD_get hi, e] at this
      simp at this
    rw [this]; rfl
  · rw [h]
    have : l.contains z = true := by
      rw [List.contains_iff_mem]
      simp only [beq_iff_eq] at hp
      rw [hp, getD_get hk]
      exact List.getElem_mem hk
    rw [this]; exact decide_eq_true (by omega)

theorem idxOwn_p (l : List Int) (z : Int) (x : Value) : FnC Try.prog 94 [.ref 22 x, .v (.int .i64 z)] [(22, .own x 3 1 l.length (gOf intC l))] (fun r F' => r = .v (.int .i64 (pidx (fun i => z == l.getD i default) l.length)) ∧ F' = [(22, .own x 3 1 l.length (gOf intC l))]) := by
  refine FnC.intro Try.func94 rfl Try.ntmps94 rfl ?_; intro off w0
  refine lenOwn (x := x) (n := l.length) (g := gOf intC l) (sz := 1) 22 rfl fun hn => ?_
  ((repeat refine S.seq ?_); refine S.region (L.go (T := tt) tt_ok rfl rfl ?sd818 ?_); (try (case sd818 => (repeat' (first | exact trivial | exact zA | with_reducible refine zI ?_ ?_ | exact zB | exact zC | exact zD | exact zE | rfl | exact zN rfl | omega | assumption | (simp; done) | (simp [splice]; done) | (simp; omega) | (unfold fits; omega) | (unfold fits; simp_all; omega) | (simp_all; omega) | (simp_all; done) | intro _)))); try (refine L.nil ?_))
  ((repeat refine S.seq ?_); refine S.region (L.go (T := tt) tt_ok rfl rfl ?sd819 ?_); (try (case sd819 => (repeat' (first | exact trivial | exact zA | with_reducible refine zI ?_ ?_ | exact zB | exact zC | exact zD | exact zE | rfl | exact zN rfl | omega | assumption | (simp; done) | (simp [splice]; done) | (simp; omega) | (unfold fits; omega) | (unfold fits; simp_all; omega) | (simp_all; omega) | (simp_all; done) | intro _)))); try (refine L.nil ?_))
  repeat refine S.seq ?_
  refine S.block (S.loop (ι := { k : Nat // k ≤ l.length ∧ ∀ j, j < k → (z == l.getD j default) = false }) (fun k => [(0, .ref 22 x), (1, .v (.int .i64 z)), (7, .v (.int .i64 l.length)), (8, .v (.int .i64 k.1))])
    (fun k => [(22, .own x 3 1 l.length (gOf intC l))]) (fun k => l.length - k.1) ?_ ?_)
  · refine fun a w h => ⟨⟨0, Nat.zero_le _, ?_⟩, h.weak (by (repeat' (first | exact True.intro | exact Imp.refl _ | refine ⟨?_, ?_⟩))) (by (repeat (first | exact List.nil_sublist _ | refine List.Sublist.cons_cons _ ?_ | refine List.Sublist.cons _ ?_)))⟩
    exact fun j hj => absurd hj (by omega)
  rintro ⟨k, hk, ik⟩
  dsimp only
  ((repeat refine S.seq ?_); refine S.region (L.go (T := tt) tt_ok rfl rfl ?sd820 ?_); (try (case sd820 => (repeat' (first | exact trivial | exact zA | with_reducible refine zI ?_ ?_ | exact zB | exact zC | exact zD | exact zE | rfl | exact zN rfl | omega | assumption | (simp; done) | (simp [splice]; done) | (simp; omega) | (unfold fits; omega) | (unfold fits; simp_all; omega) | (simp_all; omega) | (simp_all; done) | intro _)))); try (refine L.nil ?_))
  ((repeat refine S.seq ?_); refine S.cond rfl (fun h1 => ?_) (fun h1 => ?_) <;> (try first | refine S.skip ?_ | refine S.exit ?_))
  · have h1 := of_dec h1
    repeat refine S.seq ?_
    refine S.block ?_
    ((repeat refine S.seq ?_); refine S.region (L.go (T := tt) tt_ok rfl rfl ?sd821 ?_); (try (case sd821 => (repeat' (first | exact trivial | exact zA | with_reducible refine zI ?_ ?_ | exact zB | exact zC | exact zD | exact zE | rfl | exact zN rfl | omega | assumption | (simp; done) | (simp [splice]; done) | (simp; omega) | (unfold fits; omega) | (unfold fits; simp_all; omega) | (simp_all; omega) | (simp_all; done) | intro _)))); try (refine L.nil ?_))
    ((repeat refine S.seq ?_); refine S.region (L.go (T := tt) tt_ok rfl rfl ?sd822 ?_); (try (case sd822 => (repeat' (first | exact trivial | exact zA | with_reducible refine zI ?_ ?_ | exact zB | exact zC | exact zD | exact zE | rfl | exact zN rfl | omega | assumption | (simp; done) | (simp [splice]; done) | (simp; omega) | (unfold fits; omega) | (unfold fits; simp_all; omega) | (simp_all; omega) | (simp_all; done) | intro _)))); try (refine L.nil ?_))
    ((repeat refine S.seq ?_); refine S.cond rfl (fun h2 => ?_) (fun h2 => ?_) <;> (try first | refine S.skip ?_ | refine S.exit ?_))
    · skip
      ((repeat refine S.seq ?_); refine S.region (L.go (T := tt) tt_ok rfl rfl ?sd823 ?_); (try (case sd823 => (repeat' (first | exact trivial | exact zA | with_reducible refine zI ?_ ?_ | exact zB | exact zC | exact zD | exact zE | rfl | exact zN rfl | omega | assumption | (simp; done) | (simp [splice]; done) | (simp; omega) | (unfold fits; omega) | (unfold fits; simp_all; omega) | (simp_all; omega) | (simp_all; done) | intro _)))); try (refine L.nil ?_))
      ((repeat refine S.seq ?_); refine S.ret ?_)
      rw [pidx_some (by omega) h2 ik]
      exact E.ret (T := tt) tt_ok rfl rfl (by (repeat' (first | exact trivial | exact zA | with_reducible refine zI ?_ ?_ | exact zB | exact zC | exact zD | exact zE | rfl | exact zN rfl | omega | assumption | (simp; done) | (simp [splice]; done) | (simp; omega) | (unfold fits; omega) | (unfold fits; simp_all; omega) | (simp_all; omega) | (simp_all; done) | intro _))) (F' := [(22, .own x 3 1 l.length (gOf intC l))]) (Imp.refl _) (by (repeat (first | exact List.nil_sublist _ | refine List.Sublist.cons_cons _ ?_ | refine List.Sublist.cons _ ?_))) ⟨rfl, rfl⟩
    ((repeat refine S.seq ?_); refine S.region (L.go (T := tt) tt_ok rfl rfl ?sd824 ?_); (try (case sd824 => (repeat' (first | exact trivial | exact zA | with_reducible refine zI ?_ ?_ | exact zB | exact zC | exact zD | exact zE | rfl | exact zN rfl | omega | assumption | (simp; done) | (simp [splice]; done) | (simp; omega) | (unfold fits; omega) | (unfold fits; simp_all; omega) | (simp_all; omega) | (simp_all; done) | intro _)))); try (refine L.nil ?_))
    refine fun a w hR => ⟨⟨k + 1, by omega, ?_⟩, by simp only; omega, hR.weak (by (repeat' (first | exact True.intro | exact Imp.refl _ | refine ⟨?_, ?_⟩))) (by (repeat (first | exact List.nil_sublist _ | refine List.Sublist.cons_cons _ ?_ | refine List.Sublist.cons _ ?_)))⟩
    exact upto_succ ik h2
  · have h1 := of_dec' h1
    ((repeat refine S.seq ?_); refine S.region (L.go (T := tt) tt_ok rfl rfl ?sd825 ?_); (try (case sd825 => (repeat' (first | exact trivial | exact zA | with_reducible refine zI ?_ ?_ | exact zB | exact zC | exact zD | exact zE | rfl | exact zN rfl | omega | assumption | (simp; done) | (simp [splice]; done) | (simp; omega) | (unfold fits; omega) | (unfold fits; simp_all; omega) | (simp_all; omega) | (simp_all; done) | intro _)))); try (refine L.nil ?_))
    ((repeat refine S.seq ?_); refine S.ret ?_)
    rw [pidx_none fun j hj => ik j (by omega)]
    exact E.ret (T := tt) tt_ok rfl rfl (by (repeat' (first | exact trivial | exact zA | with_reducible refine zI ?_ ?_ | exact zB | exact zC | exact zD | exact zE | rfl | exact zN rfl | omega | assumption | (simp; done) | (simp [splice]; done) | (simp; omega) | (unfold fits; omega) | (unfold fits; simp_all; omega) | (simp_all; omega) | (simp_all; done) | intro _))) (F' := [(22, .own x 3 1 l.length (gOf intC l))]) (Imp.refl _) (by (repeat (first | exact List.nil_sublist _ | refine List.Sublist.cons_cons _ ?_ | refine List.Sublist.cons _ ?_))) ⟨rfl, rfl⟩

theorem hasOwn_p (l : List Int) (z : Int) (x : Value) : FnC Try.prog 81 [.ref 22 x, .v (.int .i64 z)] [(22, .own x 3 1 l.length (gOf intC l))] (fun r F' => r = .v (.bool (l.contains z)) ∧ F' = [(22, .own x 3 1 l.length (gOf intC l))]) := by
  refine FnC.intro Try.func81 rfl Try.ntmps81 rfl ?_; intro off w0
  ((repeat refine S.seq ?_); refine S.region (L.go (T := tt) tt_ok rfl rfl ?sd826 ?_); (try (case sd826 => (repeat' (first | exact trivial | exact zA | with_reducible refine zI ?_ ?_ | exact zB | exact zC | exact zD | exact zE | rfl | exact zN rfl | omega | assumption | (simp; done) | (simp [splice]; done) | (simp; omega) | (unfold fits; omega) | (unfold fits; simp_all; omega) | (simp_all; omega) | (simp_all; done) | intro _)))); try (refine L.nil ?_))
  ((repeat refine S.seq ?_); refine S.region (L.go (T := tt) tt_ok rfl rfl ?sd827 ?_); (try (case sd827 => (repeat' (first | exact trivial | exact zA | with_reducible refine zI ?_ ?_ | exact zB | exact zC | exact zD | exact zE | rfl | exact zN rfl | omega | assumption | (simp; done) | (simp [splice]; done) | (simp; omega) | (unfold fits; omega) | (unfold fits; simp_all; omega) | (simp_all; omega) | (simp_all; done) | intro _)))); try (refine L.nil ?_))
  refine L.call (G := [(22, .own x 3 1 l.length (gOf intC l))]) (H := []) rfl rfl rfl rfl rfl rfl rfl ⟨trivial, by (repeat' (first | exact trivial | exact zA | with_reducible refine zI ?_ ?_ | exact zB | exact zC | exact zD | exact zE | rfl | exact zN rfl | omega | assumption | (simp; done) | (simp [splice]; done) | (simp; omega) | (unfold fits; omega) | (unfold fits; simp_all; omega) | (simp_all; omega) | (simp_all; done) | intro _))⟩ rfl (Imps.refl _) (List.Perm.refl _) (idxOwn_p l z x) ?_
  rintro r F' ⟨rfl, rfl⟩
  (refine L.go (T := tt) tt_ok rfl rfl ?sd828 ?_; (try (case sd828 => (repeat' (first | exact trivial | exact zA | with_reducible refine zI ?_ ?_ | exact zB | exact zC | exact zD | exact zE | rfl | exact zN rfl | omega | assumption | (simp; done) | (simp [splice]; done) | (simp; omega) | (unfold fits; omega) | (unfold fits; simp_all; omega) | (simp_all; omega) | (simp_all; done) | intro _)))); try (refine L.nil ?_))
  ((repeat refine S.seq ?_); refine S.ret ?_)
  rw [← hasI]
  exact E.ret (T := tt) tt_ok rfl rfl (by (repeat' (first | exact trivial | exact zA | with_reducible refine zI ?_ ?_ | exact zB | exact zC | exact zD | exact zE | rfl | exact zN rfl | omega | assumption | (simp; done) | (simp [splice]; done) | (simp; omega) | (unfold fits; omega) | (unfold fits; simp_all; omega) | (simp_all; omega) | (simp_all; done) | intro _))) (F' := [(22, .own x 3 1 l.length (gOf intC l))]) (Imp.refl _) (by (repeat (first | exact List.nil_sublist _ | refine List.Sublist.cons_cons _ ?_ | refine List.Sublist.cons _ ?_))) ⟨rfl, rfl⟩


end Go.Proofs.Ytgnklbdbglnmaaa

/- A transaction's calls. -/
namespace Go.Proofs.Ytgnklbdbglnmaaa
set_option linter.unusedVariables false
set_option linter.unusedSimpArgs false
set_option maxHeartbeats 8000000
open Go.RowKit
set_option maxRecDepth 4000

def N0 : AV := .v (.slice none 0 0)
theorem txnew_p (pub : Int) (h0 : 0 ≤ pub) (h1 : pub < 4) : FnC Try.prog 13 [.v (.int .i64 pub)] [] (fun r F' => ∃ b, r = .ptr 20 b 0 ∧ F' = [(20, .blk b 77 [.v (.int .i64 pub), .v (.int .i64 0), .v (.string ByteArray.empty), N0, N0])]) := by
  refine FnC.intro Try.func13 rfl Try.ntmps13 rfl ?_; intro off w0
  ((repeat refine S.seq ?_); refine S.region (L.go (T := tt) tt_ok rfl rfl ?sd829 ?_); (try (case sd829 => (repeat' (first | exact trivial | exact zA | with_reducible refine zI ?_ ?_ | exact zB | exact zC | exact zD | exact zE | rfl | exact zN rfl | omega | assumption | (simp; done) | (simp [splice]; done) | (simp; omega) | (unfold fits; omega) | (unfold fits; simp_all; omega) | (simp_all; omega) | (simp_all; done) | intro _)))); try (refine L.nil ?_))
  ((repeat refine S.seq ?_); refine S.region (L.go (T := tt) tt_ok rfl rfl ?sd830 ?_); (try (case sd830 => (repeat' (first | exact trivial | exact zA | with_reducible refine zI ?_ ?_ | exact zB | exact zC | exact zD | exact zE | rfl | exact zN rfl | omega | assumption | (simp; done) | (simp [splice]; done) | (simp; omega) | (unfold fits; omega) | (unfold fits; simp_all; omega) | (simp_all; omega) | (simp_all; done) | intro _)))); try (refine L.nil ?_))
  ((repeat refine S.seq ?_); refine S.cond rfl (fun hc1 => ?_) (fun hc1 => ?_) <;> (try first | refine S.skip ?_ | refine S.exit ?_))
  · exfalso
    simp only [Bool.or_eq_true, decide_eq_true_eq] at hc1
    omega
  ((repeat refine S.seq ?_); refine S.region (L.go (T := tt) tt_ok rfl rfl ?sd831 ?_); (try (case sd831 => (repeat' (first | exact trivial | exact zA | with_reducible refine zI ?_ ?_ | exact zB | exact zC | exact zD | exact zE | rfl | exact zN rfl | omega | assumption | (simp; done) | (simp [splice]; done) | (simp; omega) | (unfold fits; omega) | (unfold fits; simp_all; omega) | (simp_all; omega) | (simp_all; done) | intro _)))); try (refine L.nil ?_))
  refine L.box 20 rfl rfl rfl rfl rfl trivial rfl fun b11 => ?_
  (refine L.go (T := tt) tt_ok rfl rfl ?sd852 ?_; (try (case sd852 => (repeat' (first | exact trivial | exact zA | with_reducible refine zI ?_ ?_ | exact zB | exact zC | exact zD | exact zE | rfl | exact zN rfl | omega | assumption | (simp; done) | (simp [splice]; done) | (simp; omega) | (unfold fits; omega) | (unfold fits; simp_all; omega) | (simp_all; omega) | (simp_all; done) | intro _)))); try (refine L.nil ?_))
  ((repeat refine S.seq ?_); refine S.ret ?_)
  exact E.ret (T := tt) tt_ok rfl rfl (by (repeat' (first | exact trivial | exact zA | with_reducible refine zI ?_ ?_ | exact zB | exact zC | exact zD | exact zE | rfl | exact zN rfl | omega | assumption | (simp; done) | (simp [splice]; done) | (simp; omega) | (unfold fits; omega) | (unfold fits; simp_all; omega) | (simp_all; omega) | (simp_all; done) | intro _))) (F' := [(20, .blk b11 77 [.v (.int .i64 pub), .v (.int .i64 0), .v (.string ByteArray.empty), N0, N0])]) (Imp.refl _) (by (repeat (first | exact List.nil_sublist _ | refine List.Sublist.cons_cons _ ?_ | refine List.Sublist.cons _ ?_))) ⟨b11, rfl, rfl⟩

theorem txnone_p (pub : Int) (h0 : pub < 0 ∨ pub ≥ 4) : PFn Try.prog 13 [.v (.int .i64 pub)] (.v (.pointer none)) := by
  refine FnC.intro Try.func13 rfl Try.ntmps13 rfl ?_; intro off w0
  ((repeat refine S.seq ?_); refine S.region (L.go (T := tt) tt_ok rfl rfl ?sd832 ?_); (try (case sd832 => (repeat' (first | exact trivial | exact zA | with_reducible refine zI ?_ ?_ | exact zB | exact zC | exact zD | exact zE | rfl | exact zN rfl | omega | assumption | (simp; done) | (simp [splice]; done) | (simp; omega) | (unfold fits; omega) | (unfold fits; simp_all; omega) | (simp_all; omega) | (simp_all; done) | intro _)))); try (refine L.nil ?_))
  ((repeat refine S.seq ?_); refine S.region (L.go (T := tt) tt_ok rfl rfl ?sd833 ?_); (try (case sd833 => (repeat' (first | exact trivial | exact zA | with_reducible refine zI ?_ ?_ | exact zB | exact zC | exact zD | exact zE | rfl | exact zN rfl | omega | assumption | (simp; done) | (simp [splice]; done) | (simp; omega) | (unfold fits; omega) | (unfold fits; simp_all; omega) | (simp_all; omega) | (simp_all; done) | intro _)))); try (refine L.nil ?_))
  ((repeat refine S.seq ?_); refine S.cond rfl (fun hc1 => ?_) (fun hc1 => ?_) <;> (try first | refine S.skip ?_ | refine S.exit ?_))
  · ((repeat refine S.seq ?_); refine S.region (L.go (T := tt) tt_ok rfl rfl ?sd834 ?_); (try (case sd834 => (repeat' (first | exact trivial | exact zA | with_reducible refine zI ?_ ?_ | exact zB | exact zC | exact zD | exact zE | rfl | exact zN rfl | omega | assumption | (simp; done) | (simp [splice]; done) | (simp; omega) | (unfold fits; omega) | (unfold fits; simp_all; omega) | (simp_all; omega) | (simp_all; done) | intro _)))); try (refine L.nil ?_))
    (((repeat refine S.seq ?_); refine S.ret ?_); refine E.retP (T := tt) tt_ok rfl rfl (by (repeat' (first | exact trivial | exact zA | with_reducible refine zI ?_ ?_ | exact zB | exact zC | exact zD | exact zE | rfl | exact zN rfl | omega | assumption | (simp; done) | (simp [splice]; done) | (simp; omega) | (unfold fits; omega) | (unfold fits; simp_all; omega) | (simp_all; omega) | (simp_all; done) | intro _))) (Imp.of_eq ?_))
    rfl
  · exfalso
    simp only [Bool.or_eq_false_iff, decide_eq_false_iff_not] at hc1
    omega

theorem txack_p (b : Nat) (p a : Value) (t : Tx) (q : Int) (key : ByteArray) (tag : Int) (h1 : t.put.length ≤ 1000) (h2 : t.ack.length < 8) (hv : (decide (q < 0) || decide (q ≥ 4) || decide ((key.size : Int) < 1) || decide ((key.size : Int) > 20) || decide (tag < 1)) = false) (hc : t.ack.contains tag = false) (hh : t.here q key = 0) : FnC Try.prog 52 [.ptr 20 b 0, .v (.int .i64 q), .v (.string key), .v (.int .i64 tag)] (txR b p a t) (fun r F' => ∃ a', r = .v (.int .i64 0) ∧ F' = txR b p a' { t with queue := q, key := key, ack := t.ack ++ [tag] }) := by
  refine FnC.intro Try.func52 rfl Try.ntmps52 rfl ?_; intro off w0
  ((repeat refine S.seq ?_); refine S.region (L.go (T := tt) tt_ok rfl rfl ?sd835 ?_); (try (case sd835 => (repeat' (first | exact trivial | exact zA | with_reducible refine zI ?_ ?_ | exact zB | exact zC | exact zD | exact zE | rfl | exact zN rfl | omega | assumption | (simp; done) | (simp [splice]; done) | (simp; omega) | (unfold fits; omega) | (unfold fits; simp_all; omega) | (simp_all; omega) | (simp_all; done) | intro _)))); try (refine L.nil ?_))
  ((repeat refine S.seq ?_); refine S.region (L.go (T := tt) tt_ok rfl rfl ?sd836 ?_); (try (case sd836 => (repeat' (first | exact trivial | exact zA | with_reducible refine zI ?_ ?_ | exact zB | exact zC | exact zD | exact zE | rfl | exact zN rfl | omega | assumption | (simp; done) | (simp [splice]; done) | (simp; omega) | (unfold fits; omega) | (unfold fits; simp_all; omega) | (simp_all; omega) | (simp_all; done) | intro _)))); try (refine L.nil ?_))
  ((repeat refine S.seq ?_); refine S.cond rfl (fun hc1 => ?_) (fun hc1 => ?_) <;> (try first | refine S.skip ?_ | refine S.exit ?_))
  · skip
    ((repeat refine S.seq ?_); refine S.region (L.go (T := tt) tt_ok rfl rfl ?sd837 ?_); (try (case sd837 => (repeat' (first | exact trivial | exact zA | with_reducible refine zI ?_ ?_ | exact zB | exact zC | exact zD | exact zE | rfl | exact zN rfl | omega | assumption | (simp; done) | (simp [splice]; done) | (simp; omega) | (unfold fits; omega) | (unfold fits; simp_all; omega) | (simp_all; omega) | (simp_all; done) | intro _)))); try (refine L.nil ?_))
    cases hc1
  ((repeat refine S.seq ?_); refine S.region (L.go (T := tt) tt_ok rfl rfl ?sd838 ?_); (try (case sd838 => (repeat' (first | exact trivial | exact zA | with_reducible refine zI ?_ ?_ | exact zB | exact zC | exact zD | exact zE | rfl | exact zN rfl | omega | assumption | (simp; done) | (simp [splice]; done) | (simp; omega) | (unfold fits; omega) | (unfold fits; simp_all; omega) | (simp_all; omega) | (simp_all; done) | intro _)))); try (refine L.nil ?_))
  refine L.callT (G := [(22, .own a 3 1 t.ack.length (gOf intC t.ack))]) (H := [_, _]) rfl rfl rfl hv rfl rfl rfl rfl ⟨trivial, by (repeat' (first | exact trivial | exact zA | with_reducible refine zI ?_ ?_ | exact zB | exact zC | exact zD | exact zE | rfl | exact zN rfl | omega | assumption | (simp; done) | (simp [splice]; done) | (simp; omega) | (unfold fits; omega) | (unfold fits; simp_all; omega) | (simp_all; omega) | (simp_all; done) | intro _))⟩ rfl (Imps.refl _) (by unfold txR; (repeat (first | exact pick0 | refine pickS (by first | exact p0 | exact pS p0 | exact pS (pS p0) | exact pS (pS (pS p0)) | exact pS (pS (pS (pS p0))) | exact pS (pS (pS (pS (pS p0)))) | exact pS (pS (pS (pS (pS (pS p0)))))) ?_))) (hasOwn_p t.ack tag a) ?_
  rintro r F' ⟨rfl, rfl⟩
  (refine L.go (T := tt) tt_ok rfl rfl ?sd853 ?_; (try (case sd853 => (repeat' (first | exact trivial | exact zA | with_reducible refine zI ?_ ?_ | exact zB | exact zC | exact zD | exact zE | rfl | exact zN rfl | omega | assumption | (simp; done) | (simp [splice]; done) | (simp; omega) | (unfold fits; omega) | (unfold fits; simp_all; omega) | (simp_all; omega) | (simp_all; done) | intro _)))); try (refine L.nil ?_))
  ((repeat refine S.seq ?_); refine S.cond rfl (fun hc2 => ?_) (fun hc2 => ?_) <;> (try first | refine S.skip ?_ | refine S.exit ?_))
  · skip
    ((repeat refine S.seq ?_); refine S.region (L.go (T := tt) tt_ok rfl rfl ?sd839 ?_); (try (case sd839 => (repeat' (first | exact trivial | exact zA | with_reducible refine zI ?_ ?_ | exact zB | exact zC | exact zD | exact zE | rfl | exact zN rfl | omega | assumption | (simp; done) | (simp [splice]; done) | (simp; omega) | (unfold fits; omega) | (unfold fits; simp_all; omega) | (simp_all; omega) | (simp_all; done) | intro _)))); try (refine L.nil ?_))
    exact (bad hc2 (by rw [hv, hc]; rfl)).elim
  ((repeat refine S.seq ?_); refine S.region (L.go (T := tt) tt_ok rfl rfl ?sd840 ?_); (try (case sd840 => (repeat' (first | exact trivial | exact zA | with_reducible refine zI ?_ ?_ | exact zB | exact zC | exact zD | exact zE | rfl | exact zN rfl | omega | assumption | (simp; done) | (simp [splice]; done) | (simp; omega) | (unfold fits; omega) | (unfold fits; simp_all; omega) | (simp_all; omega) | (simp_all; done) | intro _)))); try (refine L.nil ?_))
  refine L.call (G := txR b p a t) (H := []) rfl rfl rfl rfl rfl rfl rfl ⟨trivial, by (repeat' (first | exact trivial | exact zA | with_reducible refine zI ?_ ?_ | exact zB | exact zC | exact zD | exact zE | rfl | exact zN rfl | omega | assumption | (simp; done) | (simp [splice]; done) | (simp; omega) | (unfold fits; omega) | (unfold fits; simp_all; omega) | (simp_all; omega) | (simp_all; done) | intro _))⟩ rfl (Imps.refl _) (by unfold txR; (repeat (first | exact pick0 | refine pickS (by first | exact p0 | exact pS p0 | exact pS (pS p0) | exact pS (pS (pS p0)) | exact pS (pS (pS (pS p0))) | exact pS (pS (pS (pS (pS p0)))) | exact pS (pS (pS (pS (pS (pS p0)))))) ?_))) (here_p b p a t q key h1 (by omega)) ?_
  rintro r F' ⟨rfl, rfl⟩
  unfold txR
  (refine L.go (T := tt) tt_ok rfl rfl ?sd854 ?_; (try (case sd854 => (repeat' (first | exact trivial | exact zA | with_reducible refine zI ?_ ?_ | exact zB | exact zC | exact zD | exact zE | rfl | exact zN rfl | omega | assumption | (simp; done) | (simp [splice]; done) | (simp; omega) | (unfold fits; omega) | (unfold fits; simp_all; omega) | (simp_all; omega) | (simp_all; done) | intro _)))); try (refine L.nil ?_))
  repeat refine S.seq ?_
  refine S.block ?_
  ((repeat refine S.seq ?_); refine S.region (L.go (T := tt) tt_ok rfl rfl ?sd841 ?_); (try (case sd841 => (repeat' (first | exact trivial | exact zA | with_reducible refine zI ?_ ?_ | exact zB | exact zC | exact zD | exact zE | rfl | exact zN rfl | omega | assumption | (simp; done) | (simp [splice]; done) | (simp; omega) | (unfold fits; omega) | (unfold fits; simp_all; omega) | (simp_all; omega) | (simp_all; done) | intro _)))); try (refine L.nil ?_))
  ((repeat refine S.seq ?_); refine S.cond rfl (fun hc3 => ?_) (fun hc3 => ?_) <;> (try first | refine S.skip ?_ | refine S.exit ?_))
  · skip
    ((repeat refine S.seq ?_); refine S.region (L.go (T := tt) tt_ok rfl rfl ?sd842 ?_); (try (case sd842 => (repeat' (first | exact trivial | exact zA | with_reducible refine zI ?_ ?_ | exact zB | exact zC | exact zD | exact zE | rfl | exact zN rfl | omega | assumption | (simp; done) | (simp [splice]; done) | (simp; omega) | (unfold fits; omega) | (unfold fits; simp_all; omega) | (simp_all; omega) | (simp_all; done) | intro _)))); try (refine L.nil ?_))
    exact absurd hc3 (by rw [hh]; decide)
  ((repeat refine S.seq ?_); refine S.region (L.go (T := tt) tt_ok rfl rfl ?sd843 ?_); (try (case sd843 => (repeat' (first | exact trivial | exact zA | with_reducible refine zI ?_ ?_ | exact zB | exact zC | exact zD | exact zE | rfl | exact zN rfl | omega | assumption | (simp; done) | (simp [splice]; done) | (simp; omega) | (unfold fits; omega) | (unfold fits; simp_all; omega) | (simp_all; omega) | (simp_all; done) | intro _)))); try (refine L.nil ?_))
  ((repeat refine S.seq ?_); refine S.cond rfl (fun hc4 => ?_) (fun hc4 => ?_) <;> (try first | refine S.skip ?_ | refine S.exit ?_))
  · skip
    ((repeat refine S.seq ?_); refine S.region (L.go (T := tt) tt_ok rfl rfl ?sd844 ?_); (try (case sd844 => (repeat' (first | exact trivial | exact zA | with_reducible refine zI ?_ ?_ | exact zB | exact zC | exact zD | exact zE | rfl | exact zN rfl | omega | assumption | (simp; done) | (simp [splice]; done) | (simp; omega) | (unfold fits; omega) | (unfold fits; simp_all; omega) | (simp_all; omega) | (simp_all; done) | intro _)))); try (refine L.nil ?_))
    exfalso
    simp only [beq_iff_eq] at hc4
    omega
  ((repeat refine S.seq ?_); refine S.region (L.go (T := tt) tt_ok rfl rfl ?sd845 ?_); (try (case sd845 => (repeat' (first | exact trivial | exact zA | with_reducible refine zI ?_ ?_ | exact zB | exact zC | exact zD | exact zE | rfl | exact zN rfl | omega | assumption | (simp; done) | (simp [splice]; done) | (simp; omega) | (unfold fits; omega) | (unfold fits; simp_all; omega) | (simp_all; omega) | (simp_all; done) | intro _)))); try (refine L.nil ?_))
  refine L.buildSlice (T := tt) 65 tt_ok rfl rfl rfl rfl rfl rfl (by decide) (by decide) rfl rfl (by (repeat' (first | exact trivial | exact zA | with_reducible refine zI ?_ ?_ | exact zB | exact zC | exact zD | exact zE | rfl | exact zN rfl | omega | assumption | (simp; done) | (simp [splice]; done) | (simp; omega) | (unfold fits; omega) | (unfold fits; simp_all; omega) | (simp_all; omega) | (simp_all; done) | intro _))) fun x65 => ?_
  refine L.append (T := tt) tt_ok rfl rfl rfl rfl rfl rfl rfl rfl rfl rfl (by (repeat' (first | exact trivial | exact zA | with_reducible refine zI ?_ ?_ | exact zB | exact zC | exact zD | exact zE | rfl | exact zN rfl | omega | assumption | (simp; done) | (simp [splice]; done) | (simp; omega) | (unfold fits; omega) | (unfold fits; simp_all; omega) | (simp_all; omega) | (simp_all; done) | intro _))) ⟨rfl, by decide, by decide⟩ (by simp; omega) fun y66 => ?_
  (refine L.go (T := tt) tt_ok rfl rfl ?sd855 ?_; (try (case sd855 => (repeat' (first | exact trivial | exact zA | with_reducible refine zI ?_ ?_ | exact zB | exact zC | exact zD | exact zE | rfl | exact zN rfl | omega | assumption | (simp; done) | (simp [splice]; done) | (simp; omega) | (unfold fits; omega) | (unfold fits; simp_all; omega) | (simp_all; omega) | (simp_all; done) | intro _)))); try (refine L.nil ?_))
  (refine L.store (T := tt) tt_ok rfl rfl rfl rfl rfl rfl ?sd860 ?_; (try (case sd860 => (repeat' (first | exact trivial | exact zA | with_reducible refine zI ?_ ?_ | exact zB | exact zC | exact zD | exact zE | rfl | exact zN rfl | omega | assumption | (simp; done) | (simp [splice]; done) | (simp; omega) | (unfold fits; omega) | (unfold fits; simp_all; omega) | (simp_all; omega) | (simp_all; done) | intro _)))))
  (refine L.go (T := tt) tt_ok rfl rfl ?sd856 ?_; (try (case sd856 => (repeat' (first | exact trivial | exact zA | with_reducible refine zI ?_ ?_ | exact zB | exact zC | exact zD | exact zE | rfl | exact zN rfl | omega | assumption | (simp; done) | (simp [splice]; done) | (simp; omega) | (unfold fits; omega) | (unfold fits; simp_all; omega) | (simp_all; omega) | (simp_all; done) | intro _)))); try (refine L.nil ?_))
  (refine L.store (T := tt) tt_ok rfl rfl rfl rfl rfl rfl ?sd861 ?_; (try (case sd861 => (repeat' (first | exact trivial | exact zA | with_reducible refine zI ?_ ?_ | exact zB | exact zC | exact zD | exact zE | rfl | exact zN rfl | omega | assumption | (simp; done) | (simp [splice]; done) | (simp; omega) | (unfold fits; omega) | (unfold fits; simp_all; omega) | (simp_all; omega) | (simp_all; done) | intro _)))))
  (refine L.go (T := tt) tt_ok rfl rfl ?sd857 ?_; (try (case sd857 => (repeat' (first | exact trivial | exact zA | with_reducible refine zI ?_ ?_ | exact zB | exact zC | exact zD | exact zE | rfl | exact zN rfl | omega | assumption | (simp; done) | (simp [splice]; done) | (simp; omega) | (unfold fits; omega) | (unfold fits; simp_all; omega) | (simp_all; omega) | (simp_all; done) | intro _)))); try (refine L.nil ?_))
  (refine L.store (T := tt) tt_ok rfl rfl rfl rfl rfl rfl ?sd862 ?_; (try (case sd862 => (repeat' (first | exact trivial | exact zA | with_reducible refine zI ?_ ?_ | exact zB | exact zC | exact zD | exact zE | rfl | exact zN rfl | omega | assumption | (simp; done) | (simp [splice]; done) | (simp; omega) | (unfold fits; omega) | (unfold fits; simp_all; omega) | (simp_all; omega) | (simp_all; done) | intro _)))))
  refine L.nil ?_
  ((repeat refine S.seq ?_); refine S.region (L.go (T := tt) tt_ok rfl rfl ?sd846 ?_); (try (case sd846 => (repeat' (first | exact trivial | exact zA | with_reducible refine zI ?_ ?_ | exact zB | exact zC | exact zD | exact zE | rfl | exact zN rfl | omega | assumption | (simp; done) | (simp [splice]; done) | (simp; omega) | (unfold fits; omega) | (unfold fits; simp_all; omega) | (simp_all; omega) | (simp_all; done) | intro _)))); try (refine L.nil ?_))
  refine ownAs 22 (gOf intC (t.ack ++ [tag])) rfl (show t.ack.length + 1 = (t.ack ++ [tag]).length by simp) (fun i hi => ?_) ?_
  · refine app1_h intC t.ack _ _ rfl ?_ hi
    rfl
  ((repeat refine S.seq ?_); refine S.ret ?_)
  exact E.ret (T := tt) tt_ok rfl rfl (by (repeat' (first | exact trivial | exact zA | with_reducible refine zI ?_ ?_ | exact zB | exact zC | exact zD | exact zE | rfl | exact zN rfl | omega | assumption | (simp; done) | (simp [splice]; done) | (simp; omega) | (unfold fits; omega) | (unfold fits; simp_all; omega) | (simp_all; omega) | (simp_all; done) | intro _))) (F' := txR b p y66 { t with queue := q, key := key, ack := t.ack ++ [tag] }) (Imp.refl _) (by unfold txR; (repeat (first | exact List.nil_sublist _ | refine List.Sublist.cons_cons _ ?_ | refine List.Sublist.cons _ ?_))) ⟨y66, rfl, rfl⟩

theorem txtake_p (b : Nat) (p a : Value) (t : Tx) (h1 : t.put.length ≤ 1000) (h2 : t.ack.length ≤ 1000) (h3 : t.len ≠ 0) : FnC Try.prog 17 [.ptr 20 b 0] (txR b p a t) (fun r F' => r = .tup [.v (.int .i64 t.queue), .ref 21 p, .ref 22 a] ∧ F' = [(20, .blk b 77 [.v (.int .i64 t.pub), .v (.int .i64 t.queue), .v (.string t.key), N0, N0]), (21, .own p 46 5 t.put.length (gOf Msg.cells t.put)), (22, .own a 3 1 t.ack.length (gOf intC t.ack))]) := by
  refine FnC.intro Try.func17 rfl Try.ntmps17 rfl ?_; intro off w0
  ((repeat refine S.seq ?_); refine S.region (L.go (T := tt) tt_ok rfl rfl ?sd847 ?_); (try (case sd847 => (repeat' (first | exact trivial | exact zA | with_reducible refine zI ?_ ?_ | exact zB | exact zC | exact zD | exact zE | rfl | exact zN rfl | omega | assumption | (simp; done) | (simp [splice]; done) | (simp; omega) | (unfold fits; omega) | (unfold fits; simp_all; omega) | (simp_all; omega) | (simp_all; done) | intro _)))); try (refine L.nil ?_))
  ((repeat refine S.seq ?_); refine S.region (L.go (T := tt) tt_ok rfl rfl ?sd848 ?_); (try (case sd848 => (repeat' (first | exact trivial | exact zA | with_reducible refine zI ?_ ?_ | exact zB | exact zC | exact zD | exact zE | rfl | exact zN rfl | omega | assumption | (simp; done) | (simp [splice]; done) | (simp; omega) | (unfold fits; omega) | (unfold fits; simp_all; omega) | (simp_all; omega) | (simp_all; done) | intro _)))); try (refine L.nil ?_))
  refine L.callT (G := txR b p a t) (H := []) rfl rfl rfl rfl rfl rfl rfl rfl ⟨trivial, by (repeat' (first | exact trivial | exact zA | with_reducible refine zI ?_ ?_ | exact zB | exact zC | exact zD | exact zE | rfl | exact zN rfl | omega | assumption | (simp; done) | (simp [splice]; done) | (simp; omega) | (unfold fits; omega) | (unfold fits; simp_all; omega) | (simp_all; omega) | (simp_all; done) | intro _))⟩ rfl (Imps.refl _) (by unfold txR; (repeat (first | exact pick0 | refine pickS (by first | exact p0 | exact pS p0 | exact pS (pS p0) | exact pS (pS (pS p0)) | exact pS (pS (pS (pS p0))) | exact pS (pS (pS (pS (pS p0)))) | exact pS (pS (pS (pS (pS (pS p0)))))) ?_))) (txlen_p b p a t h1 h2) ?_
  rintro r F' ⟨rfl, rfl⟩
  unfold txR
  (refine L.go (T := tt) tt_ok rfl rfl ?sd858 ?_; (try (case sd858 => (repeat' (first | exact trivial | exact zA | with_reducible refine zI ?_ ?_ | exact zB | exact zC | exact zD | exact zE | rfl | exact zN rfl | omega | assumption | (simp; done) | (simp [splice]; done) | (simp; omega) | (unfold fits; omega) | (unfold fits; simp_all; omega) | (simp_all; omega) | (simp_all; done) | intro _)))); try (refine L.nil ?_))
  ((repeat refine S.seq ?_); refine S.cond rfl (fun hc1 => ?_) (fun hc1 => ?_) <;> (try first | refine S.skip ?_ | refine S.exit ?_))
  · skip
    ((repeat refine S.seq ?_); refine S.region (L.go (T := tt) tt_ok rfl rfl ?sd849 ?_); (try (case sd849 => (repeat' (first | exact trivial | exact zA | with_reducible refine zI ?_ ?_ | exact zB | exact zC | exact zD | exact zE | rfl | exact zN rfl | omega | assumption | (simp; done) | (simp [splice]; done) | (simp; omega) | (unfold fits; omega) | (unfold fits; simp_all; omega) | (simp_all; omega) | (simp_all; done) | intro _)))); try (refine L.nil ?_))
    exfalso
    exact h3 (by simpa using hc1)
  repeat refine S.seq ?_
  refine S.draw [(3, [20]), (7, [20])] mixed ?_
  (refine H.ts (T := tt) [0, 1, 2, 3, 4, 5, 6, 7, 8, 9] tt_ok (by kernel_rfl) (by kernel_rfl) (by kernel_rfl) (by intro ch a a' w h; obtain ⟨_, _, _, _, _, h, _⟩ := h; cases h) rfl ?sd865 ?_; (try (case sd865 => (repeat' (first | exact trivial | exact zA | with_reducible refine zI ?_ ?_ | exact zB | exact zC | exact zD | exact zE | rfl | exact zN rfl | omega | assumption | (simp; done) | (simp [splice]; done) | (simp; omega) | (unfold fits; omega) | (unfold fits; simp_all; omega) | (simp_all; omega) | (simp_all; done) | intro _)))))
  refine H.done (by kernel_rfl) ?_
  ((repeat refine S.seq ?_); refine S.region (L.go (T := tt) tt_ok rfl rfl ?sd850 ?_); (try (case sd850 => (repeat' (first | exact trivial | exact zA | with_reducible refine zI ?_ ?_ | exact zB | exact zC | exact zD | exact zE | rfl | exact zN rfl | omega | assumption | (simp; done) | (simp [splice]; done) | (simp; omega) | (unfold fits; omega) | (unfold fits; simp_all; omega) | (simp_all; omega) | (simp_all; done) | intro _)))); try (refine L.nil ?_))
  (refine L.store (T := tt) tt_ok rfl rfl rfl rfl rfl rfl ?sd863 ?_; (try (case sd863 => (repeat' (first | exact trivial | exact zA | with_reducible refine zI ?_ ?_ | exact zB | exact zC | exact zD | exact zE | rfl | exact zN rfl | omega | assumption | (simp; done) | (simp [splice]; done) | (simp; omega) | (unfold fits; omega) | (unfold fits; simp_all; omega) | (simp_all; omega) | (simp_all; done) | intro _)))))
  (refine L.go (T := tt) tt_ok rfl rfl ?sd859 ?_; (try (case sd859 => (repeat' (first | exact trivial | exact zA | with_reducible refine zI ?_ ?_ | exact zB | exact zC | exact zD | exact zE | rfl | exact zN rfl | omega | assumption | (simp; done) | (simp [splice]; done) | (simp; omega) | (unfold fits; omega) | (unfold fits; simp_all; omega) | (simp_all; omega) | (simp_all; done) | intro _)))); try (refine L.nil ?_))
  (refine L.store (T := tt) tt_ok rfl rfl rfl rfl rfl rfl ?sd864 ?_; (try (case sd864 => (repeat' (first | exact trivial | exact zA | with_reducible refine zI ?_ ?_ | exact zB | exact zC | exact zD | exact zE | rfl | exact zN rfl | omega | assumption | (simp; done) | (simp [splice]; done) | (simp; omega) | (unfold fits; omega) | (unfold fits; simp_all; omega) | (simp_all; omega) | (simp_all; done) | intro _)))))
  refine L.nil ?_
  ((repeat refine S.seq ?_); refine S.region (L.go (T := tt) tt_ok rfl rfl ?sd851 ?_); (try (case sd851 => (repeat' (first | exact trivial | exact zA | with_reducible refine zI ?_ ?_ | exact zB | exact zC | exact zD | exact zE | rfl | exact zN rfl | omega | assumption | (simp; done) | (simp [splice]; done) | (simp; omega) | (unfold fits; omega) | (unfold fits; simp_all; omega) | (simp_all; omega) | (simp_all; done) | intro _)))); try (refine L.nil ?_))
  ((repeat refine S.seq ?_); refine S.ret ?_)
  exact E.ret (T := tt) tt_ok rfl rfl (by (repeat' (first | exact trivial | exact zA | with_reducible refine zI ?_ ?_ | exact zB | exact zC | exact zD | exact zE | rfl | exact zN rfl | omega | assumption | (simp; done) | (simp [splice]; done) | (simp; omega) | (unfold fits; omega) | (unfold fits; simp_all; omega) | (simp_all; omega) | (simp_all; done) | intro _))) (F' := [(20, .blk b 77 [.v (.int .i64 t.pub), .v (.int .i64 t.queue), .v (.string t.key), N0, N0]), (21, .own p 46 5 t.put.length (gOf Msg.cells t.put)), (22, .own a 3 1 t.ack.length (gOf intC t.ack))]) (Imp.refl _) (by (repeat (first | exact List.nil_sublist _ | refine List.Sublist.cons_cons _ ?_ | refine List.Sublist.cons _ ?_))) ⟨rfl, rfl⟩


end Go.Proofs.Ytgnklbdbglnmaaa

/- The few facts that the statements of the batch's layer ask each time. -/
namespace Go.Proofs.Ytgnklbdbglnmaaa
set_option linter.unusedVariables false
set_option linter.unusedSimpArgs false
set_option maxHeartbeats 8000000
open Go.RowKit
set_option maxRecDepth 4000

theorem bdo_fine {s : Shard} (h : s.fine) (put : List Msg) (l : List Int) : (bdo s put l).1.fine := by
  unfold bdo
  repeat' split
  all_goals first | exact h | exact ackRun_fine h l _ | exact fine_put _ (ackRun_fine h l _)

def m13 : Msg := ⟨0, 1, ⟨#[107]⟩, ByteArray.empty, false⟩
def l13 : List Msg := [m13]
def k13 : List Msg := [{ m13 with seq := 2 }]
def ua := bdo t0 l13 []
def ub := getR ua.1
def uc := bdo ub.1 k13 [1]
def ud := bdo ub.1 k13 [1, 1]
def ue := bdo t0 [] []
theorem ua_f : ua.1.fine := bdo_fine t0_f _ _
theorem ub_f : ub.1.fine := fine_get ua_f
theorem uc_f : uc.1.fine := bdo_fine ub_f _ _
def x0 : Tx := ⟨0, 0, ByteArray.empty, [], []⟩
def x1 : Tx := x0.pubT 1 ⟨#[107]⟩ 5 ⟨#[120]⟩
def x2 : Tx := x1.pubT 1 ⟨#[108]⟩ 6 ⟨#[120]⟩
def x3 : Tx := ⟨0, 1, ⟨#[107]⟩, [], []⟩

theorem told13_p : PFn Try.prog 20 [] (.v (.bool true)) := by
  have hl : l13.length = 1 := rfl
  have hk : k13.length = 1 := rfl
  refine FnC.intro Try.func20 rfl Try.ntmps20 rfl ?_; intro off w0
  ((repeat refine S.seq ?_); refine S.region (L.go (T := tt) tt_ok rfl rfl ?sd866 ?_); (try (case sd866 => (repeat' (first | exact trivial | exact zA | with_reducible refine zI ?_ ?_ | exact zB | exact zC | exact zD | exact zE | rfl | exact zN rfl | omega | assumption | (simp; done) | (simp [splice]; done) | (simp; omega) | (unfold fits; omega) | (unfold fits; simp_all; omega) | (simp_all; omega) | (simp_all; done) | intro _)))); try (refine L.nil ?_))
  repeat refine S.seq ?_
  refine S.region ?_
  refine L.callP rfl rfl rfl rfl rfl rfl rfl ⟨trivial, by (repeat' (first | exact trivial | exact zA | with_reducible refine zI ?_ ?_ | exact zB | exact zC | exact zD | exact zE | rfl | exact zN rfl | omega | assumption | (simp; done) | (simp [splice]; done) | (simp; omega) | (unfold fits; omega) | (unfold fits; simp_all; omega) | (simp_all; omega) | (simp_all; done) | intro _))⟩ rfl (Imps.refl _) new_p ?_
  refine L.alloc (T := tt) 1 tt_ok rfl rfl rfl rfl rfl fun b1 => ?_
  (refine L.store (T := tt) tt_ok rfl rfl rfl rfl rfl rfl ?sd898 ?_; (try (case sd898 => (repeat' (first | exact trivial | exact zA | with_reducible refine zI ?_ ?_ | exact zB | exact zC | exact zD | exact zE | rfl | exact zN rfl | omega | assumption | (simp; done) | (simp [splice]; done) | (simp; omega) | (unfold fits; omega) | (unfold fits; simp_all; omega) | (simp_all; omega) | (simp_all; done) | intro _)))))
  refine L.nil ?_
  ((repeat refine S.seq ?_); refine S.region (L.go (T := tt) tt_ok rfl rfl ?sd867 ?_); (try (case sd867 => (repeat' (first | exact trivial | exact zA | with_reducible refine zI ?_ ?_ | exact zB | exact zC | exact zD | exact zE | rfl | exact zN rfl | omega | assumption | (simp; done) | (simp [splice]; done) | (simp; omega) | (unfold fits; omega) | (unfold fits; simp_all; omega) | (simp_all; omega) | (simp_all; done) | intro _)))); try (refine L.nil ?_))
  refine L.alloc (T := tt) 2 tt_ok rfl rfl rfl rfl rfl fun b2 => ?_
  (refine L.store (T := tt) tt_ok rfl rfl rfl rfl rfl rfl ?sd899 ?_; (try (case sd899 => (repeat' (first | exact trivial | exact zA | with_reducible refine zI ?_ ?_ | exact zB | exact zC | exact zD | exact zE | rfl | exact zN rfl | omega | assumption | (simp; done) | (simp [splice]; done) | (simp; omega) | (unfold fits; omega) | (unfold fits; simp_all; omega) | (simp_all; omega) | (simp_all; done) | intro _)))))
  refine L.nil ?_
  ((repeat refine S.seq ?_); refine S.region (L.go (T := tt) tt_ok rfl rfl ?sd868 ?_); (try (case sd868 => (repeat' (first | exact trivial | exact zA | with_reducible refine zI ?_ ?_ | exact zB | exact zC | exact zD | exact zE | rfl | exact zN rfl | omega | assumption | (simp; done) | (simp [splice]; done) | (simp; omega) | (unfold fits; omega) | (unfold fits; simp_all; omega) | (simp_all; omega) | (simp_all; done) | intro _)))); try (refine L.nil ?_))
  refine L.buildSlice (T := tt) 27 tt_ok rfl rfl rfl rfl rfl rfl (by decide) (by decide) rfl rfl (by (repeat' (first | exact trivial | exact zA | with_reducible refine zI ?_ ?_ | exact zB | exact zC | exact zD | exact zE | rfl | exact zN rfl | omega | assumption | (simp; done) | (simp [splice]; done) | (simp; omega) | (unfold fits; omega) | (unfold fits; simp_all; omega) | (simp_all; omega) | (simp_all; done) | intro _))) fun x27 => ?_
  refine freezeSlot 27 27 rfl rfl rfl (slotAs 27 (msgs l13) rfl (Imp.lst rfl fun i hi => by (obtain rfl : i = 0 := by omega); rfl) ?_)
  refine L.callP rfl rfl rfl rfl rfl rfl rfl ⟨trivial, by (repeat' (first | exact trivial | exact zA | with_reducible refine zI ?_ ?_ | exact zB | exact zC | exact zD | exact zE | rfl | exact zN rfl | omega | assumption | (simp; done) | (simp [splice]; done) | (simp; omega) | (unfold fits; omega) | (unfold fits; simp_all; omega) | (simp_all; omega) | (simp_all; done) | intro _))⟩ rfl (by exact ⟨Imp.refl _, Imp.refl _, Imp.nil _ _, trivial⟩) (bdo_p t0 l13 [] t0_f) ?_
  (refine L.go (T := tt) tt_ok rfl rfl ?sd881 ?_; (try (case sd881 => (repeat' (first | exact trivial | exact zA | with_reducible refine zI ?_ ?_ | exact zB | exact zC | exact zD | exact zE | rfl | exact zN rfl | omega | assumption | (simp; done) | (simp [splice]; done) | (simp; omega) | (unfold fits; omega) | (unfold fits; simp_all; omega) | (simp_all; omega) | (simp_all; done) | intro _)))); try (refine L.nil ?_))
  refine L.alloc (T := tt) 3 tt_ok rfl rfl rfl rfl rfl fun b3 => ?_
  (refine L.store (T := tt) tt_ok rfl rfl rfl rfl rfl rfl ?sd900 ?_; (try (case sd900 => (repeat' (first | exact trivial | exact zA | with_reducible refine zI ?_ ?_ | exact zB | exact zC | exact zD | exact zE | rfl | exact zN rfl | omega | assumption | (simp; done) | (simp [splice]; done) | (simp; omega) | (unfold fits; omega) | (unfold fits; simp_all; omega) | (simp_all; omega) | (simp_all; done) | intro _)))))
  (refine L.go (T := tt) tt_ok rfl rfl ?sd882 ?_; (try (case sd882 => (repeat' (first | exact trivial | exact zA | with_reducible refine zI ?_ ?_ | exact zB | exact zC | exact zD | exact zE | rfl | exact zN rfl | omega | assumption | (simp; done) | (simp [splice]; done) | (simp; omega) | (unfold fits; omega) | (unfold fits; simp_all; omega) | (simp_all; omega) | (simp_all; done) | intro _)))); try (refine L.nil ?_))
  ((repeat refine S.seq ?_); refine S.region (L.go (T := tt) tt_ok rfl rfl ?sd869 ?_); (try (case sd869 => (repeat' (first | exact trivial | exact zA | with_reducible refine zI ?_ ?_ | exact zB | exact zC | exact zD | exact zE | rfl | exact zN rfl | omega | assumption | (simp; done) | (simp [splice]; done) | (simp; omega) | (unfold fits; omega) | (unfold fits; simp_all; omega) | (simp_all; omega) | (simp_all; done) | intro _)))); try (refine L.nil ?_))
  refine L.callP rfl rfl rfl rfl rfl rfl rfl ⟨trivial, by (repeat' (first | exact trivial | exact zA | with_reducible refine zI ?_ ?_ | exact zB | exact zC | exact zD | exact zE | rfl | exact zN rfl | omega | assumption | (simp; done) | (simp [splice]; done) | (simp; omega) | (unfold fits; omega) | (unfold fits; simp_all; omega) | (simp_all; omega) | (simp_all; done) | intro _))⟩ rfl (Imps.refl _) (getR_p ua.1 ua_f) ?_
  (refine L.go (T := tt) tt_ok rfl rfl ?sd883 ?_; (try (case sd883 => (repeat' (first | exact trivial | exact zA | with_reducible refine zI ?_ ?_ | exact zB | exact zC | exact zD | exact zE | rfl | exact zN rfl | omega | assumption | (simp; done) | (simp [splice]; done) | (simp; omega) | (unfold fits; omega) | (unfold fits; simp_all; omega) | (simp_all; omega) | (simp_all; done) | intro _)))); try (refine L.nil ?_))
  refine L.alloc (T := tt) 5 tt_ok rfl rfl rfl rfl rfl fun b5 => ?_
  refine L.alloc (T := tt) 6 tt_ok rfl rfl rfl rfl rfl fun b6 => ?_
  (refine L.store (T := tt) tt_ok rfl rfl rfl rfl rfl rfl ?sd901 ?_; (try (case sd901 => (repeat' (first | exact trivial | exact zA | with_reducible refine zI ?_ ?_ | exact zB | exact zC | exact zD | exact zE | rfl | exact zN rfl | omega | assumption | (simp; done) | (simp [splice]; done) | (simp; omega) | (unfold fits; omega) | (unfold fits; simp_all; omega) | (simp_all; omega) | (simp_all; done) | intro _)))))
  (refine L.store (T := tt) tt_ok rfl rfl rfl rfl rfl rfl ?sd902 ?_; (try (case sd902 => (repeat' (first | exact trivial | exact zA | with_reducible refine zI ?_ ?_ | exact zB | exact zC | exact zD | exact zE | rfl | exact zN rfl | omega | assumption | (simp; done) | (simp [splice]; done) | (simp; omega) | (unfold fits; omega) | (unfold fits; simp_all; omega) | (simp_all; omega) | (simp_all; done) | intro _)))))
  (refine L.go (T := tt) tt_ok rfl rfl ?sd884 ?_; (try (case sd884 => (repeat' (first | exact trivial | exact zA | with_reducible refine zI ?_ ?_ | exact zB | exact zC | exact zD | exact zE | rfl | exact zN rfl | omega | assumption | (simp; done) | (simp [splice]; done) | (simp; omega) | (unfold fits; omega) | (unfold fits; simp_all; omega) | (simp_all; omega) | (simp_all; done) | intro _)))); try (refine L.nil ?_))
  ((repeat refine S.seq ?_); refine S.region (L.go (T := tt) tt_ok rfl rfl ?sd870 ?_); (try (case sd870 => (repeat' (first | exact trivial | exact zA | with_reducible refine zI ?_ ?_ | exact zB | exact zC | exact zD | exact zE | rfl | exact zN rfl | omega | assumption | (simp; done) | (simp [splice]; done) | (simp; omega) | (unfold fits; omega) | (unfold fits; simp_all; omega) | (simp_all; omega) | (simp_all; done) | intro _)))); try (refine L.nil ?_))
  refine L.alloc (T := tt) 8 tt_ok rfl rfl rfl rfl rfl fun b8 => ?_
  (refine L.store (T := tt) tt_ok rfl rfl rfl rfl rfl rfl ?sd903 ?_; (try (case sd903 => (repeat' (first | exact trivial | exact zA | with_reducible refine zI ?_ ?_ | exact zB | exact zC | exact zD | exact zE | rfl | exact zN rfl | omega | assumption | (simp; done) | (simp [splice]; done) | (simp; omega) | (unfold fits; omega) | (unfold fits; simp_all; omega) | (simp_all; omega) | (simp_all; done) | intro _)))))
  refine L.nil ?_
  ((repeat refine S.seq ?_); refine S.region (L.go (T := tt) tt_ok rfl rfl ?sd871 ?_); (try (case sd871 => (repeat' (first | exact trivial | exact zA | with_reducible refine zI ?_ ?_ | exact zB | exact zC | exact zD | exact zE | rfl | exact zN rfl | omega | assumption | (simp; done) | (simp [splice]; done) | (simp; omega) | (unfold fits; omega) | (unfold fits; simp_all; omega) | (simp_all; omega) | (simp_all; done) | intro _)))); try (refine L.nil ?_))
  (refine L.store (T := tt) tt_ok rfl rfl rfl rfl rfl rfl ?sd904 ?_; (try (case sd904 => (repeat' (first | exact trivial | exact zA | with_reducible refine zI ?_ ?_ | exact zB | exact zC | exact zD | exact zE | rfl | exact zN rfl | omega | assumption | (simp; done) | (simp [splice]; done) | (simp; omega) | (unfold fits; omega) | (unfold fits; simp_all; omega) | (simp_all; omega) | (simp_all; done) | intro _)))))
  refine L.nil ?_
  ((repeat refine S.seq ?_); refine S.region (L.go (T := tt) tt_ok rfl rfl ?sd872 ?_); (try (case sd872 => (repeat' (first | exact trivial | exact zA | with_reducible refine zI ?_ ?_ | exact zB | exact zC | exact zD | exact zE | rfl | exact zN rfl | omega | assumption | (simp; done) | (simp [splice]; done) | (simp; omega) | (unfold fits; omega) | (unfold fits; simp_all; omega) | (simp_all; omega) | (simp_all; done) | intro _)))); try (refine L.nil ?_))
  refine L.buildSlice (T := tt) 42 tt_ok rfl rfl rfl rfl rfl rfl (by decide) (by decide) rfl rfl (by (repeat' (first | exact trivial | exact zA | with_reducible refine zI ?_ ?_ | exact zB | exact zC | exact zD | exact zE | rfl | exact zN rfl | omega | assumption | (simp; done) | (simp [splice]; done) | (simp; omega) | (unfold fits; omega) | (unfold fits; simp_all; omega) | (simp_all; omega) | (simp_all; done) | intro _))) fun x42 => ?_
  refine freezeSlot 42 42 rfl rfl rfl (slotAs 42 (msgs k13) rfl (Imp.lst rfl fun i hi => by (obtain rfl : i = 0 := by omega); rfl) ?_)
  refine L.buildSlice (T := tt) 43 tt_ok rfl rfl rfl rfl rfl rfl (by decide) (by decide) rfl rfl (by (repeat' (first | exact trivial | exact zA | with_reducible refine zI ?_ ?_ | exact zB | exact zC | exact zD | exact zE | rfl | exact zN rfl | omega | assumption | (simp; done) | (simp [splice]; done) | (simp; omega) | (unfold fits; omega) | (unfold fits; simp_all; omega) | (simp_all; omega) | (simp_all; done) | intro _))) fun x43 => ?_
  refine freezeSlot 43 43 rfl rfl rfl (slotAs 43 (ints [1]) rfl (Imp.lst rfl fun i hi => by (obtain rfl : i = 0 := by omega); rfl) ?_)
  refine L.callP rfl rfl rfl rfl rfl rfl rfl ⟨trivial, by (repeat' (first | exact trivial | exact zA | with_reducible refine zI ?_ ?_ | exact zB | exact zC | exact zD | exact zE | rfl | exact zN rfl | omega | assumption | (simp; done) | (simp [splice]; done) | (simp; omega) | (unfold fits; omega) | (unfold fits; simp_all; omega) | (simp_all; omega) | (simp_all; done) | intro _))⟩ rfl (Imps.refl _) (bdo_p ub.1 k13 [1] ub_f) ?_
  (refine L.go (T := tt) tt_ok rfl rfl ?sd885 ?_; (try (case sd885 => (repeat' (first | exact trivial | exact zA | with_reducible refine zI ?_ ?_ | exact zB | exact zC | exact zD | exact zE | rfl | exact zN rfl | omega | assumption | (simp; done) | (simp [splice]; done) | (simp; omega) | (unfold fits; omega) | (unfold fits; simp_all; omega) | (simp_all; omega) | (simp_all; done) | intro _)))); try (refine L.nil ?_))
  refine L.alloc (T := tt) 9 tt_ok rfl rfl rfl rfl rfl fun b9 => ?_
  (refine L.store (T := tt) tt_ok rfl rfl rfl rfl rfl rfl ?sd905 ?_; (try (case sd905 => (repeat' (first | exact trivial | exact zA | with_reducible refine zI ?_ ?_ | exact zB | exact zC | exact zD | exact zE | rfl | exact zN rfl | omega | assumption | (simp; done) | (simp [splice]; done) | (simp; omega) | (unfold fits; omega) | (unfold fits; simp_all; omega) | (simp_all; omega) | (simp_all; done) | intro _)))))
  (refine L.go (T := tt) tt_ok rfl rfl ?sd886 ?_; (try (case sd886 => (repeat' (first | exact trivial | exact zA | with_reducible refine zI ?_ ?_ | exact zB | exact zC | exact zD | exact zE | rfl | exact zN rfl | omega | assumption | (simp; done) | (simp [splice]; done) | (simp; omega) | (unfold fits; omega) | (unfold fits; simp_all; omega) | (simp_all; omega) | (simp_all; done) | intro _)))); try (refine L.nil ?_))
  ((repeat refine S.seq ?_); refine S.region (L.go (T := tt) tt_ok rfl rfl ?sd873 ?_); (try (case sd873 => (repeat' (first | exact trivial | exact zA | with_reducible refine zI ?_ ?_ | exact zB | exact zC | exact zD | exact zE | rfl | exact zN rfl | omega | assumption | (simp; done) | (simp [splice]; done) | (simp; omega) | (unfold fits; omega) | (unfold fits; simp_all; omega) | (simp_all; omega) | (simp_all; done) | intro _)))); try (refine L.nil ?_))
  refine L.buildSlice (T := tt) 50 tt_ok rfl rfl rfl rfl rfl rfl (by decide) (by decide) rfl rfl (by (repeat' (first | exact trivial | exact zA | with_reducible refine zI ?_ ?_ | exact zB | exact zC | exact zD | exact zE | rfl | exact zN rfl | omega | assumption | (simp; done) | (simp [splice]; done) | (simp; omega) | (unfold fits; omega) | (unfold fits; simp_all; omega) | (simp_all; omega) | (simp_all; done) | intro _))) fun x50 => ?_
  refine freezeSlot 50 50 rfl rfl rfl (slotAs 50 (msgs k13) rfl (Imp.lst rfl fun i hi => by (obtain rfl : i = 0 := by omega); rfl) ?_)
  refine L.buildSlice (T := tt) 51 tt_ok rfl rfl rfl rfl rfl rfl (by decide) (by decide) rfl rfl (by (repeat' (first | exact trivial | exact zA | with_reducible refine zI ?_ ?_ | exact zB | exact zC | exact zD | exact zE | rfl | exact zN rfl | omega | assumption | (simp; done) | (simp [splice]; done) | (simp; omega) | (unfold fits; omega) | (unfold fits; simp_all; omega) | (simp_all; omega) | (simp_all; done) | intro _))) fun x51 => ?_
  refine freezeSlot 51 51 rfl rfl rfl (slotAs 51 (ints [1, 1]) rfl (Imp.lst rfl fun i hi => by rcases i with _ | _ | i <;> first | rfl | omega) ?_)
  refine L.callP rfl rfl rfl rfl rfl rfl rfl ⟨trivial, by (repeat' (first | exact trivial | exact zA | with_reducible refine zI ?_ ?_ | exact zB | exact zC | exact zD | exact zE | rfl | exact zN rfl | omega | assumption | (simp; done) | (simp [splice]; done) | (simp; omega) | (unfold fits; omega) | (unfold fits; simp_all; omega) | (simp_all; omega) | (simp_all; done) | intro _))⟩ rfl (Imps.refl _) (bdo_p ub.1 k13 [1, 1] ub_f) ?_
  (refine L.go (T := tt) tt_ok rfl rfl ?sd887 ?_; (try (case sd887 => (repeat' (first | exact trivial | exact zA | with_reducible refine zI ?_ ?_ | exact zB | exact zC | exact zD | exact zE | rfl | exact zN rfl | omega | assumption | (simp; done) | (simp [splice]; done) | (simp; omega) | (unfold fits; omega) | (unfold fits; simp_all; omega) | (simp_all; omega) | (simp_all; done) | intro _)))); try (refine L.nil ?_))
  refine L.alloc (T := tt) 11 tt_ok rfl rfl rfl rfl rfl fun b11 => ?_
  (refine L.store (T := tt) tt_ok rfl rfl rfl rfl rfl rfl ?sd906 ?_; (try (case sd906 => (repeat' (first | exact trivial | exact zA | with_reducible refine zI ?_ ?_ | exact zB | exact zC | exact zD | exact zE | rfl | exact zN rfl | omega | assumption | (simp; done) | (simp [splice]; done) | (simp; omega) | (unfold fits; omega) | (unfold fits; simp_all; omega) | (simp_all; omega) | (simp_all; done) | intro _)))))
  (refine L.go (T := tt) tt_ok rfl rfl ?sd888 ?_; (try (case sd888 => (repeat' (first | exact trivial | exact zA | with_reducible refine zI ?_ ?_ | exact zB | exact zC | exact zD | exact zE | rfl | exact zN rfl | omega | assumption | (simp; done) | (simp [splice]; done) | (simp; omega) | (unfold fits; omega) | (unfold fits; simp_all; omega) | (simp_all; omega) | (simp_all; done) | intro _)))); try (refine L.nil ?_))
  ((repeat refine S.seq ?_); refine S.region (L.go (T := tt) tt_ok rfl rfl ?sd874 ?_); (try (case sd874 => (repeat' (first | exact trivial | exact zA | with_reducible refine zI ?_ ?_ | exact zB | exact zC | exact zD | exact zE | rfl | exact zN rfl | omega | assumption | (simp; done) | (simp [splice]; done) | (simp; omega) | (unfold fits; omega) | (unfold fits; simp_all; omega) | (simp_all; omega) | (simp_all; done) | intro _)))); try (refine L.nil ?_))
  refine L.callP rfl rfl rfl rfl rfl rfl rfl ⟨trivial, by (repeat' (first | exact trivial | exact zA | with_reducible refine zI ?_ ?_ | exact zB | exact zC | exact zD | exact zE | rfl | exact zN rfl | omega | assumption | (simp; done) | (simp [splice]; done) | (simp; omega) | (unfold fits; omega) | (unfold fits; simp_all; omega) | (simp_all; omega) | (simp_all; done) | intro _))⟩ rfl (by exact ⟨Imp.refl _, Imp.nil _ _, Imp.nil _ _, trivial⟩) (bdo_p t0 [] [] t0_f) ?_
  (refine L.go (T := tt) tt_ok rfl rfl ?sd889 ?_; (try (case sd889 => (repeat' (first | exact trivial | exact zA | with_reducible refine zI ?_ ?_ | exact zB | exact zC | exact zD | exact zE | rfl | exact zN rfl | omega | assumption | (simp; done) | (simp [splice]; done) | (simp; omega) | (unfold fits; omega) | (unfold fits; simp_all; omega) | (simp_all; omega) | (simp_all; done) | intro _)))); try (refine L.nil ?_))
  refine L.alloc (T := tt) 13 tt_ok rfl rfl rfl rfl rfl fun b13 => ?_
  (refine L.store (T := tt) tt_ok rfl rfl rfl rfl rfl rfl ?sd907 ?_; (try (case sd907 => (repeat' (first | exact trivial | exact zA | with_reducible refine zI ?_ ?_ | exact zB | exact zC | exact zD | exact zE | rfl | exact zN rfl | omega | assumption | (simp; done) | (simp [splice]; done) | (simp; omega) | (unfold fits; omega) | (unfold fits; simp_all; omega) | (simp_all; omega) | (simp_all; done) | intro _)))))
  (refine L.go (T := tt) tt_ok rfl rfl ?sd890 ?_; (try (case sd890 => (repeat' (first | exact trivial | exact zA | with_reducible refine zI ?_ ?_ | exact zB | exact zC | exact zD | exact zE | rfl | exact zN rfl | omega | assumption | (simp; done) | (simp [splice]; done) | (simp; omega) | (unfold fits; omega) | (unfold fits; simp_all; omega) | (simp_all; omega) | (simp_all; done) | intro _)))); try (refine L.nil ?_))
  repeat refine S.seq ?_
  refine S.region ?_
  refine L.call (G := []) rfl rfl rfl rfl rfl rfl rfl ⟨trivial, by (repeat' (first | exact trivial | exact zA | with_reducible refine zI ?_ ?_ | exact zB | exact zC | exact zD | exact zE | rfl | exact zN rfl | omega | assumption | (simp; done) | (simp [splice]; done) | (simp; omega) | (unfold fits; omega) | (unfold fits; simp_all; omega) | (simp_all; omega) | (simp_all; done) | intro _))⟩ rfl (Imps.refl _) (by (repeat (first | exact pick0 | refine pickS (by first | exact p0 | exact pS p0 | exact pS (pS p0) | exact pS (pS (pS p0)) | exact pS (pS (pS (pS p0))) | exact pS (pS (pS (pS (pS p0)))) | exact pS (pS (pS (pS (pS (pS p0)))))) ?_))) (txnew_p 0 (by decide) (by decide)) ?_
  rintro r F' ⟨b20, rfl, rfl⟩
  (refine L.go (T := tt) tt_ok rfl rfl ?sd891 ?_; (try (case sd891 => (repeat' (first | exact trivial | exact zA | with_reducible refine zI ?_ ?_ | exact zB | exact zC | exact zD | exact zE | rfl | exact zN rfl | omega | assumption | (simp; done) | (simp [splice]; done) | (simp; omega) | (unfold fits; omega) | (unfold fits; simp_all; omega) | (simp_all; omega) | (simp_all; done) | intro _)))); try (refine L.nil ?_))
  ((repeat refine S.seq ?_); refine S.region (L.go (T := tt) tt_ok rfl rfl ?sd875 ?_); (try (case sd875 => (repeat' (first | exact trivial | exact zA | with_reducible refine zI ?_ ?_ | exact zB | exact zC | exact zD | exact zE | rfl | exact zN rfl | omega | assumption | (simp; done) | (simp [splice]; done) | (simp; omega) | (unfold fits; omega) | (unfold fits; simp_all; omega) | (simp_all; omega) | (simp_all; done) | intro _)))); try (refine L.nil ?_))
  ((repeat refine S.seq ?_); refine S.cond rfl (fun h1 => ?_) (fun h1 => ?_) <;> (try first | refine S.skip ?_ | refine S.exit ?_))
  · cases h1
  refine nilRow 21 46 5 (gOf Msg.cells []) ?_
  refine nilRow 22 3 1 (gOf intC []) ?_
  refine blkAs 20 (x0.cells (.slice none 0 0) (.slice none 0 0)) rfl ⟨Imp.refl _, Imp.refl _, Imp.refl _, Imp.vref rfl, Imp.vref rfl, trivial⟩ ?_
  ((repeat refine S.seq ?_); refine S.region (L.go (T := tt) tt_ok rfl rfl ?sd876 ?_); (try (case sd876 => (repeat' (first | exact trivial | exact zA | with_reducible refine zI ?_ ?_ | exact zB | exact zC | exact zD | exact zE | rfl | exact zN rfl | omega | assumption | (simp; done) | (simp [splice]; done) | (simp; omega) | (unfold fits; omega) | (unfold fits; simp_all; omega) | (simp_all; omega) | (simp_all; done) | intro _)))); try (refine L.nil ?_))
  refine L.call (G := txR b20 (.slice none 0 0) (.slice none 0 0) x0) (H := [_, _, _, _, _, _, _, _, _]) rfl rfl rfl rfl rfl rfl rfl ⟨trivial, by (repeat' (first | exact trivial | exact zA | with_reducible refine zI ?_ ?_ | exact zB | exact zC | exact zD | exact zE | rfl | exact zN rfl | omega | assumption | (simp; done) | (simp [splice]; done) | (simp; omega) | (unfold fits; omega) | (unfold fits; simp_all; omega) | (simp_all; omega) | (simp_all; done) | intro _))⟩ rfl (Imps.refl _) (by unfold txR; (repeat (first | exact pick0 | refine pickS (by first | exact p0 | exact pS p0 | exact pS (pS p0) | exact pS (pS (pS p0)) | exact pS (pS (pS (pS p0))) | exact pS (pS (pS (pS (pS p0)))) | exact pS (pS (pS (pS (pS (pS p0)))))) ?_))) (pub_p b20 _ _ x0 1 ⟨#[107]⟩ 5 ⟨#[120]⟩ (by decide) (by decide) (fun h => absurd h (by decide))) ?_
  rintro r F' ⟨p1, rfl, rfl⟩
  (refine L.go (T := tt) tt_ok rfl rfl ?sd892 ?_; (try (case sd892 => (repeat' (first | exact trivial | exact zA | with_reducible refine zI ?_ ?_ | exact zB | exact zC | exact zD | exact zE | rfl | exact zN rfl | omega | assumption | (simp; done) | (simp [splice]; done) | (simp; omega) | (unfold fits; omega) | (unfold fits; simp_all; omega) | (simp_all; omega) | (simp_all; done) | intro _)))); try (refine L.nil ?_))
  ((repeat refine S.seq ?_); refine S.region (L.go (T := tt) tt_ok rfl rfl ?sd877 ?_); (try (case sd877 => (repeat' (first | exact trivial | exact zA | with_reducible refine zI ?_ ?_ | exact zB | exact zC | exact zD | exact zE | rfl | exact zN rfl | omega | assumption | (simp; done) | (simp [splice]; done) | (simp; omega) | (unfold fits; omega) | (unfold fits; simp_all; omega) | (simp_all; omega) | (simp_all; done) | intro _)))); try (refine L.nil ?_))
  refine L.call (G := txR b20 p1 (.slice none 0 0) x1) (H := [_, _, _, _, _, _, _, _, _]) rfl rfl rfl rfl rfl rfl rfl ⟨trivial, by (repeat' (first | exact trivial | exact zA | with_reducible refine zI ?_ ?_ | exact zB | exact zC | exact zD | exact zE | rfl | exact zN rfl | omega | assumption | (simp; done) | (simp [splice]; done) | (simp; omega) | (unfold fits; omega) | (unfold fits; simp_all; omega) | (simp_all; omega) | (simp_all; done) | intro _))⟩ rfl (Imps.refl _) (by unfold txR; (repeat (first | exact pick0 | refine pickS (by first | exact p0 | exact pS p0 | exact pS (pS p0) | exact pS (pS (pS p0)) | exact pS (pS (pS (pS p0))) | exact pS (pS (pS (pS (pS p0)))) | exact pS (pS (pS (pS (pS (pS p0)))))) ?_))) (pub_p b20 _ _ x1 1 ⟨#[108]⟩ 6 ⟨#[120]⟩ (by decide) (by decide) (fun h => by decide)) ?_
  rintro r F' ⟨p2, rfl, rfl⟩
  (refine L.go (T := tt) tt_ok rfl rfl ?sd893 ?_; (try (case sd893 => (repeat' (first | exact trivial | exact zA | with_reducible refine zI ?_ ?_ | exact zB | exact zC | exact zD | exact zE | rfl | exact zN rfl | omega | assumption | (simp; done) | (simp [splice]; done) | (simp; omega) | (unfold fits; omega) | (unfold fits; simp_all; omega) | (simp_all; omega) | (simp_all; done) | intro _)))); try (refine L.nil ?_))
  ((repeat refine S.seq ?_); refine S.region (L.go (T := tt) tt_ok rfl rfl ?sd878 ?_); (try (case sd878 => (repeat' (first | exact trivial | exact zA | with_reducible refine zI ?_ ?_ | exact zB | exact zC | exact zD | exact zE | rfl | exact zN rfl | omega | assumption | (simp; done) | (simp [splice]; done) | (simp; omega) | (unfold fits; omega) | (unfold fits; simp_all; omega) | (simp_all; omega) | (simp_all; done) | intro _)))); try (refine L.nil ?_))
  refine L.call (G := txR b20 p2 (.slice none 0 0) x2) (H := [_, _, _, _, _, _, _, _, _]) rfl rfl rfl rfl rfl rfl rfl ⟨trivial, by (repeat' (first | exact trivial | exact zA | with_reducible refine zI ?_ ?_ | exact zB | exact zC | exact zD | exact zE | rfl | exact zN rfl | omega | assumption | (simp; done) | (simp [splice]; done) | (simp; omega) | (unfold fits; omega) | (unfold fits; simp_all; omega) | (simp_all; omega) | (simp_all; done) | intro _))⟩ rfl (Imps.refl _) (by unfold txR; (repeat (first | exact pick0 | refine pickS (by first | exact p0 | exact pS p0 | exact pS (pS p0) | exact pS (pS (pS p0)) | exact pS (pS (pS (pS p0))) | exact pS (pS (pS (pS (pS p0)))) | exact pS (pS (pS (pS (pS (pS p0)))))) ?_))) (txack_p b20 _ _ x2 1 ⟨#[107]⟩ 3 (by decide) (by decide) (by decide) (by decide) (by decide)) ?_
  rintro r F' ⟨a2, rfl, rfl⟩
  (refine L.go (T := tt) tt_ok rfl rfl ?sd894 ?_; (try (case sd894 => (repeat' (first | exact trivial | exact zA | with_reducible refine zI ?_ ?_ | exact zB | exact zC | exact zD | exact zE | rfl | exact zN rfl | omega | assumption | (simp; done) | (simp [splice]; done) | (simp; omega) | (unfold fits; omega) | (unfold fits; simp_all; omega) | (simp_all; omega) | (simp_all; done) | intro _)))); try (refine L.nil ?_))
  ((repeat refine S.seq ?_); refine S.region (L.go (T := tt) tt_ok rfl rfl ?sd879 ?_); (try (case sd879 => (repeat' (first | exact trivial | exact zA | with_reducible refine zI ?_ ?_ | exact zB | exact zC | exact zD | exact zE | rfl | exact zN rfl | omega | assumption | (simp; done) | (simp [splice]; done) | (simp; omega) | (unfold fits; omega) | (unfold fits; simp_all; omega) | (simp_all; omega) | (simp_all; done) | intro _)))); try (refine L.nil ?_))
  refine L.call (G := txR b20 p2 a2 _) (H := [_, _, _, _, _, _, _, _, _]) rfl rfl rfl rfl rfl rfl rfl ⟨trivial, by (repeat' (first | exact trivial | exact zA | with_reducible refine zI ?_ ?_ | exact zB | exact zC | exact zD | exact zE | rfl | exact zN rfl | omega | assumption | (simp; done) | (simp [splice]; done) | (simp; omega) | (unfold fits; omega) | (unfold fits; simp_all; omega) | (simp_all; omega) | (simp_all; done) | intro _))⟩ rfl (Imps.refl _) (by unfold txR; (repeat (first | exact pick0 | refine pickS (by first | exact p0 | exact pS p0 | exact pS (pS p0) | exact pS (pS (pS p0)) | exact pS (pS (pS (pS p0))) | exact pS (pS (pS (pS (pS p0)))) | exact pS (pS (pS (pS (pS (pS p0)))))) ?_))) (txtake_p b20 _ _ _ (by decide) (by decide) (by decide)) ?_
  rintro r F' ⟨rfl, rfl⟩
  (refine L.go (T := tt) tt_ok rfl rfl ?sd895 ?_; (try (case sd895 => (repeat' (first | exact trivial | exact zA | with_reducible refine zI ?_ ?_ | exact zB | exact zC | exact zD | exact zE | rfl | exact zN rfl | omega | assumption | (simp; done) | (simp [splice]; done) | (simp; omega) | (unfold fits; omega) | (unfold fits; simp_all; omega) | (simp_all; omega) | (simp_all; done) | intro _)))); try (refine L.nil ?_))
  refine freezeSlot 20 21 rfl rfl rfl ?_
  refine freezeSlot 21 22 rfl rfl rfl ?_
  refine nilRow 21 46 5 (gOf Msg.cells []) ?_
  refine nilRow 22 3 1 (gOf intC []) ?_
  refine blkAs 20 (x3.cells (.slice none 0 0) (.slice none 0 0)) rfl ⟨Imp.refl _, Imp.refl _, Imp.refl _, Imp.vref rfl, Imp.vref rfl, trivial⟩ ?_
  ((repeat refine S.seq ?_); refine S.region (L.go (T := tt) tt_ok rfl rfl ?sd880 ?_); (try (case sd880 => (repeat' (first | exact trivial | exact zA | with_reducible refine zI ?_ ?_ | exact zB | exact zC | exact zD | exact zE | rfl | exact zN rfl | omega | assumption | (simp; done) | (simp [splice]; done) | (simp; omega) | (unfold fits; omega) | (unfold fits; simp_all; omega) | (simp_all; omega) | (simp_all; done) | intro _)))); try (refine L.nil ?_))
  refine L.callT (G := txR b20 (.slice none 0 0) (.slice none 0 0) x3) (H := [_, _, _, _, _, _, _, _, _]) rfl rfl rfl (by kernel_rfl) rfl rfl rfl rfl ⟨trivial, by (repeat' (first | exact trivial | exact zA | with_reducible refine zI ?_ ?_ | exact zB | exact zC | exact zD | exact zE | rfl | exact zN rfl | omega | assumption | (simp; done) | (simp [splice]; done) | (simp; omega) | (unfold fits; omega) | (unfold fits; simp_all; omega) | (simp_all; omega) | (simp_all; done) | intro _))⟩ rfl (Imps.refl _) (by unfold txR; (repeat (first | exact pick0 | refine pickS (by first | exact p0 | exact pS p0 | exact pS (pS p0) | exact pS (pS (pS p0)) | exact pS (pS (pS (pS p0))) | exact pS (pS (pS (pS (pS p0)))) | exact pS (pS (pS (pS (pS (pS p0)))))) ?_))) (txlen_p b20 _ _ _ (by decide) (by decide)) ?_
  rintro r F' ⟨rfl, rfl⟩
  (refine L.go (T := tt) tt_ok rfl rfl ?sd896 ?_; (try (case sd896 => (repeat' (first | exact trivial | exact zA | with_reducible refine zI ?_ ?_ | exact zB | exact zC | exact zD | exact zE | rfl | exact zN rfl | omega | assumption | (simp; done) | (simp [splice]; done) | (simp; omega) | (unfold fits; omega) | (unfold fits; simp_all; omega) | (simp_all; omega) | (simp_all; done) | intro _)))); try (refine L.nil ?_))
  refine L.callG rfl rfl rfl rfl rfl rfl rfl (fun _ => ⟨trivial, by (repeat' (first | exact trivial | exact zA | with_reducible refine zI ?_ ?_ | exact zB | exact zC | exact zD | exact zE | rfl | exact zN rfl | omega | assumption | (simp; done) | (simp [splice]; done) | (simp; omega) | (unfold fits; omega) | (unfold fits; simp_all; omega) | (simp_all; omega) | (simp_all; done) | intro _))⟩) rfl (Imps.refl _) (fun _ => (txnone_p (-1) (by decide))) ?_
  (refine L.go (T := tt) tt_ok rfl rfl ?sd897 ?_; (try (case sd897 => (repeat' (first | exact trivial | exact zA | with_reducible refine zI ?_ ?_ | exact zB | exact zC | exact zD | exact zE | rfl | exact zN rfl | omega | assumption | (simp; done) | (simp [splice]; done) | (simp; omega) | (unfold fits; omega) | (unfold fits; simp_all; omega) | (simp_all; omega) | (simp_all; done) | intro _)))); try (refine L.nil ?_))
  (((repeat refine S.seq ?_); refine S.ret ?_); refine E.retP (T := tt) tt_ok rfl rfl (by (repeat' (first | exact trivial | exact zA | with_reducible refine zI ?_ ?_ | exact zB | exact zC | exact zD | exact zE | rfl | exact zN rfl | omega | assumption | (simp; done) | (simp [splice]; done) | (simp; omega) | (unfold fits; omega) | (unfold fits; simp_all; omega) | (simp_all; omega) | (simp_all; done) | intro _))) (Imp.of_eq ?_))
  kernel_rfl

end Go.Proofs.Ytgnklbdbglnmaaa
