/- Texts of this proof, laid together: SymFrz, SymArr, SymSlc, RingA, RingB, DfMsg, DfMark, PartA, PartB, ArcRd. -/
import Derived.Test.YtgnklbdbglnmaaaMgH
import Derived.Test.YtgnklbdbglnmaaaMgI
/- A slice of one's own is given away in a region that draws its order. -/
namespace Go.Proofs.Ytgnklbdbglnmaaa
set_option linter.unusedVariables false
set_option linter.unusedSimpArgs false
set_option maxHeartbeats 8000000
open Go.RowKit

theorem delF_mem {F : Rows} {id : Nat} {s : Nat × Row} (h : s ∈ F) (hn : s.1 ≠ id) : s ∈ delF id F := by
  induction F with
  | nil => cases h
  | cons x t ih =>
    obtain ⟨k, r⟩ := x
    unfold delF
    split
    · rename_i e
      rcases List.mem_cons.1 h with rfl | h
      · exact absurd e hn
      · exact h
    · rcases List.mem_cons.1 h with rfl | h
      · exact List.mem_cons_self
      · exact List.mem_cons_of_mem _ (ih h)

section
variable {P : Program} {c : Ctx} {σ σ1 : Slots} {F F1 : Rows} {rdf : List (Nat × List Nat)} {Q : Exit → Act → World → Prop} {ops : Array Oper} {fuel : Nat} {listed : Array Bool}
theorem H.freeze (d id : Nat) {id' : Nat} {x x' : Value} {E sz n : Nat} {g : Nat → List AV} (hrow : F.lookup id = some (.own x E sz n g)) (hd : σ.lookup d = some (.ref id' x')) (hx : x' = x) (hnr : rdf.all (fun p => !p.2.contains id) = true)
    (next : H P ops c ((d, .lst sz n g) :: σ) (delF id F) rdf fuel listed ((d, .lst sz n g) :: σ) (delF id F) Q) : H P ops c σ1 F1 rdf fuel listed σ F Q := by
  intro w1 a w hI
  have hno : ∀ k, id ∉ rdOf rdf k := by
    intro k hk
    unfold rdOf at hk
    cases hl : rdf.lookup k with
    | none => rw [hl] at hk; cases hk
    | some l =>
      rw [hl] at hk
      have hm : (k, l) ∈ rdf := by
        clear next hI hnr
        induction rdf with
        | nil => cases hl
        | cons y t ih =>
          obtain ⟨j, m⟩ := y
          rw [List.lookup_cons] at hl
          split at hl
          · rename_i e
            cases hl
            rw [beq_iff_eq] at e
            subst e
            exact List.mem_cons_self
          · exact List.mem_cons_of_mem _ (ih hl)
      have := List.all_eq_true.1 hnr _ hm
      simp only [Bool.not_eq_true', Bool.eq_false_iff] at this
      exact this (List.contains_iff_mem.2 (by simpa using hk))
  have hnow : R c ((d, .lst sz n g) :: σ) (delF id F) a w := freezeSlot (K := R c ((d, .lst sz n g) :: σ) (delF id F)) d id hrow hd hx (fun _ _ h => h) a w hI.now
  obtain ⟨L1, L2, e1, e2⟩ := delF_split hrow
  have hown : ∀ b, Own c.off (delF id F) b → Own c.off F b := fun b hb => Own.tail (fun r hr => by rw [e2] at hr; rw [e1]; rcases List.mem_append.1 hr with h | h <;> simp [h]) hb
  have hI' : HI ops c ((d, .lst sz n g) :: σ) (delF id F) rdf listed ((d, .lst sz n g) :: σ) (delF id F) w a w := ⟨hnow, hnow, Ext.refl _ _, hI.closed, fun _ _ s hs _ => hs, fun i _ => ⟨Nat.le_refl _, fun _ _ _ => rfl⟩⟩
  refine wpAnyG_base fuel listed a w (fun k v v' hk h1 h2 h3 => ?_) (fun k _ => ⟨Nat.le_refl _, fun _ _ _ => rfl⟩) (next w a w hI')
  refine ⟨Nat.le_trans hI.ext.size h2.1, fun b hb hr => ?_⟩
  have hbw : b < w.heap.size := Nat.lt_of_lt_of_le hb hI.ext.size
  have hw : ¬ Own c.off (delF id F) b ∨ ∃ s ∈ delF id F, s.1 ∈ rdOf rdf k ∧ s.2.block = some b := by
    rcases hr with hr | ⟨s, g1, g2, g3⟩
    · exact .inl fun h => hI.ext.own b hb hr (hown b h)
    · exact .inr ⟨s, delF_mem (hI.keep k hk s g1 g2) (fun e => hno k (e ▸ g2)), g2, g3⟩
  rw [h2.2 b hbw hw, ← h1.2 b hbw hw]
  exact h3.2 b hb hr

/-- One of three operations may come up. -/
theorem H.o3 {o o' o'' : Oper} {ids ids' ids'' : List Nat} {ι ι' ι'' : Type} {sl : ι → Slots} {ro : ι → Rows} {sl' : ι' → Slots} {ro' : ι' → Rows} {sl'' : ι'' → Slots} {ro'' : ι'' → Rows} (i i' i'' : Nat) {n : Nat} (hi : ops[i]? = some o) (hi' : ops[i']? = some o') (hi'' : ops[i'']? = some o'') (hn : Nat.blt 0 n = true) (hrd : Region.ready .any ops listed = [i, i', i''])
    (h : O P ops c o σ F Q ids ι sl ro) (h' : O P ops c o' σ F Q ids' ι' sl' ro') (h'' : O P ops c o'' σ F Q ids'' ι'' sl'' ro'') (ht : tch ops i = true ∨ ids = []) (ht' : tch ops i' = true ∨ ids' = []) (ht'' : tch ops i'' = true ∨ ids'' = [])
    (hdis : apartOk ops rdf i ids = true) (hdis' : apartOk ops rdf i' ids' = true) (hdis'' : apartOk ops rdf i'' ids'' = true)
    (next : ∀ k, H P ops c (headW o.dst (sl k) (σ1.filter fun p => !(o.dst == some p.1))) F1 rdf (n - 1) (listed.setIfInBounds i true) (sl k) (ro k) Q) (next' : ∀ k, H P ops c (headW o'.dst (sl' k) (σ1.filter fun p => !(o'.dst == some p.1))) F1 rdf (n - 1) (listed.setIfInBounds i' true) (sl' k) (ro' k) Q)
    (next'' : ∀ k, H P ops c (headW o''.dst (sl'' k) (σ1.filter fun p => !(o''.dst == some p.1))) F1 rdf (n - 1) (listed.setIfInBounds i'' true) (sl'' k) (ro'' k) Q) : H P ops c σ1 F1 rdf n listed σ F Q := by
  obtain ⟨m, rfl⟩ : ∃ m, n = m + 1 := ⟨n - 1, by have := of_blt hn; omega⟩
  intro w1 a w hI
  refine ⟨fun h0 => (by rw [hrd] at h0; cases h0), fun j hj => ?_⟩
  have hj' := hj
  rw [hrd] at hj'
  rcases (by simpa using hj' : j = i ∨ j = i' ∨ j = i'') with rfl | rfl | rfl
  · exact H.run hi h ht hdis next hI hj
  · exact H.run hi' h' ht' hdis' next' hI hj
  · exact H.run hi'' h'' ht'' hdis'' next'' hI hj

/-- The same at a slot that is told otherwise. -/
theorem H.tell (d : Nat) {A : AV} (B : AV) (hd : σ.lookup d = some A) (hi : Imp A B) (next : H P ops c ((d, B) :: σ) F rdf fuel listed ((d, B) :: σ) F Q) : H P ops c σ1 F1 rdf fuel listed σ F Q := by
  refine H.rebase ?_
  intro w1 a w hI
  have hb : R c ((d, B) :: σ) F a w1 := slotAs (K := R c ((d, B) :: σ) F) d B hd hi (fun _ _ h => h) a w1 hI.base
  have hn : R c ((d, B) :: σ) F a w := slotAs (K := R c ((d, B) :: σ) F) d B hd hi (fun _ _ h => h) a w hI.now
  exact next w1 a w ⟨hb, hn, hI.ext, hI.closed, hI.keep, hI.st⟩
end

end Go.Proofs.Ytgnklbdbglnmaaa

/- An array in memory: its cells by place. -/
namespace Go.Proofs.Ytgnklbdbglnmaaa
set_option linter.unusedVariables false
set_option linter.unusedSimpArgs false
set_option maxHeartbeats 8000000
open Go.RowKit

def arrV (b n : Nat) : Value := .slice (some ⟨b, 0, none⟩) n n
theorem addr_zero (a : Addr) : a.add 0 = a := by unfold Addr.add; simp
theorem arrRow {c : Ctx} {σ : Slots} {F : Rows} {K : Act → World → Prop} (d id sz n : Nat) {b b' T : Nat} {cs : List AV} (g : Nat → List AV) (h : F.lookup id = some (.blk b T cs)) (hd : σ.lookup d = some (.ptr id b' 0)) (hb : b' = b) (hl : cs.length = n * sz) (hn : n ≤ maxLen)
    (hg : ∀ i, i < n → (g i).length = sz ∧ ∀ j A, (g i)[j]? = some A → cs[i * sz + j]? = some A)
    (next : ∀ a w, R c ((d, .eptr id (arrV b n) sz 0 0) :: σ) (setF id id (.own (arrV b n) T sz n g) F) a w → K a w) : ∀ a w, R c σ F a w → K a w := by
  intro a w hR
  subst hb
  refine next a w ?_
  obtain ⟨L1, L2, h1, h2⟩ := setF_split h
  rw [h2]
  have hsat := hR.sat
  rw [h1] at hsat
  obtain ⟨g1, g2⟩ := hsat.turn (i' := id) (r' := .own (arrV b' n) T sz n g) (w' := w) hR.off (Nat.le_refl _) (fun _ _ _ => rfl) (fun b hb => .inl hb) fun he => by
    obtain ⟨us, hh, hl', hu, hr⟩ := hsat.rows (id, .blk b' T cs) (by simp)
    refine ⟨us, ⟨hl'.trans hl, .inr ⟨b', n, us.toArray, rfl, Nat.zero_le _, hh, Nat.le_refl _, hn, by simpa using hl'.trans hl, ?_⟩⟩, fun i hi => (hg i hi).1, hu, fun i hi j A hA => ?_⟩
    · show us.take (n * sz) = us
      exact List.take_of_length_le (by omega)
    · have hc := (hg i hi).2 j A hA
      have hlt : i * sz + j < us.length := by
        rw [hl']
        exact (List.getElem?_eq_some_iff.1 hc).1
      exact ⟨us[i * sz + j], List.getElem?_eq_getElem hlt, (hr _ A _ hc (List.getElem?_eq_getElem hlt)).ext he⟩
  refine ⟨hR.len, hR.defers, hR.hoff, hR.kept, fun s hs b hb => ?_, g1, fun k A hA => ?_⟩
  · rcases List.mem_append.1 hs with h3 | h3
    · exact hR.fresh s (by rw [h1]; simp [h3]) b hb
    · rcases List.mem_cons.1 h3 with rfl | h3
      · exact hR.fresh (id, .blk _ T cs) (by rw [h1]; simp) b hb
      · exact hR.fresh s (by rw [h1]; simp [h3]) b hb
  · rw [lookup_cons] at hA
    split at hA
    · rename_i e
      cases hA
      have h3 := hR.slots d _ hd
      rw [e]
      generalize a.tmps.getD d undef = v at h3 ⊢
      cases h3
      have h4 := Rep.eptr (own := Own c.off (L1 ++ (id, .own (arrV b' n) T sz n g) :: L2)) (w := w) id (arrV b' n) sz 0 0
      rw [show 0 * sz + 0 = 0 by omega, addr_zero] at h4
      exact h4
    · exact (hR.slots k A hA).ext (by rw [h1]; exact g2)

end Go.Proofs.Ytgnklbdbglnmaaa

/- Slices of one's own: a beginning, an end that is cleared. -/
namespace Go.Proofs.Ytgnklbdbglnmaaa
set_option linter.unusedVariables false
set_option linter.unusedSimpArgs false
set_option maxHeartbeats 8000000
open Go.RowKit

def firstW : Value → Nat → Value
  | .slice a _ c, k => .slice a k c
  | v, _ => v
def restW (sz : Nat) : Value → Nat → Value
  | .slice a n c, k => .slice (if c = k then a else a.map (·.add (k * sz))) (n - k) (c - k)
  | v, _ => v

theorem own_head {w : World} {e sz n k : Nat} {v : Value} {us : List Value} (h : w.ownsRow 0 e sz v n us) (hk : k ≤ n) : w.ownsRow 0 e sz (firstW v k) k (us.take (k * sz)) ∧ (firstW v k).ownBlock = v.ownBlock := by
  obtain ⟨h1, h2⟩ := h
  have hm : k * sz ≤ n * sz := Nat.mul_le_mul_right sz hk
  rcases h2 with ⟨rfl, rfl⟩ | ⟨g, cap, cur, rfl, hb, hh, hn, hc, hs, ht⟩
  · obtain rfl : k = 0 := by omega
    exact ⟨⟨by simp, .inl ⟨rfl, rfl⟩⟩, rfl⟩
  · refine ⟨⟨by rw [List.length_take, h1, Nat.min_eq_left hm], .inr ⟨g, cap, cur, rfl, hb, hh, by omega, hc, hs, ?_⟩⟩, ?_⟩
    · rw [← ht, List.take_take, Nat.min_eq_left hm]
    · rfl

section
variable {P : Program} {T : Types} {c : Ctx} {σ : Slots} {F : Rows} {Q : Exit → Act → World → Prop} {ops : Array Oper} {rest : List Oper} {o : Oper}

theorem opt_zero (a : Option Addr) (k m : Nat) : (if k = 0 then a else a.map (·.add (0 * m))) = a := by
  split
  · rfl
  · cases a with
    | none => rfl
    | some a => simp [addr_zero]

/-- 's[:k]' of one's own. -/
theorem O.sliceHead {t e : TypeId} {i : TI} {x hi : Operand} {id d : Nat} {x0 x0' : Value} {E sz n : Nat} {g : Nat → List AV} {z : Int} {k : IntKind} {p q : Prop} (hT : TOk P T) (ho : o.op = .slice t x none (some hi) none) (hg : o.guard = none) (hd : o.dst = some d) (hdN : Nat.blt d c.N = true)
    (ht : tdOf T t = some (.slice e)) (he : T.lookup e = some i) (hs : evalS σ x = some (.ref id x0, p)) (hrow : F.lookup id = some (.own x0' E sz n g)) (hx : evalS σ hi = some (.v (.int k z), q)) (hC : x0 = x0' ∧ p ∧ q ∧ 0 ≤ z ∧ z ≤ n)
    : O P ops c o σ F Q [id] Unit (fun _ => (d, .ref id (firstW x0 z.toNat)) :: σ) (fun _ => setF id id (.own (firstW x0 z.toNat) E sz z.toNat g) F) := by
  intro a w hR K hK
  refine Op1.plain hg ?_
  obtain ⟨rfl, hp, hq, h0, hn⟩ := hC
  have hA := hR.evals hs hp
  have hA' : a.eval x = x0 := by generalize a.eval x = v at hA; cases hA; rfl
  have hB := hR.evals hx hq
  have hB' : a.eval hi = .int k z := by generalize a.eval hi = v at hB; cases hB; rfl
  obtain ⟨us, hown, hlen, h1, hr⟩ := hR.sat.at hrow
  obtain ⟨ti, hti, htd⟩ := tdOf_some ht
  have hzn : z.toNat ≤ n := by omega
  obtain ⟨o1, o2⟩ := own_head hown hzn
  obtain ⟨A, cap, hv, hnc, hcm⟩ := own_form0 hown
  obtain ⟨k1, k2, k3, k4⟩ := hR.write (i' := id) (r' := .own (firstW x0 z.toNat) E sz z.toNat g) hrow (w' := w) (Nat.le_refl _) rfl rfl rfl (fun _ _ _ => rfl) (fun b hb => .inl (o2.symm.trans hb)) (fun hext => by
      refine ⟨us.take (z.toNat * sz), o1, fun j hj => hlen j (by omega), fun u hu => h1 u (List.mem_of_mem_take hu), fun j hj l A hA => ?_⟩
      obtain ⟨u, hu, hrep⟩ := hr j (by omega) l A hA
      refine ⟨u, ?_, hrep.ext hext⟩
      have hl : l < sz := by rw [← hlen j (by omega)]; exact (List.getElem?_eq_some_iff.1 hA).1
      have hm : j * sz + sz ≤ z.toNat * sz := by
        have := Nat.mul_le_mul_right sz (show j + 1 ≤ z.toNat by omega)
        rwa [Nat.add_mul, Nat.one_mul] at this
      rw [List.getElem?_take, if_pos (by omega)]
      exact hu)
  have hgive : (execOp a.eval o).run P w = .ok (.value (firstW x0 z.toNat)) w := by
    subst hv
    have hzc : z ≤ (cap : Int) := by omega
    simp [execOp, ho, Instr.sliceAt, Instr.slice, Instr.sliceBounds, Instr.sliceBound, asIntOf, run_underlying ((hT.told hti).slice htd), (hT.told he).size, hA', hB', h0, hzc, firstW]
    intro _
    cases A with
    | none => rfl
    | some a => simp [addr_zero]
  simp only [Oper.wp]
  rw [hgive, Oper.upon_value, hd]
  have hone : (firstW x0 z.toNat).oneCell' = true := by subst hv; rfl
  exact hK () _ _ (hR.step (of_blt hdN) k1 k2 k3 k4.ext (.ref _ _ hone)) k4 ⟨_, by rw [hd]⟩

/-- 's[k:]' of one's own, as a value. -/
theorem O.sliceTail {t e : TypeId} {i : TI} {x lo : Operand} {id d : Nat} {x0 x0' : Value} {E sz n : Nat} {g : Nat → List AV} {z : Int} {k : IntKind} {p q : Prop} (hT : TOk P T) (ho : o.op = .slice t x (some lo) none none) (hg : o.guard = none) (hd : o.dst = some d) (hdN : Nat.blt d c.N = true)
    (ht : tdOf T t = some (.slice e)) (he : T.lookup e = some i) (hs : evalS σ x = some (.ref id x0, p)) (hrow : F.lookup id = some (.own x0' E sz n g)) (hx : evalS σ lo = some (.v (.int k z), q)) (hC : x0 = x0' ∧ p ∧ q ∧ 0 ≤ z ∧ z ≤ n)
    : O P ops c o σ F Q [] Unit (fun _ => (d, .v (restW i.size x0 z.toNat)) :: σ) (fun _ => F) := by
  intro a w hR K hK
  refine Op1.plain hg ?_
  obtain ⟨rfl, hp, hq, h0, hn⟩ := hC
  have hA := hR.evals hs hp
  have hA' : a.eval x = x0 := by generalize a.eval x = v at hA; cases hA; rfl
  have hB := hR.evals hx hq
  have hB' : a.eval lo = .int k z := by generalize a.eval lo = v at hB; cases hB; rfl
  obtain ⟨us, hown, hlen, h1, hr⟩ := hR.sat.at hrow
  obtain ⟨ti, hti, htd⟩ := tdOf_some ht
  obtain ⟨A, cap, hv, hnc, hcm⟩ := own_form0 hown
  have hgive : (execOp a.eval o).run P w = .ok (.value (restW i.size x0 z.toNat)) w := by
    subst hv
    simp [execOp, ho, Instr.sliceAt, Instr.slice, Instr.sliceBounds, Instr.sliceBound, asIntOf, run_underlying ((hT.told hti).slice htd), (hT.told he).size, hA', hB', h0, hn, restW]
  simp only [Oper.wp]
  rw [hgive, Oper.upon_value, hd]
  exact hK () _ _ (hR.pure (of_blt hdN) (.v _)) ⟨Ext.refl _ _, fun _ _ _ _ _ => rfl, fun s hs _ => hs⟩ ⟨_, by rw [hd]⟩

/-- 'clear(s[k:])'. -/
theorem O.clearTail {t e : TypeId} {i : TI} {x : Operand} {id k : Nat} {x0 : Value} {sz n : Nat} {g : Nat → List AV} {p : Prop} (hT : TOk P T) (ho : o.op = .call { callee := .builtin .clear, args := #[x], argTypes := #[t] }) (hg : o.guard = none) (hd : o.dst = none)
    (ht : tdOf T t = some (.slice e)) (he : T.lookup e = some i) (hs : evalS σ x = some (.v (restW i.size x0 k), p)) (hrow : F.lookup id = some (.own x0 e sz n g)) (hC : p ∧ sz = i.size ∧ k ≤ n)
    : O P ops c o σ F Q [id] Unit (fun _ => σ) (fun _ => setF id id (.own x0 e sz n (fun j => if j < k then g j else i.zero.map .v)) F) := by
  intro a w hR K hK
  refine Op1.plain hg ?_
  obtain ⟨hp, rfl, hk⟩ := hC
  have hA := hR.evals hs hp
  have hA' : a.eval x = restW i.size x0 k := by generalize a.eval x = v at hA; cases hA; rfl
  obtain ⟨us, hown, hlen, h1, hr⟩ := hR.sat.at hrow
  obtain ⟨ti, hti, htd⟩ := tdOf_some ht
  have told := hT.told he
  obtain ⟨z, hz, hzr⟩ := told.run_zero
  have hzs : z.cells.size = i.size := by rw [← Array.length_toList, hz, told.zsize]
  rcases Nat.lt_or_eq_of_le hk with hlt | rfl
  · rcases hown.2 with ⟨-, h0⟩ | ⟨b, cap, cur, hv, hb, hh, hnc, hcm, hcs, hct⟩
    · omega
    have hown' := hown
    rw [hv] at hown'
    have hkz : k * i.size + (n - k) * i.size = n * i.size := by rw [← Nat.add_mul]; congr 1; omega
    have hul : us.length = n * i.size := hown.1
    have hcells := fun j (hj : j < us.length) => own_cell hown' j hj
    have hclr := run_clear_cells (P := P) w t e o.type z ((hT.told hti).slice htd) hzr (fun u hu => told.zone u (by rw [← hz]; exact Array.mem_toList_iff.2 hu)) b (k * i.size) (n - k) (cap - k) (by omega)
      (fun j hj => by rw [(hcells _ (by rw [hzs] at hj; omega)).1, List.getElem?_eq_getElem (by rw [hzs] at hj; omega)]; rfl) (fun j hj => (hcells _ (by rw [hzs] at hj; omega)).2)
    have hzl : (Builtin.zeroCells z.cells (n - k)).toList.length = (n - k) * i.size := by rw [zeroCells_length, hzs]
    have hblk : Blk w b cur.toList e := by unfold Blk; simpa using hh
    have hcl : cur.toList.length = cap * i.size := by simpa using hcs
    have hcn : n * i.size ≤ cap * i.size := Nat.mul_le_mul_right _ hnc
    have hblk' := hblk.setCells (Builtin.zeroCells z.cells (n - k)).toList (k * i.size) w cur.toList (by rw [hzl, hcl]; omega)
    rw [hzl, hkz] at hblk'
    obtain ⟨s1, s2, s3, s4⟩ := setCells_same (g := b) (Builtin.zeroCells z.cells (n - k)).toList (k * i.size) w
    obtain ⟨k1, k2, k3, k4⟩ := hR.write (i' := id) (r' := .own x0 e i.size n (fun j => if j < k then g j else i.zero.map .v)) hrow (w' := w.setCells b (k * i.size) (Builtin.zeroCells z.cells (n - k)).toList) (by omega) s1 s2 s3
      (fun b' hlt' hne => setCells_heap _ _ _ _ (by
        rintro rfl
        exact hne (by rw [hv]; rfl))) (fun b' hb' => .inl hb') (fun hext => by
        refine ⟨us.take (k * i.size) ++ (Builtin.zeroCells z.cells (n - k)).toList, ⟨by rw [List.length_append, List.length_take, hul, hzl, Nat.min_eq_left (Nat.mul_le_mul_right _ hk)]; exact hkz, .inr ⟨b, cap, (cur.toList.take (k * i.size) ++ (Builtin.zeroCells z.cells (n - k)).toList ++ cur.toList.drop (n * i.size)).toArray, hv, hb, ?_, hnc, hcm, ?_, ?_⟩⟩, fun j hj => ?_, fun u hu => ?_, fun j hj l A hA => ?_⟩
        · have := hblk'
          unfold Blk at this
          exact this
        · simp only [List.size_toArray, List.length_append, List.length_take, List.length_drop, hzl, hcl]
          omega
        · show (cur.toList.take (k * i.size) ++ (Builtin.zeroCells z.cells (n - k)).toList ++ cur.toList.drop (n * i.size)).take (n * i.size) = _
          rw [List.take_left' (by rw [List.length_append, List.length_take, hcl, hzl, Nat.min_eq_left (Nat.le_trans (Nat.mul_le_mul_right _ hk) hcn)]; exact hkz), ← hct, List.take_take, Nat.min_eq_left (Nat.mul_le_mul_right _ hk)]
        · show (if j < k then g j else i.zero.map .v).length = _
          split
          · exact hlen j hj
          · simp [told.zsize]
        · rcases List.mem_append.1 hu with h | h
          · exact h1 u (List.mem_of_mem_take h)
          · unfold Builtin.zeroCells at h
            obtain ⟨y, hy, rfl⟩ := Array.mem_map.1 (Array.mem_toList_iff.1 h)
            have hp : y % z.cells.size < z.cells.size := Nat.mod_lt _ (by rw [hzs]; exact told.pos)
            rw [getElem!_pos z.cells _ hp]
            exact told.zone _ (by rw [← hz]; exact Array.mem_toList_iff.2 (Array.getElem_mem hp))
        · have hjm : j * i.size + i.size ≤ n * i.size := by
            have := Nat.mul_le_mul_right i.size (show j + 1 ≤ n by omega)
            rwa [Nat.add_mul, Nat.one_mul] at this
          replace hA : (if j < k then g j else i.zero.map .v)[l]? = some A := hA
          split at hA
          · rename_i hjk
            obtain ⟨u, hu, hrep⟩ := hr j (by omega) l A hA
            have hl : l < i.size := by rw [← hlen j (by omega)]; exact (List.getElem?_eq_some_iff.1 hA).1
            have hm : j * i.size + i.size ≤ k * i.size := by
              have := Nat.mul_le_mul_right i.size (show j + 1 ≤ k by omega)
              rwa [Nat.add_mul, Nat.one_mul] at this
            refine ⟨u, ?_, hrep.ext hext⟩
            rw [List.getElem?_append_left (by rw [List.length_take, hul, Nat.min_eq_left (Nat.mul_le_mul_right _ hk)]; omega), List.getElem?_take, if_pos (by omega)]
            exact hu
          · rename_i hjk
            rw [List.getElem?_map] at hA
            cases hu : i.zero[l]? with
            | none => rw [hu] at hA; cases hA
            | some u =>
              rw [hu] at hA
              cases hA
              have hl : l < i.size := by rw [← told.zsize]; exact (List.getElem?_eq_some_iff.1 hu).1
              have hge : k * i.size ≤ j * i.size := Nat.mul_le_mul_right _ (by omega)
              refine ⟨u, ?_, .v u⟩
              have e1 : (us.take (k * i.size)).length = k * i.size := by rw [List.length_take, hul, Nat.min_eq_left (Nat.mul_le_mul_right _ hk)]
              rw [List.getElem?_append_right (by rw [e1]; omega)]
              rw [e1]
              have e2 : j * i.size + l - k * i.size = (j - k) * i.size + l := by rw [Nat.sub_mul]; omega
              rw [e2]
              unfold Builtin.zeroCells
              have hlt2 : (j - k) * i.size + l < (n - k) * z.cells.size := by
                rw [hzs]
                have := Nat.mul_le_mul_right i.size (show (j - k) + 1 ≤ n - k by omega)
                rw [Nat.add_mul, Nat.one_mul] at this
                omega
              have hmod : ((j - k) * i.size + l) % z.cells.size = l := by rw [hzs, Nat.mul_comm, Nat.mul_add_mod, Nat.mod_eq_of_lt hl]
              have hget : z.cells[l]! = u := by
                rw [getElem!_pos z.cells l (by omega), ← Array.getElem_toList]
                have := (List.getElem?_eq_some_iff.1 hu).2
                simp only [hz]
                exact this
              simp [hlt2, hmod, hget])
    have hck : ¬ cap = k := by omega
    have hgive : (execOp a.eval o).run P w = .ok (.value (.tuple #[])) (w.setCells b (k * i.size) (Builtin.zeroCells z.cells (n - k)).toList) := by
      have hA2 : a.eval x = .slice (some ⟨b, k * i.size, none⟩) (n - k) (cap - k) := by
        rw [hA', hv]
        simp [restW, hck, addr_add_lit]
      simp [execOp, ho, resolve, invoke, builtin, hA2, hclr]
    simp only [Oper.wp]
    rw [hgive, Oper.upon_value, hd]
    exact hK () _ _ (hR.step_none k1 k2 k3 k4.ext) k4 ⟨.tuple #[], by rw [hd]⟩
  · obtain ⟨A, cap, hv, hnc, hcm⟩ := own_form0 hown
    have hgive : (execOp a.eval o).run P w = .ok (.value (.tuple #[])) w := by
      rw [hv] at hA'
      simp only [restW, Nat.sub_self] at hA'
      have hclr : ∀ B C, (Builtin.clear_ #[t] o.type #[.slice B 0 C]).run P w = .ok (.tuple #[]) w := fun B C => by
        cases B <;> simp [Builtin.clear_, run_underlying ((hT.told hti).slice htd)]
      simp [execOp, ho, resolve, invoke, builtin, hA', hclr]
    obtain ⟨k1, k2, k3, k4⟩ := hR.write (i' := id) (r' := .own x0 e i.size k (fun j => if j < k then g j else i.zero.map .v)) hrow (w' := w) (Nat.le_refl _) rfl rfl rfl (fun _ _ _ => rfl) (fun b hb => .inl hb) (fun hext => by
      refine ⟨us, hown, fun j hj => by show (if j < k then g j else i.zero.map .v).length = _; rw [if_pos hj]; exact hlen j hj, h1, fun j hj l A hA => ?_⟩
      replace hA : (if j < k then g j else i.zero.map .v)[l]? = some A := hA
      rw [if_pos hj] at hA
      obtain ⟨u, hu, hrep⟩ := hr j hj l A hA
      exact ⟨u, hu, hrep.ext hext⟩)
    simp only [Oper.wp]
    rw [hgive, Oper.upon_value, hd]
    exact hK () _ _ (hR.step_none k1 k2 k3 k4.ext) k4 ⟨.tuple #[], by rw [hd]⟩

theorem L.sliceHead {t e : TypeId} {i : TI} {x hi : Operand} {id d : Nat} {x0 x0' : Value} {E sz n : Nat} {g : Nat → List AV} {z : Int} {k : IntKind} {p q : Prop} (hT : TOk P T) (ho : o.op = .slice t x none (some hi) none) (hg : o.guard = none) (hd : o.dst = some d) (hdN : Nat.blt d c.N = true)
    (ht : tdOf T t = some (.slice e)) (he : T.lookup e = some i) (hs : evalS σ x = some (.ref id x0, p)) (hrow : F.lookup id = some (.own x0' E sz n g)) (hx : evalS σ hi = some (.v (.int k z), q)) (hC : x0 = x0' ∧ p ∧ q ∧ 0 ≤ z ∧ z ≤ n)
    (next : L P ops c rest ((d, .ref id (firstW x0 z.toNat)) :: σ) (setF id id (.own (firstW x0 z.toNat) E sz z.toNat g) F) Q) : L P ops c (o :: rest) σ F Q := L.of (O.sliceHead hT ho hg hd hdN ht he hs hrow hx hC) fun _ => next
theorem L.clearTail {t e : TypeId} {i : TI} {x lo y : Operand} {o' : Oper} {id d : Nat} {x0 : Value} {sz n : Nat} {g : Nat → List AV} {z : Int} {k : IntKind} {p q p' : Prop} (hT : TOk P T) (ho : o.op = .slice t x (some lo) none none) (hg : o.guard = none) (hd : o.dst = some d) (hdN : Nat.blt d c.N = true)
    (ht : tdOf T t = some (.slice e)) (he : T.lookup e = some i) (hs : evalS σ x = some (.ref id x0, p)) (hrow : F.lookup id = some (.own x0 e sz n g)) (hx : evalS σ lo = some (.v (.int k z), q)) (hC : p ∧ q ∧ 0 ≤ z ∧ z ≤ n)
    (ho' : o'.op = .call { callee := .builtin .clear, args := #[y], argTypes := #[t] }) (hg' : o'.guard = none) (hd' : o'.dst = none) (hs' : evalS ((d, .v (restW i.size x0 z.toNat)) :: σ) y = some (.v (restW i.size x0 z.toNat), p')) (hC' : p' ∧ sz = i.size)
    (next : L P ops c rest ((d, .v (restW i.size x0 z.toNat)) :: σ) (setF id id (.own x0 e sz n (fun j => if j < z.toNat then g j else i.zero.map .v)) F) Q) : L P ops c (o :: o' :: rest) σ F Q :=
  L.of (O.sliceTail hT ho hg hd hdN ht he hs hrow hx ⟨rfl, hC⟩) fun _ => L.of (O.clearTail hT ho' hg' hd' ht he hs' hrow ⟨hC'.1, hC'.2, by omega⟩) fun _ => next
end

end Go.Proofs.Ytgnklbdbglnmaaa

/- Arcs of a ring, points. -/
namespace Go.Proofs.Ytgnklbdbglnmaaa
set_option linter.unusedVariables false
set_option linter.unusedSimpArgs false
set_option maxHeartbeats 8000000
open Go.RowKit
set_option maxRecDepth 4000

structure Arc where
  at0 : Int
  shard : Int
instance : Inhabited Arc := ⟨⟨0, 0⟩⟩
def Arc.cells (a : Arc) : List AV := [.v (.int .u32 a.at0), .v (.int .i64 a.shard)]
def arcs (l : List Arc) : AV := .lst 2 l.length (gOf Arc.cells l)
def badA (l : List Arc) (i : Nat) : Bool := (decide ((l.getD i default).shard < 0) || decide ((l.getD i default).shard ≥ 16)) || (decide ((i : Int) > 0) && decide ((l.getD (i - 1) default).at0 ≥ (l.getD i default).at0))
def fitA (l : List Arc) (k : Nat) : Bool := (List.range k).all fun i => !badA l i
def mayA (l : List Arc) : Bool := !(decide ((l.length : Int) < 1) || decide ((l.length : Int) > 1024)) && fitA l l.length
theorem fitA_succ {l : List Arc} {k : Nat} (h : fitA l k = true) (h1 : badA l k = false) : fitA l (k + 1) = true := by
  unfold fitA at h ⊢
  rw [List.range_succ, List.all_append, h]
  simp [h1]
theorem fitA_bad {l : List Arc} {k : Nat} (hk : k < l.length) (h1 : badA l k = true) : fitA l l.length = false := by
  unfold fitA
  rw [Bool.eq_false_iff]
  intro h
  have := List.all_eq_true.1 h k (List.mem_range.2 hk)
  rw [h1] at this
  cases this
theorem subn (k : Nat) : ((k : Int) - 1).toNat = k - 1 := by omega

/-- Of a text. -/
def x32 (a b : Int) : Int := IntKind.u32.wrap (BitVec.ofInt IntKind.u32.bits a ^^^ BitVec.ofInt IntKind.u32.bits b).toNat
def ofTo (s : ByteArray) : Nat → Int
  | 0 => 2166136261
  | k + 1 => IntKind.u32.wrap (x32 (ofTo s k) (IntKind.u32.wrap (byteAt s k)) * 16777619)
def ofEnd (h : Int) : Int := IntKind.u32.wrap (x32 h (h.fdiv (2 ^ min (15 : Int).toNat IntKind.u32.bits)) * 2246822519)
def ofP (s : ByteArray) : Int := x32 (ofEnd (ofTo s s.size)) ((ofEnd (ofTo s s.size)).fdiv (2 ^ min (13 : Int).toNat IntKind.u32.bits))

/-- The last arc at or ahead of a point. -/
def plcTo (l : List Arc) (p : Int) : Nat → Nat
  | 0 => l.length - 1
  | k + 1 => if (l.getD k default).at0 ≤ p then k else plcTo l p k
def placeA (l : List Arc) (p : Int) : Nat := plcTo l p l.length
def ownerA (l : List Arc) (p : Int) : Int := if mayA l then (l.getD (placeA l p) default).shard else -1
theorem plcTo_lt {l : List Arc} (p : Int) (h : 0 < l.length) : ∀ k, k ≤ l.length → plcTo l p k < l.length
  | 0, _ => by unfold plcTo; omega
  | k + 1, hk => by
    unfold plcTo
    split
    · omega
    · exact plcTo_lt p h k (by omega)
theorem plcTo_lo {l : List Arc} {p : Int} {lo : Nat} (h1 : ∀ i, i < lo → (l.getD i default).at0 ≤ p) (h2 : ∀ i, lo ≤ i → i < l.length → ¬ (l.getD i default).at0 ≤ p) : ∀ k, k ≤ l.length → lo ≤ k → plcTo l p k = if lo = 0 then l.length - 1 else lo - 1
  | 0, _, h => by
    have : lo = 0 := by omega
    rw [if_pos this]; rfl
  | k + 1, hk, h => by
    unfold plcTo
    by_cases e : lo = k + 1
    · rw [if_pos (h1 k (by omega)), if_neg (by omega)]; omega
    · rw [if_neg (h2 k (by omega) (by omega)), plcTo_lo h1 h2 k (by omega) (by omega)]
structure MayA (l : List Arc) : Prop where
  one : 1 ≤ l.length
  most : l.length ≤ 1024
  shard : ∀ i, i < l.length → 0 ≤ (l.getD i default).shard ∧ (l.getD i default).shard < 16
  up : ∀ i j, i < j → j < l.length → (l.getD i default).at0 < (l.getD j default).at0
theorem mayA_of {l : List Arc} (h : mayA l = true) : MayA l := by
  unfold mayA at h
  simp only [Bool.and_eq_true, Bool.not_eq_true', Bool.or_eq_false_iff, decide_eq_false_iff_not] at h
  have hb : ∀ i, i < l.length → badA l i = false := fun i hi => by
    have := List.all_eq_true.1 h.2 i (List.mem_range.2 hi)
    simpa using this
  have key : ∀ i, i < l.length → (0 ≤ (l.getD i default).shard ∧ (l.getD i default).shard < 16) ∧ (0 < i → (l.getD (i - 1) default).at0 < (l.getD i default).at0) := fun i hi => by
    have := hb i hi
    simp only [badA, Bool.or_eq_false_iff, Bool.and_eq_false_iff, decide_eq_false_iff_not] at this
    refine ⟨by omega, fun h0 => ?_⟩
    omega
  refine ⟨by omega, by omega, fun i hi => (key i hi).1, fun i j hij => ?_⟩
  induction j with
  | zero => omega
  | succ j ih =>
    intro hj
    have h1 := (key (j + 1) hj).2 (by omega)
    rw [Nat.add_sub_cancel] at h1
    by_cases e : i = j
    · rw [e]; exact h1
    · have := ih (by omega) (by omega)
      omega

theorem ringmay_p (l : List Arc) : PFn Try.prog 36 [arcs l] (.v (.bool (mayA l))) := by
  refine FnC.intro Try.func36 rfl Try.ntmps36 rfl ?_; intro off w0
  ((repeat refine S.seq ?_); refine S.region (L.go (T := tt) tt_ok rfl rfl ?sd1 ?_); (try (case sd1 => (repeat' ((first | first | exact trivial | exact zA | with_reducible refine zI ?_ ?_ | exact zB | exact zC | exact zD | exact zE | rfl | exact zN rfl | omega | assumption | (simp; done) | (simp [splice]; done) | (simp; omega) | (unfold fits; omega) | (unfold fits; simp_all; omega) | (simp_all; omega) | (simp_all; done) | intro _ | exact zI ?_ ?_ | intro _))))); try (refine L.nil ?_))
  ((repeat refine S.seq ?_); refine S.region (L.go (T := tt) tt_ok rfl rfl ?sd2 ?_); (try (case sd2 => (repeat' ((first | first | exact trivial | exact zA | with_reducible refine zI ?_ ?_ | exact zB | exact zC | exact zD | exact zE | rfl | exact zN rfl | omega | assumption | (simp; done) | (simp [splice]; done) | (simp; omega) | (unfold fits; omega) | (unfold fits; simp_all; omega) | (simp_all; omega) | (simp_all; done) | intro _ | exact zI ?_ ?_ | intro _))))); try (refine L.nil ?_))
  ((repeat refine S.seq ?_); refine S.cond rfl (fun h1 => ?_) (fun h1 => ?_) <;> (try first | refine S.skip ?_ | refine S.exit ?_))
  · skip
    ((repeat refine S.seq ?_); refine S.region (L.go (T := tt) tt_ok rfl rfl ?sd3 ?_); (try (case sd3 => (repeat' ((first | first | exact trivial | exact zA | with_reducible refine zI ?_ ?_ | exact zB | exact zC | exact zD | exact zE | rfl | exact zN rfl | omega | assumption | (simp; done) | (simp [splice]; done) | (simp; omega) | (unfold fits; omega) | (unfold fits; simp_all; omega) | (simp_all; omega) | (simp_all; done) | intro _ | exact zI ?_ ?_ | intro _))))); try (refine L.nil ?_))
    (((repeat refine S.seq ?_); refine S.ret ?_); refine E.retP (T := tt) tt_ok rfl rfl (by (repeat' ((first | first | exact trivial | exact zA | with_reducible refine zI ?_ ?_ | exact zB | exact zC | exact zD | exact zE | rfl | exact zN rfl | omega | assumption | (simp; done) | (simp [splice]; done) | (simp; omega) | (unfold fits; omega) | (unfold fits; simp_all; omega) | (simp_all; omega) | (simp_all; done) | intro _ | exact zI ?_ ?_ | intro _)))) (Imp.of_eq ?_))
    rw [mayA]
    rw [show (decide ((l.length : Int) < 1) || decide ((l.length : Int) > 1024)) = true from h1]
    rfl
  have h1n : (decide ((l.length : Int) < 1) || decide ((l.length : Int) > 1024)) = false := h1
  have h1o := h1n
  simp only [Bool.or_eq_false_iff, decide_eq_false_iff_not] at h1o
  ((repeat refine S.seq ?_); refine S.region (L.go (T := tt) tt_ok rfl rfl ?sd4 ?_); (try (case sd4 => (repeat' ((first | first | exact trivial | exact zA | with_reducible refine zI ?_ ?_ | exact zB | exact zC | exact zD | exact zE | rfl | exact zN rfl | omega | assumption | (simp; done) | (simp [splice]; done) | (simp; omega) | (unfold fits; omega) | (unfold fits; simp_all; omega) | (simp_all; omega) | (simp_all; done) | intro _ | exact zI ?_ ?_ | intro _))))); try (refine L.nil ?_))
  repeat refine S.seq ?_
  refine S.block (S.loop (ι := { k : Nat // k ≤ l.length ∧ fitA l k = true }) (fun k => [(0, arcs l), (13, arcs l), (14, .v (.int .i64 (l.length : Int))), (15, .v (.int .i64 k.1))])
    (fun k => []) (fun k => l.length - k.1) ?_ ?_)
  · refine fun a w h => ⟨⟨0, Nat.zero_le _, ?_⟩, h.weak (by (repeat' (first | exact True.intro | exact Imp.refl _ | refine ⟨?_, ?_⟩))) (by (repeat (first | exact List.nil_sublist _ | refine List.Sublist.cons_cons _ ?_ | refine List.Sublist.cons _ ?_)))⟩
    rfl
  rintro ⟨k, hk, ik⟩
  dsimp only at hk ik ⊢
  ((repeat refine S.seq ?_); refine S.region (L.go (T := tt) tt_ok rfl rfl ?sd5 ?_); (try (case sd5 => (repeat' ((first | first | exact trivial | exact zA | with_reducible refine zI ?_ ?_ | exact zB | exact zC | exact zD | exact zE | rfl | exact zN rfl | omega | assumption | (simp; done) | (simp [splice]; done) | (simp; omega) | (unfold fits; omega) | (unfold fits; simp_all; omega) | (simp_all; omega) | (simp_all; done) | intro _ | exact zI ?_ ?_ | intro _))))); try (refine L.nil ?_))
  ((repeat refine S.seq ?_); refine S.cond rfl (fun h2 => ?_) (fun h2 => ?_) <;> (try first | refine S.skip ?_ | refine S.exit ?_))
  · have h2 := of_dec h2
    have h2n : k < l.length := by omega
    repeat refine S.seq ?_
    refine S.block ?_
    ((repeat refine S.seq ?_); refine S.region (L.go (T := tt) tt_ok rfl rfl ?sd6 ?_); (try (case sd6 => (repeat' ((first | first | exact trivial | exact zA | with_reducible refine zI ?_ ?_ | exact zB | exact zC | exact zD | exact zE | rfl | exact zN rfl | omega | assumption | (simp; done) | (simp [splice]; done) | (simp; omega) | (unfold fits; omega) | (unfold fits; simp_all; omega) | (simp_all; omega) | (simp_all; done) | intro _ | exact zI ?_ ?_ | intro _))))); try (refine L.nil ?_))
    refine L.alloc (T := tt) 4 tt_ok rfl rfl rfl rfl rfl fun b4 => ?_
    (refine L.go (T := tt) tt_ok rfl rfl ?sd31 ?_; (try (case sd31 => (repeat' ((first | first | exact trivial | exact zA | with_reducible refine zI ?_ ?_ | exact zB | exact zC | exact zD | exact zE | rfl | exact zN rfl | omega | assumption | (simp; done) | (simp [splice]; done) | (simp; omega) | (unfold fits; omega) | (unfold fits; simp_all; omega) | (simp_all; omega) | (simp_all; done) | intro _ | exact zI ?_ ?_ | intro _))))); try (refine L.nil ?_))
    (refine L.store (T := tt) tt_ok rfl rfl rfl rfl rfl rfl ?sd34 ?_; (try (case sd34 => (repeat' ((first | first | exact trivial | exact zA | with_reducible refine zI ?_ ?_ | exact zB | exact zC | exact zD | exact zE | rfl | exact zN rfl | omega | assumption | (simp; done) | (simp [splice]; done) | (simp; omega) | (unfold fits; omega) | (unfold fits; simp_all; omega) | (simp_all; omega) | (simp_all; done) | intro _ | exact zI ?_ ?_ | intro _))))))
    refine L.nil ?_
    repeat refine S.seq ?_
    refine S.draw [(1, [4]), (5, [4]), (19, [4])] mixed ?_
    (refine H.ts (T := tt) [0, 1, 2, 3, 4, 5, 6, 7, 8, 9, 10, 11, 12, 13, 14, 15, 16, 17, 18, 19, 20, 21, 22] tt_ok (by kernel_rfl) (by kernel_rfl) (by kernel_rfl) (by intro ch a a' w h; obtain ⟨_, _, _, _, _, h, _⟩ := h; cases h) rfl ?sd35 ?_; (try (case sd35 => (repeat' ((first | first | exact trivial | exact zA | with_reducible refine zI ?_ ?_ | exact zB | exact zC | exact zD | exact zE | rfl | exact zN rfl | omega | assumption | (simp; done) | (simp [splice]; done) | (simp; omega) | (unfold fits; omega) | (unfold fits; simp_all; omega) | (simp_all; omega) | (simp_all; done) | intro _ | exact zI ?_ ?_ | intro _))))))
    refine H.done (by kernel_rfl) ?_
    ((repeat refine S.seq ?_); refine S.cond rfl (fun h3 => ?_) (fun h3 => ?_) <;> (try first | refine S.skip ?_ | refine S.exit ?_))
    · skip
      ((repeat refine S.seq ?_); refine S.region (L.go (T := tt) tt_ok rfl rfl ?sd7 ?_); (try (case sd7 => (repeat' ((first | first | exact trivial | exact zA | with_reducible refine zI ?_ ?_ | exact zB | exact zC | exact zD | exact zE | rfl | exact zN rfl | omega | assumption | (simp; done) | (simp [splice]; done) | (simp; omega) | (unfold fits; omega) | (unfold fits; simp_all; omega) | (simp_all; omega) | (simp_all; done) | intro _ | exact zI ?_ ?_ | intro _))))); try (refine L.nil ?_))
      (((repeat refine S.seq ?_); refine S.ret ?_); refine E.retP (T := tt) tt_ok rfl rfl (by (repeat' ((first | first | exact trivial | exact zA | with_reducible refine zI ?_ ?_ | exact zB | exact zC | exact zD | exact zE | rfl | exact zN rfl | omega | assumption | (simp; done) | (simp [splice]; done) | (simp; omega) | (unfold fits; omega) | (unfold fits; simp_all; omega) | (simp_all; omega) | (simp_all; done) | intro _ | exact zI ?_ ?_ | intro _)))) (Imp.of_eq ?_))
      have hb : badA l k = true := by
        rw [← h3]
        unfold badA
        rw [← subn]
        rfl
      rw [mayA, fitA_bad h2n hb, Bool.and_false]
      rfl
    have hb : badA l k = false := by
      rw [← h3]
      unfold badA
      rw [← subn]
      rfl
    ((repeat refine S.seq ?_); refine S.region (L.go (T := tt) tt_ok rfl rfl ?sd8 ?_); (try (case sd8 => (repeat' ((first | first | exact trivial | exact zA | with_reducible refine zI ?_ ?_ | exact zB | exact zC | exact zD | exact zE | rfl | exact zN rfl | omega | assumption | (simp; done) | (simp [splice]; done) | (simp; omega) | (unfold fits; omega) | (unfold fits; simp_all; omega) | (simp_all; omega) | (simp_all; done) | intro _ | exact zI ?_ ?_ | intro _))))); try (refine L.nil ?_))
    refine fun a w hR => ⟨⟨k + 1, by omega, ?_⟩, by simp only; omega, hR.weak (by (repeat' (first | exact True.intro | exact Imp.refl _ | refine ⟨?_, ?_⟩))) (by (repeat (first | exact List.nil_sublist _ | refine List.Sublist.cons_cons _ ?_ | refine List.Sublist.cons _ ?_)))⟩
    exact fitA_succ ik hb
  · have h2 := of_dec' h2
    have hk0 : k = l.length := by omega
    subst hk0
    ((repeat refine S.seq ?_); refine S.region (L.go (T := tt) tt_ok rfl rfl ?sd9 ?_); (try (case sd9 => (repeat' ((first | first | exact trivial | exact zA | with_reducible refine zI ?_ ?_ | exact zB | exact zC | exact zD | exact zE | rfl | exact zN rfl | omega | assumption | (simp; done) | (simp [splice]; done) | (simp; omega) | (unfold fits; omega) | (unfold fits; simp_all; omega) | (simp_all; omega) | (simp_all; done) | intro _ | exact zI ?_ ?_ | intro _))))); try (refine L.nil ?_))
    (((repeat refine S.seq ?_); refine S.ret ?_); refine E.retP (T := tt) tt_ok rfl rfl (by (repeat' ((first | first | exact trivial | exact zA | with_reducible refine zI ?_ ?_ | exact zB | exact zC | exact zD | exact zE | rfl | exact zN rfl | omega | assumption | (simp; done) | (simp [splice]; done) | (simp; omega) | (unfold fits; omega) | (unfold fits; simp_all; omega) | (simp_all; omega) | (simp_all; done) | intro _ | exact zI ?_ ?_ | intro _)))) (Imp.of_eq ?_))
    rw [mayA, h1n, ik]
    rfl

theorem place_p (l : List Arc) (p : Int) (m : MayA l) : PFn Try.prog 72 [arcs l, .v (.int .u32 p)] (.v (.int .i64 (placeA l p))) := by
  refine FnC.intro Try.func72 rfl Try.ntmps72 rfl ?_; intro off w0
  ((repeat refine S.seq ?_); refine S.region (L.go (T := tt) tt_ok rfl rfl ?sd10 ?_); (try (case sd10 => (repeat' ((first | first | exact trivial | exact zA | with_reducible refine zI ?_ ?_ | exact zB | exact zC | exact zD | exact zE | rfl | exact zN rfl | omega | assumption | (simp; done) | (simp [splice]; done) | (simp; omega) | (unfold fits; omega) | (unfold fits; simp_all; omega) | (simp_all; omega) | (simp_all; done) | intro _ | exact zI ?_ ?_ | intro _))))); try (refine L.nil ?_))
  repeat refine S.seq ?_
  refine S.scopeE 0 (ι := { k : Nat × Nat // k.1 ≤ k.2 ∧ k.2 ≤ l.length ∧ (∀ i, i < k.1 → (l.getD i default).at0 ≤ p) ∧ ∀ i, k.2 ≤ i → i < l.length → ¬ (l.getD i default).at0 ≤ p }) (fun k => [(0, arcs l), (1, .v (.int .u32 p)), (5, .v (.int .i64 k.1.1)), (6, .v (.int .i64 k.1.2))])
    (fun k => []) (fun k => k.1.2 - k.1.1) rfl ?_ ?_
  · rintro ⟨⟨lo, hi⟩, hk, hk2, i1, i2⟩ J hJ
    dsimp only at hk hk2 i1 i2 hJ ⊢
    have m1 := m.one
    have m2 := m.most
    ((repeat refine S.seq ?_); refine S.region (L.go (T := tt) tt_ok rfl rfl ?sd11 ?_); (try (case sd11 => (repeat' ((first | first | exact trivial | exact zA | with_reducible refine zI ?_ ?_ | exact zB | exact zC | exact zD | exact zE | rfl | exact zN rfl | omega | assumption | (simp; done) | (simp [splice]; done) | (simp; omega) | (unfold fits; omega) | (unfold fits; simp_all; omega) | (simp_all; omega) | (simp_all; done) | intro _ | exact zI ?_ ?_ | intro _))))); try (refine L.nil ?_))
    ((repeat refine S.seq ?_); refine S.cond rfl (fun h1 => ?_) (fun h1 => ?_) <;> (try first | refine S.skip ?_ | refine S.exit ?_))
    · have h1n : lo < hi := by
        simp only [decide_eq_true_eq] at h1
        omega
      have htd : ((lo : Int) + (hi : Int)).tdiv 2 = (((lo + hi) / 2 : Nat) : Int) := by
        rw [Int.tdiv_eq_ediv_of_nonneg (by omega)]; rfl
      have hft : fits (((lo : Int) + (hi : Int)).tdiv 2) := by rw [htd]; unfold fits; omega
      ((repeat refine S.seq ?_); refine S.region (L.go (T := tt) tt_ok rfl rfl ?sd12 ?_); (try (case sd12 => (repeat' ((first | first | exact trivial | exact zA | with_reducible refine zI ?_ ?_ | exact zB | exact zC | exact zD | exact zE | rfl | exact zN rfl | omega | assumption | (simp; done) | (simp [splice]; done) | (simp; omega) | (unfold fits; omega) | (unfold fits; simp_all; omega) | (simp_all; omega) | (simp_all; done) | intro _ | exact zI ?_ ?_ | intro _))))); try (refine L.nil ?_))
      refine slotAs 7 (.v (.int .i64 (((lo + hi) / 2 : Nat) : Int))) rfl (Imp.of_eq (by rw [htd])) ?_
      obtain ⟨q, hq⟩ : ∃ q, q = (lo + hi) / 2 := ⟨_, rfl⟩
      rw [← hq]
      ((repeat refine S.seq ?_); refine S.region (L.go (T := tt) tt_ok rfl rfl ?sd13 ?_); (try (case sd13 => (repeat' ((first | first | exact trivial | exact zA | with_reducible refine zI ?_ ?_ | exact zB | exact zC | exact zD | exact zE | rfl | exact zN rfl | omega | assumption | (simp; done) | (simp [splice]; done) | (simp; omega) | (unfold fits; omega) | (unfold fits; simp_all; omega) | (simp_all; omega) | (simp_all; done) | intro _ | exact zI ?_ ?_ | intro _))))); try (refine L.nil ?_))
      refine S.cut (ι := { k : Nat × Nat // (k.1 ≤ k.2 ∧ k.2 ≤ l.length ∧ (∀ i, i < k.1 → (l.getD i default).at0 ≤ p) ∧ ∀ i, k.2 ≤ i → i < l.length → ¬ (l.getD i default).at0 ≤ p) ∧ k.2 - k.1 < hi - lo }) (fun k => [(0, arcs l), (1, .v (.int .u32 p)), (5, .v (.int .i64 k.1.1)), (6, .v (.int .i64 k.1.2))]) (fun _ => []) ?_ ?_
      · ((repeat refine S.seq ?_); refine S.cond rfl (fun h2 => ?_) (fun h2 => ?_) <;> (try first | refine S.skip ?_ | refine S.exit ?_))
        · have h2n : (l.getD q default).at0 ≤ p := of_dec h2
          ((repeat refine S.seq ?_); refine S.region (L.go (T := tt) tt_ok rfl rfl ?sd14 ?_); (try (case sd14 => (repeat' ((first | first | exact trivial | exact zA | with_reducible refine zI ?_ ?_ | exact zB | exact zC | exact zD | exact zE | rfl | exact zN rfl | omega | assumption | (simp; done) | (simp [splice]; done) | (simp; omega) | (unfold fits; omega) | (unfold fits; simp_all; omega) | (simp_all; omega) | (simp_all; done) | intro _ | exact zI ?_ ?_ | intro _))))); try (refine L.nil ?_))
          exact fun a w hR => ⟨⟨(q + 1, hi), ⟨by omega, hk2, fun i hi' => by
            rcases Nat.lt_or_eq_of_le (Nat.le_of_lt_succ hi') with e | e
            · have := m.up i q e (by omega)
              omega
            · rw [e]; exact h2n, i2⟩, by dsimp only; omega⟩, hR.weak (by (repeat' (first | exact True.intro | exact Imp.refl _ | refine ⟨?_, ?_⟩))) (by (repeat (first | exact List.nil_sublist _ | refine List.Sublist.cons_cons _ ?_ | refine List.Sublist.cons _ ?_)))⟩
        · have h2n : ¬ (l.getD q default).at0 ≤ p := of_dec' h2
          ((repeat refine S.seq ?_); refine S.region (L.go (T := tt) tt_ok rfl rfl ?sd15 ?_); (try (case sd15 => (repeat' ((first | first | exact trivial | exact zA | with_reducible refine zI ?_ ?_ | exact zB | exact zC | exact zD | exact zE | rfl | exact zN rfl | omega | assumption | (simp; done) | (simp [splice]; done) | (simp; omega) | (unfold fits; omega) | (unfold fits; simp_all; omega) | (simp_all; omega) | (simp_all; done) | intro _ | exact zI ?_ ?_ | intro _))))); try (refine L.nil ?_))
          exact fun a w hR => ⟨⟨(lo, q), ⟨by omega, by omega, i1, fun i hi' hl => by
            rcases Nat.lt_or_eq_of_le hi' with e | e
            · have := m.up q i e hl
              omega
            · rw [← e]; exact h2n⟩, by dsimp only; omega⟩, hR.weak (by (repeat' (first | exact True.intro | exact Imp.refl _ | refine ⟨?_, ?_⟩))) (by (repeat (first | exact List.nil_sublist _ | refine List.Sublist.cons_cons _ ?_ | refine List.Sublist.cons _ ?_)))⟩
      rintro ⟨⟨x, y⟩, hxy, hlt⟩
      dsimp only at hxy hlt ⊢
      repeat refine S.seq ?_
      refine S.goto ?_
      exact fun a w hR => ⟨rfl, hJ a w ⟨(x, y), hxy⟩ hlt (hR.weak (by (repeat' (first | exact True.intro | exact Imp.refl _ | refine ⟨?_, ?_⟩))) (by (repeat (first | exact List.nil_sublist _ | refine List.Sublist.cons_cons _ ?_ | refine List.Sublist.cons _ ?_))))⟩
    have hlh : lo = hi := by
      simp only [decide_eq_false_iff_not] at h1
      omega
    subst hlh
    ((repeat refine S.seq ?_); refine S.region (L.go (T := tt) tt_ok rfl rfl ?sd16 ?_); (try (case sd16 => (repeat' ((first | first | exact trivial | exact zA | with_reducible refine zI ?_ ?_ | exact zB | exact zC | exact zD | exact zE | rfl | exact zN rfl | omega | assumption | (simp; done) | (simp [splice]; done) | (simp; omega) | (unfold fits; omega) | (unfold fits; simp_all; omega) | (simp_all; omega) | (simp_all; done) | intro _ | exact zI ?_ ?_ | intro _))))); try (refine L.nil ?_))
    (((repeat refine S.seq ?_); refine S.ret ?_); refine E.retP (T := tt) tt_ok rfl rfl (by (repeat' ((first | first | exact trivial | exact zA | with_reducible refine zI ?_ ?_ | exact zB | exact zC | exact zD | exact zE | rfl | exact zN rfl | omega | assumption | (simp; done) | (simp [splice]; done) | (simp; omega) | (unfold fits; omega) | (unfold fits; simp_all; omega) | (simp_all; omega) | (simp_all; done) | intro _ | exact zI ?_ ?_ | intro _)))) (Imp.of_eq ?_))
    have hpl := plcTo_lo i1 i2 l.length (Nat.le_refl _) (by omega)
    have hplace : ((lo : Int) + l.length - 1).tmod l.length = ((placeA l p : Nat) : Int) := by
      rw [placeA, hpl, Int.tmod_eq_emod_of_nonneg (by omega)]
      split
      · rename_i e
        subst e
        rw [Int.emod_eq_of_lt (by omega) (by omega)]
        omega
      · rw [show (lo : Int) + l.length - 1 = (lo : Int) - 1 + l.length by omega, Int.add_emod_right, Int.emod_eq_of_lt (by omega) (by omega)]
        omega
    rw [hplace]
    rfl
  · intro hp
    ((repeat refine S.seq ?_); refine S.region (L.go (T := tt) tt_ok rfl rfl ?sd17 ?_); (try (case sd17 => (repeat' ((first | first | exact trivial | exact zA | with_reducible refine zI ?_ ?_ | exact zB | exact zC | exact zD | exact zE | rfl | exact zN rfl | omega | assumption | (simp; done) | (simp [splice]; done) | (simp; omega) | (unfold fits; omega) | (unfold fits; simp_all; omega) | (simp_all; omega) | (simp_all; done) | intro _ | exact zI ?_ ?_ | intro _))))); try (refine L.nil ?_))
    repeat refine S.seq ?_
    refine S.label ?_
    exact fun a w hR => hp ⟨(0, l.length), Nat.zero_le _, Nat.le_refl _, fun i hi => absurd hi (Nat.not_lt_zero i), fun i h1 h2 => absurd h1 (Nat.not_le.2 h2)⟩ a w (hR.weak (by (repeat' (first | exact True.intro | exact Imp.refl _ | refine ⟨?_, ?_⟩))) (by (repeat (first | exact List.nil_sublist _ | refine List.Sublist.cons_cons _ ?_ | refine List.Sublist.cons _ ?_))))

theorem owner_p (l : List Arc) (p : Int) : PFn Try.prog 38 [arcs l, .v (.int .u32 p)] (.v (.int .i64 (ownerA l p))) := by
  refine FnC.intro Try.func38 rfl Try.ntmps38 rfl ?_; intro off w0
  ((repeat refine S.seq ?_); refine S.region (L.go (T := tt) tt_ok rfl rfl ?sd18 ?_); (try (case sd18 => (repeat' ((first | first | exact trivial | exact zA | with_reducible refine zI ?_ ?_ | exact zB | exact zC | exact zD | exact zE | rfl | exact zN rfl | omega | assumption | (simp; done) | (simp [splice]; done) | (simp; omega) | (unfold fits; omega) | (unfold fits; simp_all; omega) | (simp_all; omega) | (simp_all; done) | intro _ | exact zI ?_ ?_ | intro _))))); try (refine L.nil ?_))
  ((repeat refine S.seq ?_); refine S.region (L.go (T := tt) tt_ok rfl rfl ?sd19 ?_); (try (case sd19 => (repeat' ((first | first | exact trivial | exact zA | with_reducible refine zI ?_ ?_ | exact zB | exact zC | exact zD | exact zE | rfl | exact zN rfl | omega | assumption | (simp; done) | (simp [splice]; done) | (simp; omega) | (unfold fits; omega) | (unfold fits; simp_all; omega) | (simp_all; omega) | (simp_all; done) | intro _ | exact zI ?_ ?_ | intro _))))); try (refine L.nil ?_))
  refine L.callP rfl rfl rfl rfl rfl rfl rfl ⟨trivial, by (repeat' ((first | first | exact trivial | exact zA | with_reducible refine zI ?_ ?_ | exact zB | exact zC | exact zD | exact zE | rfl | exact zN rfl | omega | assumption | (simp; done) | (simp [splice]; done) | (simp; omega) | (unfold fits; omega) | (unfold fits; simp_all; omega) | (simp_all; omega) | (simp_all; done) | intro _ | exact zI ?_ ?_ | intro _)))⟩ rfl (Imps.refl _) (ringmay_p l) ?_
  (refine L.go (T := tt) tt_ok rfl rfl ?sd32 ?_; (try (case sd32 => (repeat' ((first | first | exact trivial | exact zA | with_reducible refine zI ?_ ?_ | exact zB | exact zC | exact zD | exact zE | rfl | exact zN rfl | omega | assumption | (simp; done) | (simp [splice]; done) | (simp; omega) | (unfold fits; omega) | (unfold fits; simp_all; omega) | (simp_all; omega) | (simp_all; done) | intro _ | exact zI ?_ ?_ | intro _))))); try (refine L.nil ?_))
  ((repeat refine S.seq ?_); refine S.cond rfl (fun h1 => ?_) (fun h1 => ?_) <;> (try first | refine S.skip ?_ | refine S.exit ?_))
  · skip
    ((repeat refine S.seq ?_); refine S.region (L.go (T := tt) tt_ok rfl rfl ?sd20 ?_); (try (case sd20 => (repeat' ((first | first | exact trivial | exact zA | with_reducible refine zI ?_ ?_ | exact zB | exact zC | exact zD | exact zE | rfl | exact zN rfl | omega | assumption | (simp; done) | (simp [splice]; done) | (simp; omega) | (unfold fits; omega) | (unfold fits; simp_all; omega) | (simp_all; omega) | (simp_all; done) | intro _ | exact zI ?_ ?_ | intro _))))); try (refine L.nil ?_))
    (((repeat refine S.seq ?_); refine S.ret ?_); refine E.retP (T := tt) tt_ok rfl rfl (by (repeat' ((first | first | exact trivial | exact zA | with_reducible refine zI ?_ ?_ | exact zB | exact zC | exact zD | exact zE | rfl | exact zN rfl | omega | assumption | (simp; done) | (simp [splice]; done) | (simp; omega) | (unfold fits; omega) | (unfold fits; simp_all; omega) | (simp_all; omega) | (simp_all; done) | intro _ | exact zI ?_ ?_ | intro _)))) (Imp.of_eq ?_))
    rw [ownerA, if_neg (by simpa using h1)]
    rfl
  have h1n : mayA l = true := by simpa using h1
  have m := mayA_of h1n
  have hpl := plcTo_lt p m.one l.length (Nat.le_refl _)
  have hpl2 : placeA l p < l.length := hpl
  ((repeat refine S.seq ?_); refine S.region (L.go (T := tt) tt_ok rfl rfl ?sd21 ?_); (try (case sd21 => (repeat' ((first | first | exact trivial | exact zA | with_reducible refine zI ?_ ?_ | exact zB | exact zC | exact zD | exact zE | rfl | exact zN rfl | omega | assumption | (simp; done) | (simp [splice]; done) | (simp; omega) | (unfold fits; omega) | (unfold fits; simp_all; omega) | (simp_all; omega) | (simp_all; done) | intro _ | exact zI ?_ ?_ | intro _))))); try (refine L.nil ?_))
  refine L.callP rfl rfl rfl rfl rfl rfl rfl ⟨trivial, by (repeat' ((first | first | exact trivial | exact zA | with_reducible refine zI ?_ ?_ | exact zB | exact zC | exact zD | exact zE | rfl | exact zN rfl | omega | assumption | (simp; done) | (simp [splice]; done) | (simp; omega) | (unfold fits; omega) | (unfold fits; simp_all; omega) | (simp_all; omega) | (simp_all; done) | intro _ | exact zI ?_ ?_ | intro _)))⟩ rfl (Imps.refl _) (place_p l p m) ?_
  (refine L.go (T := tt) tt_ok rfl rfl ?sd33 ?_; (try (case sd33 => (repeat' ((first | first | exact trivial | exact zA | with_reducible refine zI ?_ ?_ | exact zB | exact zC | exact zD | exact zE | rfl | exact zN rfl | omega | assumption | (simp; done) | (simp [splice]; done) | (simp; omega) | (unfold fits; omega) | (unfold fits; simp_all; omega) | (simp_all; omega) | (simp_all; done) | intro _ | exact zI ?_ ?_ | intro _))))); try (refine L.nil ?_))
  (((repeat refine S.seq ?_); refine S.ret ?_); refine E.retP (T := tt) tt_ok rfl rfl (by (repeat' ((first | first | exact trivial | exact zA | with_reducible refine zI ?_ ?_ | exact zB | exact zC | exact zD | exact zE | rfl | exact zN rfl | omega | assumption | (simp; done) | (simp [splice]; done) | (simp; omega) | (unfold fits; omega) | (unfold fits; simp_all; omega) | (simp_all; omega) | (simp_all; done) | intro _ | exact zI ?_ ?_ | intro _)))) (Imp.of_eq ?_))
  rw [ownerA, if_pos h1n]
  rfl

theorem pof_p (s : ByteArray) (hs : fitS s) : PFn Try.prog 39 [.v (.string s)] (.v (.int .u32 (ofP s))) := by
  refine FnC.intro Try.func39 rfl Try.ntmps39 rfl ?_; intro off w0
  ((repeat refine S.seq ?_); refine S.region (L.go (T := tt) tt_ok rfl rfl ?sd22 ?_); (try (case sd22 => (repeat' ((first | first | exact trivial | exact zA | with_reducible refine zI ?_ ?_ | exact zB | exact zC | exact zD | exact zE | rfl | exact zN rfl | omega | assumption | (simp; done) | (simp [splice]; done) | (simp; omega) | (unfold fits; omega) | (unfold fits; simp_all; omega) | (simp_all; omega) | (simp_all; done) | intro _ | exact zI ?_ ?_ | intro _))))); try (refine L.nil ?_))
  repeat refine S.seq ?_
  refine S.scopeE 0 (ι := { k : Nat // k ≤ s.size }) (fun k => [(0, .v (.string s)), (3, .v (.int .u32 (ofTo s k.1))), (4, .v (.int .i64 k.1))])
    (fun k => []) (fun k => s.size - k.1) rfl ?_ ?_
  · rintro ⟨k, hk⟩ J hJ
    dsimp only at hJ ⊢
    ((repeat refine S.seq ?_); refine S.region (L.go (T := tt) tt_ok rfl rfl ?sd23 ?_); (try (case sd23 => (repeat' ((first | first | exact trivial | exact zA | with_reducible refine zI ?_ ?_ | exact zB | exact zC | exact zD | exact zE | rfl | exact zN rfl | omega | assumption | (simp; done) | (simp [splice]; done) | (simp; omega) | (unfold fits; omega) | (unfold fits; simp_all; omega) | (simp_all; omega) | (simp_all; done) | intro _ | exact zI ?_ ?_ | intro _))))); try (refine L.nil ?_))
    ((repeat refine S.seq ?_); refine S.cond rfl (fun h1 => ?_) (fun h1 => ?_) <;> (try first | refine S.skip ?_ | refine S.exit ?_))
    · have h1n : k < s.size := by
        simp only [decide_eq_true_eq] at h1
        omega
      unfold fitS at hs
      ((repeat refine S.seq ?_); refine S.region (L.go (T := tt) tt_ok rfl rfl ?sd24 ?_); (try (case sd24 => (repeat' ((first | first | exact trivial | exact zA | with_reducible refine zI ?_ ?_ | exact zB | exact zC | exact zD | exact zE | rfl | exact zN rfl | omega | assumption | (simp; done) | (simp [splice]; done) | (simp; omega) | (unfold fits; omega) | (unfold fits; simp_all; omega) | (simp_all; omega) | (simp_all; done) | intro _ | exact zI ?_ ?_ | intro _))))); try (refine L.nil ?_))
      ((repeat refine S.seq ?_); refine S.region (L.go (T := tt) tt_ok rfl rfl ?sd25 ?_); (try (case sd25 => (repeat' ((first | first | exact trivial | exact zA | with_reducible refine zI ?_ ?_ | exact zB | exact zC | exact zD | exact zE | rfl | exact zN rfl | omega | assumption | (simp; done) | (simp [splice]; done) | (simp; omega) | (unfold fits; omega) | (unfold fits; simp_all; omega) | (simp_all; omega) | (simp_all; done) | intro _ | exact zI ?_ ?_ | intro _))))); try (refine L.nil ?_))
      repeat refine S.seq ?_
      refine S.goto ?_
      exact fun a w hR => ⟨rfl, hJ a w ⟨k + 1, by omega⟩ (by simp only; omega) (hR.weak (by (repeat' (first | exact True.intro | exact Imp.refl _ | refine ⟨?_, ?_⟩))) (by (repeat (first | exact List.nil_sublist _ | refine List.Sublist.cons_cons _ ?_ | refine List.Sublist.cons _ ?_))))⟩
    have hk0 : k = s.size := by
      simp only [decide_eq_false_iff_not] at h1
      omega
    subst hk0
    ((repeat refine S.seq ?_); refine S.region (L.go (T := tt) tt_ok rfl rfl ?sd26 ?_); (try (case sd26 => (repeat' ((first | first | exact trivial | exact zA | with_reducible refine zI ?_ ?_ | exact zB | exact zC | exact zD | exact zE | rfl | exact zN rfl | omega | assumption | (simp; done) | (simp [splice]; done) | (simp; omega) | (unfold fits; omega) | (unfold fits; simp_all; omega) | (simp_all; omega) | (simp_all; done) | intro _ | exact zI ?_ ?_ | intro _))))); try (refine L.nil ?_))
    ((repeat refine S.seq ?_); refine S.region (L.go (T := tt) tt_ok rfl rfl ?sd27 ?_); (try (case sd27 => (repeat' ((first | first | exact trivial | exact zA | with_reducible refine zI ?_ ?_ | exact zB | exact zC | exact zD | exact zE | rfl | exact zN rfl | omega | assumption | (simp; done) | (simp [splice]; done) | (simp; omega) | (unfold fits; omega) | (unfold fits; simp_all; omega) | (simp_all; omega) | (simp_all; done) | intro _ | exact zI ?_ ?_ | intro _))))); try (refine L.nil ?_))
    ((repeat refine S.seq ?_); refine S.region (L.go (T := tt) tt_ok rfl rfl ?sd28 ?_); (try (case sd28 => (repeat' ((first | first | exact trivial | exact zA | with_reducible refine zI ?_ ?_ | exact zB | exact zC | exact zD | exact zE | rfl | exact zN rfl | omega | assumption | (simp; done) | (simp [splice]; done) | (simp; omega) | (unfold fits; omega) | (unfold fits; simp_all; omega) | (simp_all; omega) | (simp_all; done) | intro _ | exact zI ?_ ?_ | intro _))))); try (refine L.nil ?_))
    (((repeat refine S.seq ?_); refine S.ret ?_); refine E.retP (T := tt) tt_ok rfl rfl (by (repeat' ((first | first | exact trivial | exact zA | with_reducible refine zI ?_ ?_ | exact zB | exact zC | exact zD | exact zE | rfl | exact zN rfl | omega | assumption | (simp; done) | (simp [splice]; done) | (simp; omega) | (unfold fits; omega) | (unfold fits; simp_all; omega) | (simp_all; omega) | (simp_all; done) | intro _ | exact zI ?_ ?_ | intro _)))) (Imp.of_eq ?_))
    rfl
  · intro hp
    ((repeat refine S.seq ?_); refine S.region (L.go (T := tt) tt_ok rfl rfl ?sd29 ?_); (try (case sd29 => (repeat' ((first | first | exact trivial | exact zA | with_reducible refine zI ?_ ?_ | exact zB | exact zC | exact zD | exact zE | rfl | exact zN rfl | omega | assumption | (simp; done) | (simp [splice]; done) | (simp; omega) | (unfold fits; omega) | (unfold fits; simp_all; omega) | (simp_all; omega) | (simp_all; done) | intro _ | exact zI ?_ ?_ | intro _))))); try (refine L.nil ?_))
    ((repeat refine S.seq ?_); refine S.region (L.go (T := tt) tt_ok rfl rfl ?sd30 ?_); (try (case sd30 => (repeat' ((first | first | exact trivial | exact zA | with_reducible refine zI ?_ ?_ | exact zB | exact zC | exact zD | exact zE | rfl | exact zN rfl | omega | assumption | (simp; done) | (simp [splice]; done) | (simp; omega) | (unfold fits; omega) | (unfold fits; simp_all; omega) | (simp_all; omega) | (simp_all; done) | intro _ | exact zI ?_ ?_ | intro _))))); try (refine L.nil ?_))
    repeat refine S.seq ?_
    refine S.label ?_
    exact fun a w hR => hp ⟨0, Nat.zero_le _⟩ a w (hR.weak (by (repeat' (first | exact True.intro | exact Imp.refl _ | refine ⟨?_, ?_⟩))) (by (repeat (first | exact List.nil_sublist _ | refine List.Sublist.cons_cons _ ?_ | refine List.Sublist.cons _ ?_))))

end Go.Proofs.Ytgnklbdbglnmaaa

/- Arcs of a ring, points: the document's. -/
namespace Go.Proofs.Ytgnklbdbglnmaaa
set_option linter.unusedVariables false
set_option linter.unusedSimpArgs false
set_option maxHeartbeats 8000000
open Go.RowKit
set_option maxRecDepth 4000

theorem rmayarcs_p (l : List Arc) : PFn Try.prog 77 [arcs l] (.v (.bool (mayA l))) := by
  refine FnC.intro Try.func77 rfl Try.ntmps77 rfl ?_; intro off w0
  ((repeat refine S.seq ?_); refine S.region (L.go (T := tt) tt_ok rfl rfl ?sd1 ?_); (try (case sd1 => (repeat' (first | exact trivial | exact zA | with_reducible refine zI ?_ ?_ | exact zB | exact zC | exact zD | exact zE | rfl | exact zN rfl | omega | assumption | (simp; done) | (simp [splice]; done) | (simp; omega) | (unfold fits; omega) | (unfold fits; simp_all; omega) | (simp_all; omega) | (simp_all; done) | intro _)))); try (refine L.nil ?_))
  ((repeat refine S.seq ?_); refine S.region (L.go (T := tt) tt_ok rfl rfl ?sd2 ?_); (try (case sd2 => (repeat' (first | exact trivial | exact zA | with_reducible refine zI ?_ ?_ | exact zB | exact zC | exact zD | exact zE | rfl | exact zN rfl | omega | assumption | (simp; done) | (simp [splice]; done) | (simp; omega) | (unfold fits; omega) | (unfold fits; simp_all; omega) | (simp_all; omega) | (simp_all; done) | intro _)))); try (refine L.nil ?_))
  ((repeat refine S.seq ?_); refine S.cond rfl (fun h1 => ?_) (fun h1 => ?_) <;> (try first | refine S.skip ?_ | refine S.exit ?_))
  · skip
    ((repeat refine S.seq ?_); refine S.region (L.go (T := tt) tt_ok rfl rfl ?sd3 ?_); (try (case sd3 => (repeat' (first | exact trivial | exact zA | with_reducible refine zI ?_ ?_ | exact zB | exact zC | exact zD | exact zE | rfl | exact zN rfl | omega | assumption | (simp; done) | (simp [splice]; done) | (simp; omega) | (unfold fits; omega) | (unfold fits; simp_all; omega) | (simp_all; omega) | (simp_all; done) | intro _)))); try (refine L.nil ?_))
    (((repeat refine S.seq ?_); refine S.ret ?_); refine E.retP (T := tt) tt_ok rfl rfl (by (repeat' (first | exact trivial | exact zA | with_reducible refine zI ?_ ?_ | exact zB | exact zC | exact zD | exact zE | rfl | exact zN rfl | omega | assumption | (simp; done) | (simp [splice]; done) | (simp; omega) | (unfold fits; omega) | (unfold fits; simp_all; omega) | (simp_all; omega) | (simp_all; done) | intro _))) (Imp.of_eq ?_))
    rw [mayA]
    rw [show (decide ((l.length : Int) < 1) || decide ((l.length : Int) > 1024)) = true from h1]
    rfl
  have h1n : (decide ((l.length : Int) < 1) || decide ((l.length : Int) > 1024)) = false := h1
  have h1o := h1n
  simp only [Bool.or_eq_false_iff, decide_eq_false_iff_not] at h1o
  ((repeat refine S.seq ?_); refine S.region (L.go (T := tt) tt_ok rfl rfl ?sd4 ?_); (try (case sd4 => (repeat' (first | exact trivial | exact zA | with_reducible refine zI ?_ ?_ | exact zB | exact zC | exact zD | exact zE | rfl | exact zN rfl | omega | assumption | (simp; done) | (simp [splice]; done) | (simp; omega) | (unfold fits; omega) | (unfold fits; simp_all; omega) | (simp_all; omega) | (simp_all; done) | intro _)))); try (refine L.nil ?_))
  repeat refine S.seq ?_
  refine S.block (S.loop (ι := { k : Nat // k ≤ l.length ∧ fitA l k = true }) (fun k => [(0, arcs l), (3, .v (.int .i64 k.1))])
    (fun k => []) (fun k => l.length - k.1) ?_ ?_)
  · refine fun a w h => ⟨⟨0, Nat.zero_le _, ?_⟩, h.weak (by (repeat' (first | exact True.intro | exact Imp.refl _ | refine ⟨?_, ?_⟩))) (by (repeat (first | exact List.nil_sublist _ | refine List.Sublist.cons_cons _ ?_ | refine List.Sublist.cons _ ?_)))⟩
    rfl
  rintro ⟨k, hk, ik⟩
  dsimp only at hk ik ⊢
  ((repeat refine S.seq ?_); refine S.region (L.go (T := tt) tt_ok rfl rfl ?sd5 ?_); (try (case sd5 => (repeat' (first | exact trivial | exact zA | with_reducible refine zI ?_ ?_ | exact zB | exact zC | exact zD | exact zE | rfl | exact zN rfl | omega | assumption | (simp; done) | (simp [splice]; done) | (simp; omega) | (unfold fits; omega) | (unfold fits; simp_all; omega) | (simp_all; omega) | (simp_all; done) | intro _)))); try (refine L.nil ?_))
  ((repeat refine S.seq ?_); refine S.cond rfl (fun h2 => ?_) (fun h2 => ?_) <;> (try first | refine S.skip ?_ | refine S.exit ?_))
  · have h2 := of_dec h2
    have h2n : k < l.length := by omega
    repeat refine S.seq ?_
    refine S.block ?_
    repeat refine S.seq ?_
    refine S.draw [] mixed ?_
    (refine H.ts (T := tt) [0, 1, 2, 3, 4, 5, 6, 7, 8, 9, 10, 11, 12, 13, 14, 15, 16, 17, 18, 19, 20, 21, 22, 23, 24, 25, 26, 27, 28, 29, 30, 31] tt_ok (by kernel_rfl) (by kernel_rfl) (by kernel_rfl) (by intro ch a a' w h; obtain ⟨_, _, _, _, _, h, _⟩ := h; cases h) rfl ?sd31 ?_; (try (case sd31 => (repeat' (first | exact trivial | exact zA | with_reducible refine zI ?_ ?_ | exact zB | exact zC | exact zD | exact zE | rfl | exact zN rfl | omega | assumption | (simp; done) | (simp [splice]; done) | (simp; omega) | (unfold fits; omega) | (unfold fits; simp_all; omega) | (simp_all; omega) | (simp_all; done) | intro _)))))
    refine H.done (by kernel_rfl) ?_
    ((repeat refine S.seq ?_); refine S.cond rfl (fun h3 => ?_) (fun h3 => ?_) <;> (try first | refine S.skip ?_ | refine S.exit ?_))
    · skip
      ((repeat refine S.seq ?_); refine S.region (L.go (T := tt) tt_ok rfl rfl ?sd6 ?_); (try (case sd6 => (repeat' (first | exact trivial | exact zA | with_reducible refine zI ?_ ?_ | exact zB | exact zC | exact zD | exact zE | rfl | exact zN rfl | omega | assumption | (simp; done) | (simp [splice]; done) | (simp; omega) | (unfold fits; omega) | (unfold fits; simp_all; omega) | (simp_all; omega) | (simp_all; done) | intro _)))); try (refine L.nil ?_))
      (((repeat refine S.seq ?_); refine S.ret ?_); refine E.retP (T := tt) tt_ok rfl rfl (by (repeat' (first | exact trivial | exact zA | with_reducible refine zI ?_ ?_ | exact zB | exact zC | exact zD | exact zE | rfl | exact zN rfl | omega | assumption | (simp; done) | (simp [splice]; done) | (simp; omega) | (unfold fits; omega) | (unfold fits; simp_all; omega) | (simp_all; omega) | (simp_all; done) | intro _))) (Imp.of_eq ?_))
      have hb : badA l k = true := by
        rw [← h3]
        unfold badA
        rw [← subn]
        rfl
      rw [mayA, fitA_bad h2n hb, Bool.and_false]
      rfl
    have hb : badA l k = false := by
      rw [← h3]
      unfold badA
      rw [← subn]
      rfl
    ((repeat refine S.seq ?_); refine S.region (L.go (T := tt) tt_ok rfl rfl ?sd7 ?_); (try (case sd7 => (repeat' (first | exact trivial | exact zA | with_reducible refine zI ?_ ?_ | exact zB | exact zC | exact zD | exact zE | rfl | exact zN rfl | omega | assumption | (simp; done) | (simp [splice]; done) | (simp; omega) | (unfold fits; omega) | (unfold fits; simp_all; omega) | (simp_all; omega) | (simp_all; done) | intro _)))); try (refine L.nil ?_))
    refine fun a w hR => ⟨⟨k + 1, by omega, ?_⟩, by simp only; omega, hR.weak (by (repeat' (first | exact True.intro | exact Imp.refl _ | refine ⟨?_, ?_⟩))) (by (repeat (first | exact List.nil_sublist _ | refine List.Sublist.cons_cons _ ?_ | refine List.Sublist.cons _ ?_)))⟩
    exact fitA_succ ik hb
  · have h2 := of_dec' h2
    have hk0 : k = l.length := by omega
    subst hk0
    ((repeat refine S.seq ?_); refine S.region (L.go (T := tt) tt_ok rfl rfl ?sd8 ?_); (try (case sd8 => (repeat' (first | exact trivial | exact zA | with_reducible refine zI ?_ ?_ | exact zB | exact zC | exact zD | exact zE | rfl | exact zN rfl | omega | assumption | (simp; done) | (simp [splice]; done) | (simp; omega) | (unfold fits; omega) | (unfold fits; simp_all; omega) | (simp_all; omega) | (simp_all; done) | intro _)))); try (refine L.nil ?_))
    (((repeat refine S.seq ?_); refine S.ret ?_); refine E.retP (T := tt) tt_ok rfl rfl (by (repeat' (first | exact trivial | exact zA | with_reducible refine zI ?_ ?_ | exact zB | exact zC | exact zD | exact zE | rfl | exact zN rfl | omega | assumption | (simp; done) | (simp [splice]; done) | (simp; omega) | (unfold fits; omega) | (unfold fits; simp_all; omega) | (simp_all; omega) | (simp_all; done) | intro _))) (Imp.of_eq ?_))
    rw [mayA, h1n, ik]
    rfl

theorem rplace_p (l : List Arc) (p : Int) (m : MayA l) : PFn Try.prog 93 [arcs l, .v (.int .u32 p)] (.v (.int .i64 (placeA l p))) := by
  have m1 := m.one
  have m2 := m.most
  refine FnC.intro Try.func93 rfl Try.ntmps93 rfl ?_; intro off w0
  ((repeat refine S.seq ?_); refine S.region (L.go (T := tt) tt_ok rfl rfl ?sd9 ?_); (try (case sd9 => (repeat' (first | exact trivial | exact zA | with_reducible refine zI ?_ ?_ | exact zB | exact zC | exact zD | exact zE | rfl | exact zN rfl | omega | assumption | (simp; done) | (simp [splice]; done) | (simp; omega) | (unfold fits; omega) | (unfold fits; simp_all; omega) | (simp_all; omega) | (simp_all; done) | intro _)))); try (refine L.nil ?_))
  ((repeat refine S.seq ?_); refine S.region (L.go (T := tt) tt_ok rfl rfl ?sd10 ?_); (try (case sd10 => (repeat' (first | exact trivial | exact zA | with_reducible refine zI ?_ ?_ | exact zB | exact zC | exact zD | exact zE | rfl | exact zN rfl | omega | assumption | (simp; done) | (simp [splice]; done) | (simp; omega) | (unfold fits; omega) | (unfold fits; simp_all; omega) | (simp_all; omega) | (simp_all; done) | intro _)))); try (refine L.nil ?_))
  refine slotAs 5 (.v (.int .i64 ((plcTo l p 0 : Nat) : Int))) rfl (Imp.of_eq (by rw [plcTo, show ((l.length - 1 : Nat) : Int) = (l.length : Int) - 1 by omega])) ?_
  ((repeat refine S.seq ?_); refine S.region (L.go (T := tt) tt_ok rfl rfl ?sd11 ?_); (try (case sd11 => (repeat' (first | exact trivial | exact zA | with_reducible refine zI ?_ ?_ | exact zB | exact zC | exact zD | exact zE | rfl | exact zN rfl | omega | assumption | (simp; done) | (simp [splice]; done) | (simp; omega) | (unfold fits; omega) | (unfold fits; simp_all; omega) | (simp_all; omega) | (simp_all; done) | intro _)))); try (refine L.nil ?_))
  repeat refine S.seq ?_
  refine S.block (S.loop (ι := { k : Nat // k ≤ l.length }) (fun k => [(0, arcs l), (1, .v (.int .u32 p)), (5, .v (.int .i64 ((plcTo l p k.1 : Nat) : Int))), (6, .v (.int .i64 k.1))])
    (fun k => []) (fun k => l.length - k.1) ?_ ?_)
  · exact fun a w h => ⟨⟨0, Nat.zero_le _⟩, h.weak (by (repeat' (first | exact True.intro | exact Imp.refl _ | refine ⟨?_, ?_⟩))) (by (repeat (first | exact List.nil_sublist _ | refine List.Sublist.cons_cons _ ?_ | refine List.Sublist.cons _ ?_)))⟩
  rintro ⟨k, hk⟩
  dsimp only
  ((repeat refine S.seq ?_); refine S.region (L.go (T := tt) tt_ok rfl rfl ?sd12 ?_); (try (case sd12 => (repeat' (first | exact trivial | exact zA | with_reducible refine zI ?_ ?_ | exact zB | exact zC | exact zD | exact zE | rfl | exact zN rfl | omega | assumption | (simp; done) | (simp [splice]; done) | (simp; omega) | (unfold fits; omega) | (unfold fits; simp_all; omega) | (simp_all; omega) | (simp_all; done) | intro _)))); try (refine L.nil ?_))
  ((repeat refine S.seq ?_); refine S.cond rfl (fun h1 => ?_) (fun h1 => ?_) <;> (try first | refine S.skip ?_ | refine S.exit ?_))
  · have h1 := of_dec h1
    repeat refine S.seq ?_
    refine S.block ?_
    ((repeat refine S.seq ?_); refine S.region (L.go (T := tt) tt_ok rfl rfl ?sd13 ?_); (try (case sd13 => (repeat' (first | exact trivial | exact zA | with_reducible refine zI ?_ ?_ | exact zB | exact zC | exact zD | exact zE | rfl | exact zN rfl | omega | assumption | (simp; done) | (simp [splice]; done) | (simp; omega) | (unfold fits; omega) | (unfold fits; simp_all; omega) | (simp_all; omega) | (simp_all; done) | intro _)))); try (refine L.nil ?_))
    refine S.cut (ι := Unit) (fun _ => [(0, arcs l), (1, .v (.int .u32 p)), (5, .v (.int .i64 ((plcTo l p (k + 1) : Nat) : Int))), (6, .v (.int .i64 k))]) (fun _ => []) ?_ ?_
    · ((repeat refine S.seq ?_); refine S.cond rfl (fun h2 => ?_) (fun h2 => ?_) <;> (try first | refine S.skip ?_ | refine S.exit ?_))
      · skip
        ((repeat refine S.seq ?_); refine S.region (L.go (T := tt) tt_ok rfl rfl ?sd14 ?_); (try (case sd14 => (repeat' (first | exact trivial | exact zA | with_reducible refine zI ?_ ?_ | exact zB | exact zC | exact zD | exact zE | rfl | exact zN rfl | omega | assumption | (simp; done) | (simp [splice]; done) | (simp; omega) | (unfold fits; omega) | (unfold fits; simp_all; omega) | (simp_all; omega) | (simp_all; done) | intro _)))); try (refine L.nil ?_))
        refine slotAs 5 (.v (.int .i64 ((plcTo l p (k + 1) : Nat) : Int))) rfl (Imp.of_eq (by rw [plcTo, if_pos (show (l.getD k default).at0 ≤ p from of_dec h2)])) ?_
        exact fun a w hR => ⟨(), hR.weak (by (repeat' (first | exact True.intro | exact Imp.refl _ | refine ⟨?_, ?_⟩))) (by (repeat (first | exact List.nil_sublist _ | refine List.Sublist.cons_cons _ ?_ | refine List.Sublist.cons _ ?_)))⟩
      · skip
        refine slotAs 5 (.v (.int .i64 ((plcTo l p (k + 1) : Nat) : Int))) rfl (Imp.of_eq (by rw [plcTo, if_neg (show ¬ (l.getD k default).at0 ≤ p from of_dec' h2)])) ?_
        exact fun a w hR => ⟨(), hR.weak (by (repeat' (first | exact True.intro | exact Imp.refl _ | refine ⟨?_, ?_⟩))) (by (repeat (first | exact List.nil_sublist _ | refine List.Sublist.cons_cons _ ?_ | refine List.Sublist.cons _ ?_)))⟩
    rintro ⟨⟩
    ((repeat refine S.seq ?_); refine S.region (L.go (T := tt) tt_ok rfl rfl ?sd15 ?_); (try (case sd15 => (repeat' (first | exact trivial | exact zA | with_reducible refine zI ?_ ?_ | exact zB | exact zC | exact zD | exact zE | rfl | exact zN rfl | omega | assumption | (simp; done) | (simp [splice]; done) | (simp; omega) | (unfold fits; omega) | (unfold fits; simp_all; omega) | (simp_all; omega) | (simp_all; done) | intro _)))); try (refine L.nil ?_))
    exact fun a w hR => ⟨⟨k + 1, by omega⟩, by simp only; omega, hR.weak (by (repeat' (first | exact True.intro | exact Imp.refl _ | refine ⟨?_, ?_⟩))) (by (repeat (first | exact List.nil_sublist _ | refine List.Sublist.cons_cons _ ?_ | refine List.Sublist.cons _ ?_)))⟩
  · have h1 := of_dec' h1
    have hk0 : k = l.length := by omega
    subst hk0
    -- HOLE 3
    ((repeat refine S.seq ?_); refine S.region (L.go (T := tt) tt_ok rfl rfl ?sd16 ?_); (try (case sd16 => (repeat' (first | exact trivial | exact zA | with_reducible refine zI ?_ ?_ | exact zB | exact zC | exact zD | exact zE | rfl | exact zN rfl | omega | assumption | (simp; done) | (simp [splice]; done) | (simp; omega) | (unfold fits; omega) | (unfold fits; simp_all; omega) | (simp_all; omega) | (simp_all; done) | intro _)))); try (refine L.nil ?_))
    (((repeat refine S.seq ?_); refine S.ret ?_); refine E.retP (T := tt) tt_ok rfl rfl (by (repeat' (first | exact trivial | exact zA | with_reducible refine zI ?_ ?_ | exact zB | exact zC | exact zD | exact zE | rfl | exact zN rfl | omega | assumption | (simp; done) | (simp [splice]; done) | (simp; omega) | (unfold fits; omega) | (unfold fits; simp_all; omega) | (simp_all; omega) | (simp_all; done) | intro _))) (Imp.of_eq ?_))
    rfl
    -- HOLE 4

theorem rowner_p (l : List Arc) (p : Int) : PFn Try.prog 78 [arcs l, .v (.int .u32 p)] (.v (.int .i64 (ownerA l p))) := by
  refine FnC.intro Try.func78 rfl Try.ntmps78 rfl ?_; intro off w0
  ((repeat refine S.seq ?_); refine S.region (L.go (T := tt) tt_ok rfl rfl ?sd17 ?_); (try (case sd17 => (repeat' (first | exact trivial | exact zA | with_reducible refine zI ?_ ?_ | exact zB | exact zC | exact zD | exact zE | rfl | exact zN rfl | omega | assumption | (simp; done) | (simp [splice]; done) | (simp; omega) | (unfold fits; omega) | (unfold fits; simp_all; omega) | (simp_all; omega) | (simp_all; done) | intro _)))); try (refine L.nil ?_))
  ((repeat refine S.seq ?_); refine S.region (L.go (T := tt) tt_ok rfl rfl ?sd18 ?_); (try (case sd18 => (repeat' (first | exact trivial | exact zA | with_reducible refine zI ?_ ?_ | exact zB | exact zC | exact zD | exact zE | rfl | exact zN rfl | omega | assumption | (simp; done) | (simp [splice]; done) | (simp; omega) | (unfold fits; omega) | (unfold fits; simp_all; omega) | (simp_all; omega) | (simp_all; done) | intro _)))); try (refine L.nil ?_))
  refine L.callP rfl rfl rfl rfl rfl rfl rfl ⟨trivial, by (repeat' (first | exact trivial | exact zA | with_reducible refine zI ?_ ?_ | exact zB | exact zC | exact zD | exact zE | rfl | exact zN rfl | omega | assumption | (simp; done) | (simp [splice]; done) | (simp; omega) | (unfold fits; omega) | (unfold fits; simp_all; omega) | (simp_all; omega) | (simp_all; done) | intro _))⟩ rfl (Imps.refl _) (rmayarcs_p l) ?_
  (refine L.go (T := tt) tt_ok rfl rfl ?sd29 ?_; (try (case sd29 => (repeat' (first | exact trivial | exact zA | with_reducible refine zI ?_ ?_ | exact zB | exact zC | exact zD | exact zE | rfl | exact zN rfl | omega | assumption | (simp; done) | (simp [splice]; done) | (simp; omega) | (unfold fits; omega) | (unfold fits; simp_all; omega) | (simp_all; omega) | (simp_all; done) | intro _)))); try (refine L.nil ?_))
  ((repeat refine S.seq ?_); refine S.cond rfl (fun h1 => ?_) (fun h1 => ?_) <;> (try first | refine S.skip ?_ | refine S.exit ?_))
  · skip
    ((repeat refine S.seq ?_); refine S.region (L.go (T := tt) tt_ok rfl rfl ?sd19 ?_); (try (case sd19 => (repeat' (first | exact trivial | exact zA | with_reducible refine zI ?_ ?_ | exact zB | exact zC | exact zD | exact zE | rfl | exact zN rfl | omega | assumption | (simp; done) | (simp [splice]; done) | (simp; omega) | (unfold fits; omega) | (unfold fits; simp_all; omega) | (simp_all; omega) | (simp_all; done) | intro _)))); try (refine L.nil ?_))
    (((repeat refine S.seq ?_); refine S.ret ?_); refine E.retP (T := tt) tt_ok rfl rfl (by (repeat' (first | exact trivial | exact zA | with_reducible refine zI ?_ ?_ | exact zB | exact zC | exact zD | exact zE | rfl | exact zN rfl | omega | assumption | (simp; done) | (simp [splice]; done) | (simp; omega) | (unfold fits; omega) | (unfold fits; simp_all; omega) | (simp_all; omega) | (simp_all; done) | intro _))) (Imp.of_eq ?_))
    rw [ownerA, if_neg (by simpa using h1)]
    rfl
  have h1n : mayA l = true := by simpa using h1
  have m := mayA_of h1n
  have hpl := plcTo_lt p m.one l.length (Nat.le_refl _)
  have hpl2 : placeA l p < l.length := hpl
  ((repeat refine S.seq ?_); refine S.region (L.go (T := tt) tt_ok rfl rfl ?sd20 ?_); (try (case sd20 => (repeat' (first | exact trivial | exact zA | with_reducible refine zI ?_ ?_ | exact zB | exact zC | exact zD | exact zE | rfl | exact zN rfl | omega | assumption | (simp; done) | (simp [splice]; done) | (simp; omega) | (unfold fits; omega) | (unfold fits; simp_all; omega) | (simp_all; omega) | (simp_all; done) | intro _)))); try (refine L.nil ?_))
  refine L.callP rfl rfl rfl rfl rfl rfl rfl ⟨trivial, by (repeat' (first | exact trivial | exact zA | with_reducible refine zI ?_ ?_ | exact zB | exact zC | exact zD | exact zE | rfl | exact zN rfl | omega | assumption | (simp; done) | (simp [splice]; done) | (simp; omega) | (unfold fits; omega) | (unfold fits; simp_all; omega) | (simp_all; omega) | (simp_all; done) | intro _))⟩ rfl (Imps.refl _) (rplace_p l p m) ?_
  (refine L.go (T := tt) tt_ok rfl rfl ?sd30 ?_; (try (case sd30 => (repeat' (first | exact trivial | exact zA | with_reducible refine zI ?_ ?_ | exact zB | exact zC | exact zD | exact zE | rfl | exact zN rfl | omega | assumption | (simp; done) | (simp [splice]; done) | (simp; omega) | (unfold fits; omega) | (unfold fits; simp_all; omega) | (simp_all; omega) | (simp_all; done) | intro _)))); try (refine L.nil ?_))
  (((repeat refine S.seq ?_); refine S.ret ?_); refine E.retP (T := tt) tt_ok rfl rfl (by (repeat' (first | exact trivial | exact zA | with_reducible refine zI ?_ ?_ | exact zB | exact zC | exact zD | exact zE | rfl | exact zN rfl | omega | assumption | (simp; done) | (simp [splice]; done) | (simp; omega) | (unfold fits; omega) | (unfold fits; simp_all; omega) | (simp_all; omega) | (simp_all; done) | intro _))) (Imp.of_eq ?_))
  rw [ownerA, if_pos h1n]
  rfl

theorem rof_p (s : ByteArray) (hs : fitS s) : PFn Try.prog 79 [.v (.string s)] (.v (.int .u32 (ofP s))) := by
  unfold fitS at hs
  refine FnC.intro Try.func79 rfl Try.ntmps79 rfl ?_; intro off w0
  ((repeat refine S.seq ?_); refine S.region (L.go (T := tt) tt_ok rfl rfl ?sd21 ?_); (try (case sd21 => (repeat' (first | exact trivial | exact zA | with_reducible refine zI ?_ ?_ | exact zB | exact zC | exact zD | exact zE | rfl | exact zN rfl | omega | assumption | (simp; done) | (simp [splice]; done) | (simp; omega) | (unfold fits; omega) | (unfold fits; simp_all; omega) | (simp_all; omega) | (simp_all; done) | intro _)))); try (refine L.nil ?_))
  ((repeat refine S.seq ?_); refine S.region (L.go (T := tt) tt_ok rfl rfl ?sd22 ?_); (try (case sd22 => (repeat' (first | exact trivial | exact zA | with_reducible refine zI ?_ ?_ | exact zB | exact zC | exact zD | exact zE | rfl | exact zN rfl | omega | assumption | (simp; done) | (simp [splice]; done) | (simp; omega) | (unfold fits; omega) | (unfold fits; simp_all; omega) | (simp_all; omega) | (simp_all; done) | intro _)))); try (refine L.nil ?_))
  ((repeat refine S.seq ?_); refine S.region (L.go (T := tt) tt_ok rfl rfl ?sd23 ?_); (try (case sd23 => (repeat' (first | exact trivial | exact zA | with_reducible refine zI ?_ ?_ | exact zB | exact zC | exact zD | exact zE | rfl | exact zN rfl | omega | assumption | (simp; done) | (simp [splice]; done) | (simp; omega) | (unfold fits; omega) | (unfold fits; simp_all; omega) | (simp_all; omega) | (simp_all; done) | intro _)))); try (refine L.nil ?_))
  repeat refine S.seq ?_
  refine S.block (S.loop (ι := { k : Nat // k ≤ s.size }) (fun k => [(0, .v (.string s)), (3, .v (.int .u32 (ofTo s k.1))), (4, .v (.int .i64 k.1))])
    (fun k => []) (fun k => s.size - k.1) ?_ ?_)
  · exact fun a w h => ⟨⟨0, Nat.zero_le _⟩, h.weak (by (repeat' (first | exact True.intro | exact Imp.refl _ | refine ⟨?_, ?_⟩))) (by (repeat (first | exact List.nil_sublist _ | refine List.Sublist.cons_cons _ ?_ | refine List.Sublist.cons _ ?_)))⟩
  rintro ⟨k, hk⟩
  dsimp only
  ((repeat refine S.seq ?_); refine S.region (L.go (T := tt) tt_ok rfl rfl ?sd24 ?_); (try (case sd24 => (repeat' (first | exact trivial | exact zA | with_reducible refine zI ?_ ?_ | exact zB | exact zC | exact zD | exact zE | rfl | exact zN rfl | omega | assumption | (simp; done) | (simp [splice]; done) | (simp; omega) | (unfold fits; omega) | (unfold fits; simp_all; omega) | (simp_all; omega) | (simp_all; done) | intro _)))); try (refine L.nil ?_))
  ((repeat refine S.seq ?_); refine S.cond rfl (fun h1 => ?_) (fun h1 => ?_) <;> (try first | refine S.skip ?_ | refine S.exit ?_))
  · have h1 := of_dec h1
    repeat refine S.seq ?_
    refine S.block ?_
    ((repeat refine S.seq ?_); refine S.region (L.go (T := tt) tt_ok rfl rfl ?sd25 ?_); (try (case sd25 => (repeat' (first | exact trivial | exact zA | with_reducible refine zI ?_ ?_ | exact zB | exact zC | exact zD | exact zE | rfl | exact zN rfl | omega | assumption | (simp; done) | (simp [splice]; done) | (simp; omega) | (unfold fits; omega) | (unfold fits; simp_all; omega) | (simp_all; omega) | (simp_all; done) | intro _)))); try (refine L.nil ?_))
    ((repeat refine S.seq ?_); refine S.region (L.go (T := tt) tt_ok rfl rfl ?sd26 ?_); (try (case sd26 => (repeat' (first | exact trivial | exact zA | with_reducible refine zI ?_ ?_ | exact zB | exact zC | exact zD | exact zE | rfl | exact zN rfl | omega | assumption | (simp; done) | (simp [splice]; done) | (simp; omega) | (unfold fits; omega) | (unfold fits; simp_all; omega) | (simp_all; omega) | (simp_all; done) | intro _)))); try (refine L.nil ?_))
    exact fun a w hR => ⟨⟨k + 1, by omega⟩, by simp only; omega, hR.weak (by (repeat' (first | exact True.intro | exact Imp.refl _ | refine ⟨?_, ?_⟩))) (by (repeat (first | exact List.nil_sublist _ | refine List.Sublist.cons_cons _ ?_ | refine List.Sublist.cons _ ?_)))⟩
  · have h1 := of_dec' h1
    have hk0 : k = s.size := by omega
    subst hk0
    ((repeat refine S.seq ?_); refine S.region (L.go (T := tt) tt_ok rfl rfl ?sd27 ?_); (try (case sd27 => (repeat' (first | exact trivial | exact zA | with_reducible refine zI ?_ ?_ | exact zB | exact zC | exact zD | exact zE | rfl | exact zN rfl | omega | assumption | (simp; done) | (simp [splice]; done) | (simp; omega) | (unfold fits; omega) | (unfold fits; simp_all; omega) | (simp_all; omega) | (simp_all; done) | intro _)))); try (refine L.nil ?_))
    ((repeat refine S.seq ?_); refine S.region (L.go (T := tt) tt_ok rfl rfl ?sd28 ?_); (try (case sd28 => (repeat' (first | exact trivial | exact zA | with_reducible refine zI ?_ ?_ | exact zB | exact zC | exact zD | exact zE | rfl | exact zN rfl | omega | assumption | (simp; done) | (simp [splice]; done) | (simp; omega) | (unfold fits; omega) | (unfold fits; simp_all; omega) | (simp_all; omega) | (simp_all; done) | intro _)))); try (refine L.nil ?_))
    (((repeat refine S.seq ?_); refine S.ret ?_); refine E.retP (T := tt) tt_ok rfl rfl (by (repeat' (first | exact trivial | exact zA | with_reducible refine zI ?_ ?_ | exact zB | exact zC | exact zD | exact zE | rfl | exact zN rfl | omega | assumption | (simp; done) | (simp [splice]; done) | (simp; omega) | (unfold fits; omega) | (unfold fits; simp_all; omega) | (simp_all; omega) | (simp_all; done) | intro _))) (Imp.of_eq ?_))
    rfl

end Go.Proofs.Ytgnklbdbglnmaaa

/- slices.DeleteFunc of one's own slice. -/
namespace Go.Proofs.Ytgnklbdbglnmaaa
set_option linter.unusedVariables false
set_option linter.unusedSimpArgs false
set_option maxHeartbeats 8000000
open Go.RowKit
set_option maxRecDepth 4000

theorem DfMsgI (q : Msg → Bool) (l : List Msg) (x : Value) {fn : Nat} {caps : List AV} (hf : callable Try.prog fn = true) (hp : ∀ a ∈ l, PFn Try.prog fn (.agg (Msg.cells a) :: caps) (.v (.bool (q a)))) :
    FnC Try.prog 92 [.ref 91 x, .fn (.func fn) caps] [(91, .own x 46 5 l.length (gOf Msg.cells l))] (fun r F' => r = .v (.int .i64 (pidx (fun i => q (l.getD i default)) l.length)) ∧ F' = [(91, .own x 46 5 l.length (gOf Msg.cells l))]) := by
  refine FnC.intro Try.func92 rfl Try.ntmps92 rfl ?_; intro off w0
  refine lenOwn (x := x) (n := l.length) (g := gOf Msg.cells l) (sz := 5) 91 rfl fun hn => ?_
  ((repeat refine S.seq ?_); refine S.region (L.go (T := tt) tt_ok rfl rfl ?sd1 ?_); (try (case sd1 => (repeat' (first | exact trivial | exact zA | with_reducible refine zI ?_ ?_ | exact zB | exact zC | exact zD | exact zE | rfl | exact zN rfl | omega | assumption | (simp; done) | (simp [splice]; done) | (simp; omega) | (unfold fits; omega) | (unfold fits; simp_all; omega) | (simp_all; omega) | (simp_all; done) | intro _)))); try (refine L.nil ?_))
  ((repeat refine S.seq ?_); refine S.region (L.go (T := tt) tt_ok rfl rfl ?sd2 ?_); (try (case sd2 => (repeat' (first | exact trivial | exact zA | with_reducible refine zI ?_ ?_ | exact zB | exact zC | exact zD | exact zE | rfl | exact zN rfl | omega | assumption | (simp; done) | (simp [splice]; done) | (simp; omega) | (unfold fits; omega) | (unfold fits; simp_all; omega) | (simp_all; omega) | (simp_all; done) | intro _)))); try (refine L.nil ?_))
  repeat refine S.seq ?_
  refine S.block (S.loop (ι := { k : Nat // k ≤ l.length ∧ ∀ j, j < k → q (l.getD j default) = false }) (fun k => [(0, .ref 91 x), (1, .fn (.func fn) caps), (7, .v (.int .i64 l.length)), (8, .v (.int .i64 k.1))])
    (fun k => [(91, .own x 46 5 l.length (gOf Msg.cells l))]) (fun k => l.length - k.1) ?_ ?_)
  · refine fun a w h => ⟨⟨0, Nat.zero_le _, ?_⟩, h.weak (by (repeat' (first | exact True.intro | exact Imp.refl _ | refine ⟨?_, ?_⟩))) (by (repeat (first | exact List.nil_sublist _ | refine List.Sublist.cons_cons _ ?_ | refine List.Sublist.cons _ ?_)))⟩
    exact fun j hj => absurd hj (by omega)
  rintro ⟨k, hk, ik⟩
  dsimp only
  ((repeat refine S.seq ?_); refine S.region (L.go (T := tt) tt_ok rfl rfl ?sd3 ?_); (try (case sd3 => (repeat' (first | exact trivial | exact zA | with_reducible refine zI ?_ ?_ | exact zB | exact zC | exact zD | exact zE | rfl | exact zN rfl | omega | assumption | (simp; done) | (simp [splice]; done) | (simp; omega) | (unfold fits; omega) | (unfold fits; simp_all; omega) | (simp_all; omega) | (simp_all; done) | intro _)))); try (refine L.nil ?_))
  ((repeat refine S.seq ?_); refine S.cond rfl (fun h1 => ?_) (fun h1 => ?_) <;> (try first | refine S.skip ?_ | refine S.exit ?_))
  · have h1 := of_dec h1
    repeat refine S.seq ?_
    refine S.block ?_
    ((repeat refine S.seq ?_); refine S.region (L.go (T := tt) tt_ok rfl rfl ?sd4 ?_); (try (case sd4 => (repeat' (first | exact trivial | exact zA | with_reducible refine zI ?_ ?_ | exact zB | exact zC | exact zD | exact zE | rfl | exact zN rfl | omega | assumption | (simp; done) | (simp [splice]; done) | (simp; omega) | (unfold fits; omega) | (unfold fits; simp_all; omega) | (simp_all; omega) | (simp_all; done) | intro _)))); try (refine L.nil ?_))
    ((repeat refine S.seq ?_); refine S.region (L.go (T := tt) tt_ok rfl rfl ?sd5 ?_); (try (case sd5 => (repeat' (first | exact trivial | exact zA | with_reducible refine zI ?_ ?_ | exact zB | exact zC | exact zD | exact zE | rfl | exact zN rfl | omega | assumption | (simp; done) | (simp [splice]; done) | (simp; omega) | (unfold fits; omega) | (unfold fits; simp_all; omega) | (simp_all; omega) | (simp_all; done) | intro _)))); try (refine L.nil ?_))
    refine L.callP rfl rfl rfl rfl rfl rfl rfl ⟨trivial, by (repeat' (first | exact trivial | exact zA | with_reducible refine zI ?_ ?_ | exact zB | exact zC | exact zD | exact zE | rfl | exact zN rfl | omega | assumption | (simp; done) | (simp [splice]; done) | (simp; omega) | (unfold fits; omega) | (unfold fits; simp_all; omega) | (simp_all; omega) | (simp_all; done) | intro _))⟩ hf (Imps.refl (.agg (Msg.cells (l.getD k default)) :: caps)) (hp (l.getD k default) (by rw [getD_get (by omega)]; exact List.getElem_mem _)) (L.nil ?_)
    ((repeat refine S.seq ?_); refine S.cond rfl (fun h2 => ?_) (fun h2 => ?_) <;> (try first | refine S.skip ?_ | refine S.exit ?_))
    · skip
      ((repeat refine S.seq ?_); refine S.region (L.go (T := tt) tt_ok rfl rfl ?sd6 ?_); (try (case sd6 => (repeat' (first | exact trivial | exact zA | with_reducible refine zI ?_ ?_ | exact zB | exact zC | exact zD | exact zE | rfl | exact zN rfl | omega | assumption | (simp; done) | (simp [splice]; done) | (simp; omega) | (unfold fits; omega) | (unfold fits; simp_all; omega) | (simp_all; omega) | (simp_all; done) | intro _)))); try (refine L.nil ?_))
      ((repeat refine S.seq ?_); refine S.ret ?_)
      rw [pidx_some (by omega) h2 ik]
      exact E.ret (T := tt) tt_ok rfl rfl (by (repeat' (first | exact trivial | exact zA | with_reducible refine zI ?_ ?_ | exact zB | exact zC | exact zD | exact zE | rfl | exact zN rfl | omega | assumption | (simp; done) | (simp [splice]; done) | (simp; omega) | (unfold fits; omega) | (unfold fits; simp_all; omega) | (simp_all; omega) | (simp_all; done) | intro _))) (F' := [(91, .own x 46 5 l.length (gOf Msg.cells l))]) (Imp.refl _) (by (repeat (first | exact List.nil_sublist _ | refine List.Sublist.cons_cons _ ?_ | refine List.Sublist.cons _ ?_))) ⟨rfl, rfl⟩
    ((repeat refine S.seq ?_); refine S.region (L.go (T := tt) tt_ok rfl rfl ?sd7 ?_); (try (case sd7 => (repeat' (first | exact trivial | exact zA | with_reducible refine zI ?_ ?_ | exact zB | exact zC | exact zD | exact zE | rfl | exact zN rfl | omega | assumption | (simp; done) | (simp [splice]; done) | (simp; omega) | (unfold fits; omega) | (unfold fits; simp_all; omega) | (simp_all; omega) | (simp_all; done) | intro _)))); try (refine L.nil ?_))
    refine fun a w hR => ⟨⟨k + 1, by omega, ?_⟩, by simp only; omega, hR.weak (by (repeat' (first | exact True.intro | exact Imp.refl _ | refine ⟨?_, ?_⟩))) (by (repeat (first | exact List.nil_sublist _ | refine List.Sublist.cons_cons _ ?_ | refine List.Sublist.cons _ ?_)))⟩
    exact upto_succ ik h2
  · have h1 := of_dec' h1
    ((repeat refine S.seq ?_); refine S.region (L.go (T := tt) tt_ok rfl rfl ?sd8 ?_); (try (case sd8 => (repeat' (first | exact trivial | exact zA | with_reducible refine zI ?_ ?_ | exact zB | exact zC | exact zD | exact zE | rfl | exact zN rfl | omega | assumption | (simp; done) | (simp [splice]; done) | (simp; omega) | (unfold fits; omega) | (unfold fits; simp_all; omega) | (simp_all; omega) | (simp_all; done) | intro _)))); try (refine L.nil ?_))
    ((repeat refine S.seq ?_); refine S.ret ?_)
    rw [pidx_none fun j hj => ik j (by omega)]
    exact E.ret (T := tt) tt_ok rfl rfl (by (repeat' (first | exact trivial | exact zA | with_reducible refine zI ?_ ?_ | exact zB | exact zC | exact zD | exact zE | rfl | exact zN rfl | omega | assumption | (simp; done) | (simp [splice]; done) | (simp; omega) | (unfold fits; omega) | (unfold fits; simp_all; omega) | (simp_all; omega) | (simp_all; done) | intro _))) (F' := [(91, .own x 46 5 l.length (gOf Msg.cells l))]) (Imp.refl _) (by (repeat (first | exact List.nil_sublist _ | refine List.Sublist.cons_cons _ ?_ | refine List.Sublist.cons _ ?_))) ⟨rfl, rfl⟩

/-- What is kept of so many. -/
def DfMsgK (q : Msg → Bool) (l : List Msg) (j : Nat) : List Msg := (l.take j).filter fun a => !q a
structure DfMsgS (q : Msg → Bool) (l : List Msg) (j : Nat) (M : List Msg) : Prop where
  le : j ≤ l.length
  len : M.length = l.length
  pre : M.take (DfMsgK q l j).length = DfMsgK q l j
  post : M.drop j = l.drop j
theorem DfMsgK_le (q : Msg → Bool) (l : List Msg) (j : Nat) : (DfMsgK q l j).length ≤ j := Nat.le_trans (List.length_filter_le _ _) (by rw [List.length_take]; omega)
theorem DfMsgK_succ (q : Msg → Bool) (l : List Msg) {j : Nat} (h : j < l.length) : DfMsgK q l (j + 1) = DfMsgK q l j ++ if q (l.getD j default) then [] else [l.getD j default] := by
  unfold DfMsgK
  rw [List.take_succ_eq_append_getElem h, List.filter_append, getD_get h]
  congr 1
  cases hq : q l[j] <;> simp [hq]
theorem DfMsgS.at {q : Msg → Bool} {l M : List Msg} {j : Nat} (s : DfMsgS q l j M) (h : j < l.length) : M.getD j default = l.getD j default := by
  have e : (M.drop j)[0]? = (l.drop j)[0]? := by rw [s.post]
  rw [List.getElem?_drop, List.getElem?_drop] at e
  rw [List.getD_eq_getElem?_getD, List.getD_eq_getElem?_getD]
  simpa using congrArg (fun o => o.getD default) e
theorem DfMsgS.skip {q : Msg → Bool} {l M : List Msg} {j : Nat} (s : DfMsgS q l j M) (h : j < l.length) (hq : q (l.getD j default) = true) : DfMsgS q l (j + 1) M ∧ (DfMsgK q l (j + 1)).length = (DfMsgK q l j).length := by
  have e : DfMsgK q l (j + 1) = DfMsgK q l j := by rw [DfMsgK_succ q l h, if_pos hq, List.append_nil]
  refine ⟨⟨h, s.len, by rw [e]; exact s.pre, ?_⟩, by rw [e]⟩
  rw [← List.drop_drop, s.post, List.drop_drop]
theorem DfMsgS.keep {q : Msg → Bool} {l M : List Msg} {j : Nat} (s : DfMsgS q l j M) (h : j < l.length) (hq : q (l.getD j default) = false) : DfMsgS q l (j + 1) (M.set (DfMsgK q l j).length (l.getD j default)) ∧ (DfMsgK q l (j + 1)).length = (DfMsgK q l j).length + 1 := by
  have hle := DfMsgK_le q l j
  have e : DfMsgK q l (j + 1) = DfMsgK q l j ++ [l.getD j default] := by rw [DfMsgK_succ q l h, if_neg (by rw [hq]; decide)]
  have el : (DfMsgK q l (j + 1)).length = (DfMsgK q l j).length + 1 := by rw [e]; simp
  refine ⟨⟨h, by rw [List.length_set, s.len], ?_, ?_⟩, el⟩
  · rw [el, List.take_succ_eq_append_getElem (by rw [List.length_set, s.len]; omega), List.take_set_of_le (Nat.le_refl _), s.pre, e]
    simp
  · rw [List.drop_set_of_lt (by omega), ← List.drop_drop, s.post, List.drop_drop]

theorem DfMsg (q : Msg → Bool) (l : List Msg) (x : Value) {fn : Nat} {caps : List AV} (hf : callable Try.prog fn = true) (hp : ∀ a ∈ l, PFn Try.prog fn (.agg (Msg.cells a) :: caps) (.v (.bool (q a)))) :
    FnC Try.prog 68 [.ref 91 x, .fn (.func fn) caps] [(91, .own x 46 5 l.length (gOf Msg.cells l))]
      (fun r F' => ∃ y, r = .ref 91 y ∧ F' = [(91, .own y 46 5 (l.filter fun a => !q a).length (gOf Msg.cells (l.filter fun a => !q a)))]) := by
  refine FnC.intro Try.func68 rfl Try.ntmps68 rfl ?_; intro off w0
  refine lenOwn (x := x) (n := l.length) (g := gOf Msg.cells l) (sz := 5) 91 rfl fun hn => ?_
  ((repeat refine S.seq ?_); refine S.region (L.go (T := tt) tt_ok rfl rfl ?sd9 ?_); (try (case sd9 => (repeat' (first | exact trivial | exact zA | with_reducible refine zI ?_ ?_ | exact zB | exact zC | exact zD | exact zE | rfl | exact zN rfl | omega | assumption | (simp; done) | (simp [splice]; done) | (simp; omega) | (unfold fits; omega) | (unfold fits; simp_all; omega) | (simp_all; omega) | (simp_all; done) | intro _)))); try (refine L.nil ?_))
  ((repeat refine S.seq ?_); refine S.region (L.go (T := tt) tt_ok rfl rfl ?sd10 ?_); (try (case sd10 => (repeat' (first | exact trivial | exact zA | with_reducible refine zI ?_ ?_ | exact zB | exact zC | exact zD | exact zE | rfl | exact zN rfl | omega | assumption | (simp; done) | (simp [splice]; done) | (simp; omega) | (unfold fits; omega) | (unfold fits; simp_all; omega) | (simp_all; omega) | (simp_all; done) | intro _)))); try (refine L.nil ?_))
  refine L.call (G := [(91, .own x 46 5 l.length (gOf Msg.cells l))]) (H := []) rfl rfl rfl rfl rfl rfl rfl ⟨trivial, by (repeat' (first | exact trivial | exact zA | with_reducible refine zI ?_ ?_ | exact zB | exact zC | exact zD | exact zE | rfl | exact zN rfl | omega | assumption | (simp; done) | (simp [splice]; done) | (simp; omega) | (unfold fits; omega) | (unfold fits; simp_all; omega) | (simp_all; omega) | (simp_all; done) | intro _))⟩ rfl (Imps.refl _) (List.Perm.refl _) (DfMsgI q l x hf hp) ?_
  rintro r F' ⟨rfl, rfl⟩
  (refine L.go (T := tt) tt_ok rfl rfl ?sd20 ?_; (try (case sd20 => (repeat' (first | exact trivial | exact zA | with_reducible refine zI ?_ ?_ | exact zB | exact zC | exact zD | exact zE | rfl | exact zN rfl | omega | assumption | (simp; done) | (simp [splice]; done) | (simp; omega) | (unfold fits; omega) | (unfold fits; simp_all; omega) | (simp_all; omega) | (simp_all; done) | intro _)))); try (refine L.nil ?_))
  ((repeat refine S.seq ?_); refine S.region (L.go (T := tt) tt_ok rfl rfl ?sd11 ?_); (try (case sd11 => (repeat' (first | exact trivial | exact zA | with_reducible refine zI ?_ ?_ | exact zB | exact zC | exact zD | exact zE | rfl | exact zN rfl | omega | assumption | (simp; done) | (simp [splice]; done) | (simp; omega) | (unfold fits; omega) | (unfold fits; simp_all; omega) | (simp_all; omega) | (simp_all; done) | intro _)))); try (refine L.nil ?_))
  rcases pidx_cases (fun i => q (l.getD i default)) l.length with ⟨hi, hno⟩ | ⟨k0, hk0, hq0, hno, hi⟩
  · rw [hi]
    ((repeat refine S.seq ?_); refine S.cond rfl (fun h1 => ?_) (fun h1 => ?_) <;> (try first | refine S.skip ?_ | refine S.exit ?_))
    · skip
      ((repeat refine S.seq ?_); refine S.region (L.go (T := tt) tt_ok rfl rfl ?sd12 ?_); (try (case sd12 => (repeat' (first | exact trivial | exact zA | with_reducible refine zI ?_ ?_ | exact zB | exact zC | exact zD | exact zE | rfl | exact zN rfl | omega | assumption | (simp; done) | (simp [splice]; done) | (simp; omega) | (unfold fits; omega) | (unfold fits; simp_all; omega) | (simp_all; omega) | (simp_all; done) | intro _)))); try (refine L.nil ?_))
      have e : (l.filter fun a => !q a) = l := List.filter_eq_self.2 fun a ha => by
        obtain ⟨i, hil, rfl⟩ := List.getElem_of_mem ha
        have := hno i hil
        rw [getD_get hil] at this
        simp [this]
      ((repeat refine S.seq ?_); refine S.ret ?_)
      exact E.ret (T := tt) tt_ok rfl rfl (by (repeat' (first | exact trivial | exact zA | with_reducible refine zI ?_ ?_ | exact zB | exact zC | exact zD | exact zE | rfl | exact zN rfl | omega | assumption | (simp; done) | (simp [splice]; done) | (simp; omega) | (unfold fits; omega) | (unfold fits; simp_all; omega) | (simp_all; omega) | (simp_all; done) | intro _))) (F' := [(91, .own x 46 5 l.length (gOf Msg.cells l))]) (Imp.refl _) (by (repeat (first | exact List.nil_sublist _ | refine List.Sublist.cons_cons _ ?_ | refine List.Sublist.cons _ ?_))) ⟨x, rfl, by rw [e]⟩
    · exact absurd h1 (by decide)
  · rw [hi]
    ((repeat refine S.seq ?_); refine S.cond rfl (fun h1 => ?_) (fun h1 => ?_) <;> (try first | refine S.skip ?_ | refine S.exit ?_))
    · exfalso
      simp at h1
    ((repeat refine S.seq ?_); refine S.region (L.go (T := tt) tt_ok rfl rfl ?sd13 ?_); (try (case sd13 => (repeat' (first | exact trivial | exact zA | with_reducible refine zI ?_ ?_ | exact zB | exact zC | exact zD | exact zE | rfl | exact zN rfl | omega | assumption | (simp; done) | (simp [splice]; done) | (simp; omega) | (unfold fits; omega) | (unfold fits; simp_all; omega) | (simp_all; omega) | (simp_all; done) | intro _)))); try (refine L.nil ?_))
    have e0 : (DfMsgK q l (k0 + 1)) = l.take k0 := by
      rw [DfMsgK_succ q l hk0, if_pos hq0, List.append_nil]
      unfold DfMsgK
      exact List.filter_eq_self.2 fun a ha => by
        obtain ⟨i, hil, h2, rfl⟩ := mem_take ha
        have := hno i h2
        rw [getD_get hil] at this
        simp [this]
    have e1 : (DfMsgK q l (k0 + 1)).length = k0 := by rw [e0, List.length_take]; omega
    repeat refine S.seq ?_
    refine S.block (S.loop (ι := { p : Nat × List Msg // DfMsgS q l p.1 p.2 }) (fun p => [(0, .ref 91 x), (1, .fn (.func fn) caps), (5, .v (.int .i64 ((DfMsgK q l p.1.1).length : Int))), (6, .v (.int .i64 p.1.1))])
      (fun p => [(91, .own x 46 5 l.length (gOf Msg.cells p.1.2))]) (fun p => l.length - p.1.1) ?_ ?_)
    · refine slotAs 5 (.v (.int .i64 ((DfMsgK q l (k0 + 1)).length : Int))) rfl (Imp.of_eq (by rw [e1])) ?_
      exact fun a w h => ⟨⟨(k0 + 1, l), ⟨hk0, rfl, by rw [e1, e0], rfl⟩⟩, h.weakP (by (repeat' (first | exact True.intro | exact Imp.refl _ | refine ⟨?_, ?_⟩))) (by (repeat (first | exact Sub.refl _ | refine Sub.pick (by first | exact p0 | exact pS p0 | exact pS (pS p0) | exact pS (pS (pS p0)) | exact pS (pS (pS (pS p0))) | exact pS (pS (pS (pS (pS p0))))) ?_)))⟩
    rintro ⟨⟨j, M⟩, s⟩
    dsimp only at s ⊢
    have sle := s.le
    have sl := s.len
    have skl := DfMsgK_le q l j
    ((repeat refine S.seq ?_); refine S.region (L.go (T := tt) tt_ok rfl rfl ?sd14 ?_); (try (case sd14 => (repeat' (first | exact trivial | exact zA | with_reducible refine zI ?_ ?_ | exact zB | exact zC | exact zD | exact zE | rfl | exact zN rfl | omega | assumption | (simp; done) | (simp [splice]; done) | (simp; omega) | (unfold fits; omega) | (unfold fits; simp_all; omega) | (simp_all; omega) | (simp_all; done) | intro _)))); try (refine L.nil ?_))
    ((repeat refine S.seq ?_); refine S.cond rfl (fun h2 => ?_) (fun h2 => ?_) <;> (try first | refine S.skip ?_ | refine S.exit ?_))
    · have h2 : j < l.length := by
        have := of_dec h2
        omega
      have sat := s.at h2
      repeat refine S.seq ?_
      refine S.block ?_
      ((repeat refine S.seq ?_); refine S.region (L.go (T := tt) tt_ok rfl rfl ?sd15 ?_); (try (case sd15 => (repeat' (first | exact trivial | exact zA | with_reducible refine zI ?_ ?_ | exact zB | exact zC | exact zD | exact zE | rfl | exact zN rfl | omega | assumption | (simp; done) | (simp [splice]; done) | (simp; omega) | (unfold fits; omega) | (unfold fits; simp_all; omega) | (simp_all; omega) | (simp_all; done) | intro _)))); try (refine L.nil ?_))
      refine L.alloc (T := tt) 7 tt_ok rfl rfl rfl rfl rfl fun b7 => ?_
      (refine L.store (T := tt) tt_ok rfl rfl rfl rfl rfl rfl ?sd25 ?_; (try (case sd25 => (repeat' (first | exact trivial | exact zA | with_reducible refine zI ?_ ?_ | exact zB | exact zC | exact zD | exact zE | rfl | exact zN rfl | omega | assumption | (simp; done) | (simp [splice]; done) | (simp; omega) | (unfold fits; omega) | (unfold fits; simp_all; omega) | (simp_all; omega) | (simp_all; done) | intro _)))))
      refine L.nil ?_
      ((repeat refine S.seq ?_); refine S.region (L.go (T := tt) tt_ok rfl rfl ?sd16 ?_); (try (case sd16 => (repeat' (first | exact trivial | exact zA | with_reducible refine zI ?_ ?_ | exact zB | exact zC | exact zD | exact zE | rfl | exact zN rfl | omega | assumption | (simp; done) | (simp [splice]; done) | (simp; omega) | (unfold fits; omega) | (unfold fits; simp_all; omega) | (simp_all; omega) | (simp_all; done) | intro _)))); try (refine L.nil ?_))
      refine L.callP rfl rfl rfl rfl rfl rfl rfl ⟨trivial, by (repeat' (first | exact trivial | exact zA | with_reducible refine zI ?_ ?_ | exact zB | exact zC | exact zD | exact zE | rfl | exact zN rfl | omega | assumption | (simp; done) | (simp [splice]; done) | (simp; omega) | (unfold fits; omega) | (unfold fits; simp_all; omega) | (simp_all; omega) | (simp_all; done) | intro _))⟩ hf (Imps.refl (.agg (Msg.cells (M.getD j default)) :: caps)) (hp (M.getD j default) (by rw [sat, getD_get h2]; exact List.getElem_mem _)) ?_
      rw [sat]
      (refine L.go (T := tt) tt_ok rfl rfl ?sd21 ?_; (try (case sd21 => (repeat' (first | exact trivial | exact zA | with_reducible refine zI ?_ ?_ | exact zB | exact zC | exact zD | exact zE | rfl | exact zN rfl | omega | assumption | (simp; done) | (simp [splice]; done) | (simp; omega) | (unfold fits; omega) | (unfold fits; simp_all; omega) | (simp_all; omega) | (simp_all; done) | intro _)))); try (refine L.nil ?_))
      refine S.cut (ι := { p : List Msg // DfMsgS q l (j + 1) p }) (fun p => [(0, .ref 91 x), (1, .fn (.func fn) caps), (5, .v (.int .i64 ((DfMsgK q l (j + 1)).length : Int))), (6, .v (.int .i64 j))])
        (fun p => [(91, .own x 46 5 l.length (gOf Msg.cells p.1))]) ?_ ?_
      · ((repeat refine S.seq ?_); refine S.cond rfl (fun h3 => ?_) (fun h3 => ?_) <;> (try first | refine S.skip ?_ | refine S.exit ?_))
        · have hq : q (l.getD j default) = false := by simpa using h3
          obtain ⟨s1, s2⟩ := s.keep h2 hq
          ((repeat refine S.seq ?_); refine S.region (L.go (T := tt) tt_ok rfl rfl ?sd17 ?_); (try (case sd17 => (repeat' (first | exact trivial | exact zA | with_reducible refine zI ?_ ?_ | exact zB | exact zC | exact zD | exact zE | rfl | exact zN rfl | omega | assumption | (simp; done) | (simp [splice]; done) | (simp; omega) | (unfold fits; omega) | (unfold fits; simp_all; omega) | (simp_all; omega) | (simp_all; done) | intro _)))); try (refine L.nil ?_))
          (refine L.store (T := tt) tt_ok rfl rfl rfl rfl rfl rfl ?sd26 ?_; (try (case sd26 => (repeat' (first | exact trivial | exact zA | with_reducible refine zI ?_ ?_ | exact zB | exact zC | exact zD | exact zE | rfl | exact zN rfl | omega | assumption | (simp; done) | (simp [splice]; done) | (simp; omega) | (unfold fits; omega) | (unfold fits; simp_all; omega) | (simp_all; omega) | (simp_all; done) | intro _)))))
          refine L.nil ?_
          refine ownAs 91 (gOf Msg.cells (M.set (DfMsgK q l j).length (l.getD j default))) rfl rfl (fun i hil => ?_) ?_
          · show (if i = (DfMsgK q l j).length then Msg.cells (M.getD j default) else Msg.cells (M.getD i default)) = Msg.cells ((M.set (DfMsgK q l j).length (l.getD j default)).getD i default)
            rw [List.getD_eq_getElem?_getD (l := M.set _ _), List.getElem?_set]
            by_cases e : i = (DfMsgK q l j).length
            · rw [if_pos e, if_pos e.symm, if_pos (by omega), sat]; rfl
            · rw [if_neg e, if_neg (fun e' => e e'.symm), ← List.getD_eq_getElem?_getD]
          ((repeat refine S.seq ?_); refine S.region (L.go (T := tt) tt_ok rfl rfl ?sd18 ?_); (try (case sd18 => (repeat' (first | exact trivial | exact zA | with_reducible refine zI ?_ ?_ | exact zB | exact zC | exact zD | exact zE | rfl | exact zN rfl | omega | assumption | (simp; done) | (simp [splice]; done) | (simp; omega) | (unfold fits; omega) | (unfold fits; simp_all; omega) | (simp_all; omega) | (simp_all; done) | intro _)))); try (refine L.nil ?_))
          refine slotAs 5 (.v (.int .i64 ((DfMsgK q l (j + 1)).length : Int))) rfl (Imp.of_eq (by rw [s2]; rfl)) ?_
          exact fun a w hR => ⟨⟨_, s1⟩, hR.weakP (by (repeat' (first | exact True.intro | exact Imp.refl _ | refine ⟨?_, ?_⟩))) (by (repeat (first | exact Sub.refl _ | refine Sub.pick (by first | exact p0 | exact pS p0 | exact pS (pS p0) | exact pS (pS (pS p0)) | exact pS (pS (pS (pS p0))) | exact pS (pS (pS (pS (pS p0))))) ?_)))⟩
        · have hq : q (l.getD j default) = true := by simpa using h3
          obtain ⟨s1, s2⟩ := s.skip h2 hq
          refine slotAs 5 (.v (.int .i64 ((DfMsgK q l (j + 1)).length : Int))) rfl (Imp.of_eq (by rw [s2])) ?_
          exact fun a w hR => ⟨⟨_, s1⟩, hR.weakP (by (repeat' (first | exact True.intro | exact Imp.refl _ | refine ⟨?_, ?_⟩))) (by (repeat (first | exact Sub.refl _ | refine Sub.pick (by first | exact p0 | exact pS p0 | exact pS (pS p0) | exact pS (pS (pS p0)) | exact pS (pS (pS (pS p0))) | exact pS (pS (pS (pS (pS p0))))) ?_)))⟩
      rintro ⟨L2, s1⟩
      dsimp only
      ((repeat refine S.seq ?_); refine S.region (L.go (T := tt) tt_ok rfl rfl ?sd19 ?_); (try (case sd19 => (repeat' (first | exact trivial | exact zA | with_reducible refine zI ?_ ?_ | exact zB | exact zC | exact zD | exact zE | rfl | exact zN rfl | omega | assumption | (simp; done) | (simp [splice]; done) | (simp; omega) | (unfold fits; omega) | (unfold fits; simp_all; omega) | (simp_all; omega) | (simp_all; done) | intro _)))); try (refine L.nil ?_))
      exact fun a w hR => ⟨⟨(j + 1, L2), s1⟩, by show l.length - (j + 1) < l.length - j; omega, hR.weakP (by (repeat' (first | exact True.intro | exact Imp.refl _ | refine ⟨?_, ?_⟩))) (by (repeat (first | exact Sub.refl _ | refine Sub.pick (by first | exact p0 | exact pS p0 | exact pS (pS p0) | exact pS (pS (pS p0)) | exact pS (pS (pS (pS p0))) | exact pS (pS (pS (pS (pS p0))))) ?_)))⟩
    · have h2 := of_dec' h2
      have hj : j = l.length := by omega
      have hk : DfMsgK q l j = l.filter fun a => !q a := by unfold DfMsgK; rw [hj, List.take_length]
      repeat refine S.seq ?_
      refine S.region ?_
      (refine L.go (T := tt) tt_ok rfl rfl ?sd22 ?_; (try (case sd22 => (repeat' (first | exact trivial | exact zA | with_reducible refine zI ?_ ?_ | exact zB | exact zC | exact zD | exact zE | rfl | exact zN rfl | omega | assumption | (simp; done) | (simp [splice]; done) | (simp; omega) | (unfold fits; omega) | (unfold fits; simp_all; omega) | (simp_all; omega) | (simp_all; done) | intro _)))); try (refine L.nil ?_))
      refine L.clearTail (T := tt) tt_ok rfl rfl rfl rfl rfl rfl rfl rfl rfl (by (repeat' (first | exact trivial | exact zA | with_reducible refine zI ?_ ?_ | exact zB | exact zC | exact zD | exact zE | rfl | exact zN rfl | omega | assumption | (simp; done) | (simp [splice]; done) | (simp; omega) | (unfold fits; omega) | (unfold fits; simp_all; omega) | (simp_all; omega) | (simp_all; done) | intro _))) rfl rfl rfl rfl (by (repeat' (first | exact trivial | exact zA | with_reducible refine zI ?_ ?_ | exact zB | exact zC | exact zD | exact zE | rfl | exact zN rfl | omega | assumption | (simp; done) | (simp [splice]; done) | (simp; omega) | (unfold fits; omega) | (unfold fits; simp_all; omega) | (simp_all; omega) | (simp_all; done) | intro _))) ?_
      refine L.nil ?_
      repeat refine S.seq ?_
      refine S.region ?_
      (refine L.go (T := tt) tt_ok rfl rfl ?sd23 ?_; (try (case sd23 => (repeat' (first | exact trivial | exact zA | with_reducible refine zI ?_ ?_ | exact zB | exact zC | exact zD | exact zE | rfl | exact zN rfl | omega | assumption | (simp; done) | (simp [splice]; done) | (simp; omega) | (unfold fits; omega) | (unfold fits; simp_all; omega) | (simp_all; omega) | (simp_all; done) | intro _)))); try (refine L.nil ?_))
      refine L.sliceHead (T := tt) tt_ok rfl rfl rfl rfl rfl rfl rfl rfl rfl (by (repeat' (first | exact trivial | exact zA | with_reducible refine zI ?_ ?_ | exact zB | exact zC | exact zD | exact zE | rfl | exact zN rfl | omega | assumption | (simp; done) | (simp [splice]; done) | (simp; omega) | (unfold fits; omega) | (unfold fits; simp_all; omega) | (simp_all; omega) | (simp_all; done) | intro _))) ?_
      (refine L.go (T := tt) tt_ok rfl rfl ?sd24 ?_; (try (case sd24 => (repeat' (first | exact trivial | exact zA | with_reducible refine zI ?_ ?_ | exact zB | exact zC | exact zD | exact zE | rfl | exact zN rfl | omega | assumption | (simp; done) | (simp [splice]; done) | (simp; omega) | (unfold fits; omega) | (unfold fits; simp_all; omega) | (simp_all; omega) | (simp_all; done) | intro _)))); try (refine L.nil ?_))
      refine ownAs 91 (n' := (l.filter fun a => !q a).length) (gOf Msg.cells (l.filter fun a => !q a)) rfl (by rw [← hk]; rfl) (fun i hi => ?_) ?_
      · show (if i < (DfMsgK q l j).length then Msg.cells (M.getD i default) else _) = Msg.cells ((l.filter fun a => !q a).getD i default)
        have hi' : i < (DfMsgK q l j).length := hi
        have hpre := s.pre
        rw [if_pos hi', ← hk, List.getD_eq_getElem?_getD, List.getD_eq_getElem?_getD (l := DfMsgK q l j), ← congrArg (fun z => z[i]?) hpre]
        rw [List.getElem?_take, if_pos hi']
      ((repeat refine S.seq ?_); refine S.ret ?_)
      exact E.ret (T := tt) tt_ok rfl rfl (by (repeat' (first | exact trivial | exact zA | with_reducible refine zI ?_ ?_ | exact zB | exact zC | exact zD | exact zE | rfl | exact zN rfl | omega | assumption | (simp; done) | (simp [splice]; done) | (simp; omega) | (unfold fits; omega) | (unfold fits; simp_all; omega) | (simp_all; omega) | (simp_all; done) | intro _))) (F' := [(91, .own _ 46 5 (l.filter fun a => !q a).length (gOf Msg.cells (l.filter fun a => !q a)))]) (Imp.refl _) (by (repeat (first | exact List.nil_sublist _ | refine List.Sublist.cons_cons _ ?_ | refine List.Sublist.cons _ ?_))) ⟨_, rfl, rfl⟩

end Go.Proofs.Ytgnklbdbglnmaaa

/- slices.DeleteFunc of one's own slice. -/
namespace Go.Proofs.Ytgnklbdbglnmaaa
set_option linter.unusedVariables false
set_option linter.unusedSimpArgs false
set_option maxHeartbeats 8000000
open Go.RowKit
set_option maxRecDepth 4000

theorem DfMarkI (q : Mark → Bool) (l : List Mark) (x : Value) {fn : Nat} {caps : List AV} (hf : callable Try.prog fn = true) (hp : ∀ a ∈ l, PFn Try.prog fn (.agg (Mark.cells a) :: caps) (.v (.bool (q a)))) :
    FnC Try.prog 82 [.ref 93 x, .fn (.func fn) caps] [(93, .own x 82 3 l.length (gOf Mark.cells l))] (fun r F' => r = .v (.int .i64 (pidx (fun i => q (l.getD i default)) l.length)) ∧ F' = [(93, .own x 82 3 l.length (gOf Mark.cells l))]) := by
  refine FnC.intro Try.func82 rfl Try.ntmps82 rfl ?_; intro off w0
  refine lenOwn (x := x) (n := l.length) (g := gOf Mark.cells l) (sz := 3) 93 rfl fun hn => ?_
  ((repeat refine S.seq ?_); refine S.region (L.go (T := tt) tt_ok rfl rfl ?sd27 ?_); (try (case sd27 => (repeat' (first | exact trivial | exact zA | with_reducible refine zI ?_ ?_ | exact zB | exact zC | exact zD | exact zE | rfl | exact zN rfl | omega | assumption | (simp; done) | (simp [splice]; done) | (simp; omega) | (unfold fits; omega) | (unfold fits; simp_all; omega) | (simp_all; omega) | (simp_all; done) | intro _)))); try (refine L.nil ?_))
  ((repeat refine S.seq ?_); refine S.region (L.go (T := tt) tt_ok rfl rfl ?sd28 ?_); (try (case sd28 => (repeat' (first | exact trivial | exact zA | with_reducible refine zI ?_ ?_ | exact zB | exact zC | exact zD | exact zE | rfl | exact zN rfl | omega | assumption | (simp; done) | (simp [splice]; done) | (simp; omega) | (unfold fits; omega) | (unfold fits; simp_all; omega) | (simp_all; omega) | (simp_all; done) | intro _)))); try (refine L.nil ?_))
  repeat refine S.seq ?_
  refine S.block (S.loop (ι := { k : Nat // k ≤ l.length ∧ ∀ j, j < k → q (l.getD j default) = false }) (fun k => [(0, .ref 93 x), (1, .fn (.func fn) caps), (7, .v (.int .i64 l.length)), (8, .v (.int .i64 k.1))])
    (fun k => [(93, .own x 82 3 l.length (gOf Mark.cells l))]) (fun k => l.length - k.1) ?_ ?_)
  · refine fun a w h => ⟨⟨0, Nat.zero_le _, ?_⟩, h.weak (by (repeat' (first | exact True.intro | exact Imp.refl _ | refine ⟨?_, ?_⟩))) (by (repeat (first | exact List.nil_sublist _ | refine List.Sublist.cons_cons _ ?_ | refine List.Sublist.cons _ ?_)))⟩
    exact fun j hj => absurd hj (by omega)
  rintro ⟨k, hk, ik⟩
  dsimp only
  ((repeat refine S.seq ?_); refine S.region (L.go (T := tt) tt_ok rfl rfl ?sd29 ?_); (try (case sd29 => (repeat' (first | exact trivial | exact zA | with_reducible refine zI ?_ ?_ | exact zB | exact zC | exact zD | exact zE | rfl | exact zN rfl | omega | assumption | (simp; done) | (simp [splice]; done) | (simp; omega) | (unfold fits; omega) | (unfold fits; simp_all; omega) | (simp_all; omega) | (simp_all; done) | intro _)))); try (refine L.nil ?_))
  ((repeat refine S.seq ?_); refine S.cond rfl (fun h1 => ?_) (fun h1 => ?_) <;> (try first | refine S.skip ?_ | refine S.exit ?_))
  · have h1 := of_dec h1
    repeat refine S.seq ?_
    refine S.block ?_
    ((repeat refine S.seq ?_); refine S.region (L.go (T := tt) tt_ok rfl rfl ?sd30 ?_); (try (case sd30 => (repeat' (first | exact trivial | exact zA | with_reducible refine zI ?_ ?_ | exact zB | exact zC | exact zD | exact zE | rfl | exact zN rfl | omega | assumption | (simp; done) | (simp [splice]; done) | (simp; omega) | (unfold fits; omega) | (unfold fits; simp_all; omega) | (simp_all; omega) | (simp_all; done) | intro _)))); try (refine L.nil ?_))
    ((repeat refine S.seq ?_); refine S.region (L.go (T := tt) tt_ok rfl rfl ?sd31 ?_); (try (case sd31 => (repeat' (first | exact trivial | exact zA | with_reducible refine zI ?_ ?_ | exact zB | exact zC | exact zD | exact zE | rfl | exact zN rfl | omega | assumption | (simp; done) | (simp [splice]; done) | (simp; omega) | (unfold fits; omega) | (unfold fits; simp_all; omega) | (simp_all; omega) | (simp_all; done) | intro _)))); try (refine L.nil ?_))
    refine L.callP rfl rfl rfl rfl rfl rfl rfl ⟨trivial, by (repeat' (first | exact trivial | exact zA | with_reducible refine zI ?_ ?_ | exact zB | exact zC | exact zD | exact zE | rfl | exact zN rfl | omega | assumption | (simp; done) | (simp [splice]; done) | (simp; omega) | (unfold fits; omega) | (unfold fits; simp_all; omega) | (simp_all; omega) | (simp_all; done) | intro _))⟩ hf (Imps.refl (.agg (Mark.cells (l.getD k default)) :: caps)) (hp (l.getD k default) (by rw [getD_get (by omega)]; exact List.getElem_mem _)) (L.nil ?_)
    ((repeat refine S.seq ?_); refine S.cond rfl (fun h2 => ?_) (fun h2 => ?_) <;> (try first | refine S.skip ?_ | refine S.exit ?_))
    · skip
      ((repeat refine S.seq ?_); refine S.region (L.go (T := tt) tt_ok rfl rfl ?sd32 ?_); (try (case sd32 => (repeat' (first | exact trivial | exact zA | with_reducible refine zI ?_ ?_ | exact zB | exact zC | exact zD | exact zE | rfl | exact zN rfl | omega | assumption | (simp; done) | (simp [splice]; done) | (simp; omega) | (unfold fits; omega) | (unfold fits; simp_all; omega) | (simp_all; omega) | (simp_all; done) | intro _)))); try (refine L.nil ?_))
      ((repeat refine S.seq ?_); refine S.ret ?_)
      rw [pidx_some (by omega) h2 ik]
      exact E.ret (T := tt) tt_ok rfl rfl (by (repeat' (first | exact trivial | exact zA | with_reducible refine zI ?_ ?_ | exact zB | exact zC | exact zD | exact zE | rfl | exact zN rfl | omega | assumption | (simp; done) | (simp [splice]; done) | (simp; omega) | (unfold fits; omega) | (unfold fits; simp_all; omega) | (simp_all; omega) | (simp_all; done) | intro _))) (F' := [(93, .own x 82 3 l.length (gOf Mark.cells l))]) (Imp.refl _) (by (repeat (first | exact List.nil_sublist _ | refine List.Sublist.cons_cons _ ?_ | refine List.Sublist.cons _ ?_))) ⟨rfl, rfl⟩
    ((repeat refine S.seq ?_); refine S.region (L.go (T := tt) tt_ok rfl rfl ?sd33 ?_); (try (case sd33 => (repeat' (first | exact trivial | exact zA | with_reducible refine zI ?_ ?_ | exact zB | exact zC | exact zD | exact zE | rfl | exact zN rfl | omega | assumption | (simp; done) | (simp [splice]; done) | (simp; omega) | (unfold fits; omega) | (unfold fits; simp_all; omega) | (simp_all; omega) | (simp_all; done) | intro _)))); try (refine L.nil ?_))
    refine fun a w hR => ⟨⟨k + 1, by omega, ?_⟩, by simp only; omega, hR.weak (by (repeat' (first | exact True.intro | exact Imp.refl _ | refine ⟨?_, ?_⟩))) (by (repeat (first | exact List.nil_sublist _ | refine List.Sublist.cons_cons _ ?_ | refine List.Sublist.cons _ ?_)))⟩
    exact upto_succ ik h2
  · have h1 := of_dec' h1
    ((repeat refine S.seq ?_); refine S.region (L.go (T := tt) tt_ok rfl rfl ?sd34 ?_); (try (case sd34 => (repeat' (first | exact trivial | exact zA | with_reducible refine zI ?_ ?_ | exact zB | exact zC | exact zD | exact zE | rfl | exact zN rfl | omega | assumption | (simp; done) | (simp [splice]; done) | (simp; omega) | (unfold fits; omega) | (unfold fits; simp_all; omega) | (simp_all; omega) | (simp_all; done) | intro _)))); try (refine L.nil ?_))
    ((repeat refine S.seq ?_); refine S.ret ?_)
    rw [pidx_none fun j hj => ik j (by omega)]
    exact E.ret (T := tt) tt_ok rfl rfl (by (repeat' (first | exact trivial | exact zA | with_reducible refine zI ?_ ?_ | exact zB | exact zC | exact zD | exact zE | rfl | exact zN rfl | omega | assumption | (simp; done) | (simp [splice]; done) | (simp; omega) | (unfold fits; omega) | (unfold fits; simp_all; omega) | (simp_all; omega) | (simp_all; done) | intro _))) (F' := [(93, .own x 82 3 l.length (gOf Mark.cells l))]) (Imp.refl _) (by (repeat (first | exact List.nil_sublist _ | refine List.Sublist.cons_cons _ ?_ | refine List.Sublist.cons _ ?_))) ⟨rfl, rfl⟩

/-- What is kept of so many. -/
def DfMarkK (q : Mark → Bool) (l : List Mark) (j : Nat) : List Mark := (l.take j).filter fun a => !q a
structure DfMarkS (q : Mark → Bool) (l : List Mark) (j : Nat) (M : List Mark) : Prop where
  le : j ≤ l.length
  len : M.length = l.length
  pre : M.take (DfMarkK q l j).length = DfMarkK q l j
  post : M.drop j = l.drop j
theorem DfMarkK_le (q : Mark → Bool) (l : List Mark) (j : Nat) : (DfMarkK q l j).length ≤ j := Nat.le_trans (List.length_filter_le _ _) (by rw [List.length_take]; omega)
theorem DfMarkK_succ (q : Mark → Bool) (l : List Mark) {j : Nat} (h : j < l.length) : DfMarkK q l (j + 1) = DfMarkK q l j ++ if q (l.getD j default) then [] else [l.getD j default] := by
  unfold DfMarkK
  rw [List.take_succ_eq_append_getElem h, List.filter_append, getD_get h]
  congr 1
  cases hq : q l[j] <;> simp [hq]
theorem DfMarkS.at {q : Mark → Bool} {l M : List Mark} {j : Nat} (s : DfMarkS q l j M) (h : j < l.length) : M.getD j default = l.getD j default := by
  have e : (M.drop j)[0]? = (l.drop j)[0]? := by rw [s.post]
  rw [List.getElem?_drop, List.getElem?_drop] at e
  rw [List.getD_eq_getElem?_getD, List.getD_eq_getElem?_getD]
  simpa using congrArg (fun o => o.getD default) e
theorem DfMarkS.skip {q : Mark → Bool} {l M : List Mark} {j : Nat} (s : DfMarkS q l j M) (h : j < l.length) (hq : q (l.getD j default) = true) : DfMarkS q l (j + 1) M ∧ (DfMarkK q l (j + 1)).length = (DfMarkK q l j).length := by
  have e : DfMarkK q l (j + 1) = DfMarkK q l j := by rw [DfMarkK_succ q l h, if_pos hq, List.append_nil]
  refine ⟨⟨h, s.len, by rw [e]; exact s.pre, ?_⟩, by rw [e]⟩
  rw [← List.drop_drop, s.post, List.drop_drop]
theorem DfMarkS.keep {q : Mark → Bool} {l M : List Mark} {j : Nat} (s : DfMarkS q l j M) (h : j < l.length) (hq : q (l.getD j default) = false) : DfMarkS q l (j + 1) (M.set (DfMarkK q l j).length (l.getD j default)) ∧ (DfMarkK q l (j + 1)).length = (DfMarkK q l j).length + 1 := by
  have hle := DfMarkK_le q l j
  have e : DfMarkK q l (j + 1) = DfMarkK q l j ++ [l.getD j default] := by rw [DfMarkK_succ q l h, if_neg (by rw [hq]; decide)]
  have el : (DfMarkK q l (j + 1)).length = (DfMarkK q l j).length + 1 := by rw [e]; simp
  refine ⟨⟨h, by rw [List.length_set, s.len], ?_, ?_⟩, el⟩
  · rw [el, List.take_succ_eq_append_getElem (by rw [List.length_set, s.len]; omega), List.take_set_of_le (Nat.le_refl _), s.pre, e]
    simp
  · rw [List.drop_set_of_lt (by omega), ← List.drop_drop, s.post, List.drop_drop]

theorem DfMark (q : Mark → Bool) (l : List Mark) (x : Value) {fn : Nat} {caps : List AV} (hf : callable Try.prog fn = true) (hp : ∀ a ∈ l, PFn Try.prog fn (.agg (Mark.cells a) :: caps) (.v (.bool (q a)))) :
    FnC Try.prog 70 [.ref 93 x, .fn (.func fn) caps] [(93, .own x 82 3 l.length (gOf Mark.cells l))]
      (fun r F' => ∃ y, r = .ref 93 y ∧ F' = [(93, .own y 82 3 (l.filter fun a => !q a).length (gOf Mark.cells (l.filter fun a => !q a)))]) := by
  refine FnC.intro Try.func70 rfl Try.ntmps70 rfl ?_; intro off w0
  refine lenOwn (x := x) (n := l.length) (g := gOf Mark.cells l) (sz := 3) 93 rfl fun hn => ?_
  ((repeat refine S.seq ?_); refine S.region (L.go (T := tt) tt_ok rfl rfl ?sd35 ?_); (try (case sd35 => (repeat' (first | exact trivial | exact zA | with_reducible refine zI ?_ ?_ | exact zB | exact zC | exact zD | exact zE | rfl | exact zN rfl | omega | assumption | (simp; done) | (simp [splice]; done) | (simp; omega) | (unfold fits; omega) | (unfold fits; simp_all; omega) | (simp_all; omega) | (simp_all; done) | intro _)))); try (refine L.nil ?_))
  ((repeat refine S.seq ?_); refine S.region (L.go (T := tt) tt_ok rfl rfl ?sd36 ?_); (try (case sd36 => (repeat' (first | exact trivial | exact zA | with_reducible refine zI ?_ ?_ | exact zB | exact zC | exact zD | exact zE | rfl | exact zN rfl | omega | assumption | (simp; done) | (simp [splice]; done) | (simp; omega) | (unfold fits; omega) | (unfold fits; simp_all; omega) | (simp_all; omega) | (simp_all; done) | intro _)))); try (refine L.nil ?_))
  refine L.call (G := [(93, .own x 82 3 l.length (gOf Mark.cells l))]) (H := []) rfl rfl rfl rfl rfl rfl rfl ⟨trivial, by (repeat' (first | exact trivial | exact zA | with_reducible refine zI ?_ ?_ | exact zB | exact zC | exact zD | exact zE | rfl | exact zN rfl | omega | assumption | (simp; done) | (simp [splice]; done) | (simp; omega) | (unfold fits; omega) | (unfold fits; simp_all; omega) | (simp_all; omega) | (simp_all; done) | intro _))⟩ rfl (Imps.refl _) (List.Perm.refl _) (DfMarkI q l x hf hp) ?_
  rintro r F' ⟨rfl, rfl⟩
  (refine L.go (T := tt) tt_ok rfl rfl ?sd46 ?_; (try (case sd46 => (repeat' (first | exact trivial | exact zA | with_reducible refine zI ?_ ?_ | exact zB | exact zC | exact zD | exact zE | rfl | exact zN rfl | omega | assumption | (simp; done) | (simp [splice]; done) | (simp; omega) | (unfold fits; omega) | (unfold fits; simp_all; omega) | (simp_all; omega) | (simp_all; done) | intro _)))); try (refine L.nil ?_))
  ((repeat refine S.seq ?_); refine S.region (L.go (T := tt) tt_ok rfl rfl ?sd37 ?_); (try (case sd37 => (repeat' (first | exact trivial | exact zA | with_reducible refine zI ?_ ?_ | exact zB | exact zC | exact zD | exact zE | rfl | exact zN rfl | omega | assumption | (simp; done) | (simp [splice]; done) | (simp; omega) | (unfold fits; omega) | (unfold fits; simp_all; omega) | (simp_all; omega) | (simp_all; done) | intro _)))); try (refine L.nil ?_))
  rcases pidx_cases (fun i => q (l.getD i default)) l.length with ⟨hi, hno⟩ | ⟨k0, hk0, hq0, hno, hi⟩
  · rw [hi]
    ((repeat refine S.seq ?_); refine S.cond rfl (fun h1 => ?_) (fun h1 => ?_) <;> (try first | refine S.skip ?_ | refine S.exit ?_))
    · skip
      ((repeat refine S.seq ?_); refine S.region (L.go (T := tt) tt_ok rfl rfl ?sd38 ?_); (try (case sd38 => (repeat' (first | exact trivial | exact zA | with_reducible refine zI ?_ ?_ | exact zB | exact zC | exact zD | exact zE | rfl | exact zN rfl | omega | assumption | (simp; done) | (simp [splice]; done) | (simp; omega) | (unfold fits; omega) | (unfold fits; simp_all; omega) | (simp_all; omega) | (simp_all; done) | intro _)))); try (refine L.nil ?_))
      have e : (l.filter fun a => !q a) = l := List.filter_eq_self.2 fun a ha => by
        obtain ⟨i, hil, rfl⟩ := List.getElem_of_mem ha
        have := hno i hil
        rw [getD_get hil] at this
        simp [this]
      ((repeat refine S.seq ?_); refine S.ret ?_)
      exact E.ret (T := tt) tt_ok rfl rfl (by (repeat' (first | exact trivial | exact zA | with_reducible refine zI ?_ ?_ | exact zB | exact zC | exact zD | exact zE | rfl | exact zN rfl | omega | assumption | (simp; done) | (simp [splice]; done) | (simp; omega) | (unfold fits; omega) | (unfold fits; simp_all; omega) | (simp_all; omega) | (simp_all; done) | intro _))) (F' := [(93, .own x 82 3 l.length (gOf Mark.cells l))]) (Imp.refl _) (by (repeat (first | exact List.nil_sublist _ | refine List.Sublist.cons_cons _ ?_ | refine List.Sublist.cons _ ?_))) ⟨x, rfl, by rw [e]⟩
    · exact absurd h1 (by decide)
  · rw [hi]
    ((repeat refine S.seq ?_); refine S.cond rfl (fun h1 => ?_) (fun h1 => ?_) <;> (try first | refine S.skip ?_ | refine S.exit ?_))
    · exfalso
      simp at h1
    ((repeat refine S.seq ?_); refine S.region (L.go (T := tt) tt_ok rfl rfl ?sd39 ?_); (try (case sd39 => (repeat' (first | exact trivial | exact zA | with_reducible refine zI ?_ ?_ | exact zB | exact zC | exact zD | exact zE | rfl | exact zN rfl | omega | assumption | (simp; done) | (simp [splice]; done) | (simp; omega) | (unfold fits; omega) | (unfold fits; simp_all; omega) | (simp_all; omega) | (simp_all; done) | intro _)))); try (refine L.nil ?_))
    have e0 : (DfMarkK q l (k0 + 1)) = l.take k0 := by
      rw [DfMarkK_succ q l hk0, if_pos hq0, List.append_nil]
      unfold DfMarkK
      exact List.filter_eq_self.2 fun a ha => by
        obtain ⟨i, hil, h2, rfl⟩ := mem_take ha
        have := hno i h2
        rw [getD_get hil] at this
        simp [this]
    have e1 : (DfMarkK q l (k0 + 1)).length = k0 := by rw [e0, List.length_take]; omega
    repeat refine S.seq ?_
    refine S.block (S.loop (ι := { p : Nat × List Mark // DfMarkS q l p.1 p.2 }) (fun p => [(0, .ref 93 x), (1, .fn (.func fn) caps), (5, .v (.int .i64 ((DfMarkK q l p.1.1).length : Int))), (6, .v (.int .i64 p.1.1))])
      (fun p => [(93, .own x 82 3 l.length (gOf Mark.cells p.1.2))]) (fun p => l.length - p.1.1) ?_ ?_)
    · refine slotAs 5 (.v (.int .i64 ((DfMarkK q l (k0 + 1)).length : Int))) rfl (Imp.of_eq (by rw [e1])) ?_
      exact fun a w h => ⟨⟨(k0 + 1, l), ⟨hk0, rfl, by rw [e1, e0], rfl⟩⟩, h.weakP (by (repeat' (first | exact True.intro | exact Imp.refl _ | refine ⟨?_, ?_⟩))) (by (repeat (first | exact Sub.refl _ | refine Sub.pick (by first | exact p0 | exact pS p0 | exact pS (pS p0) | exact pS (pS (pS p0)) | exact pS (pS (pS (pS p0))) | exact pS (pS (pS (pS (pS p0))))) ?_)))⟩
    rintro ⟨⟨j, M⟩, s⟩
    dsimp only at s ⊢
    have sle := s.le
    have sl := s.len
    have skl := DfMarkK_le q l j
    ((repeat refine S.seq ?_); refine S.region (L.go (T := tt) tt_ok rfl rfl ?sd40 ?_); (try (case sd40 => (repeat' (first | exact trivial | exact zA | with_reducible refine zI ?_ ?_ | exact zB | exact zC | exact zD | exact zE | rfl | exact zN rfl | omega | assumption | (simp; done) | (simp [splice]; done) | (simp; omega) | (unfold fits; omega) | (unfold fits; simp_all; omega) | (simp_all; omega) | (simp_all; done) | intro _)))); try (refine L.nil ?_))
    ((repeat refine S.seq ?_); refine S.cond rfl (fun h2 => ?_) (fun h2 => ?_) <;> (try first | refine S.skip ?_ | refine S.exit ?_))
    · have h2 : j < l.length := by
        have := of_dec h2
        omega
      have sat := s.at h2
      repeat refine S.seq ?_
      refine S.block ?_
      ((repeat refine S.seq ?_); refine S.region (L.go (T := tt) tt_ok rfl rfl ?sd41 ?_); (try (case sd41 => (repeat' (first | exact trivial | exact zA | with_reducible refine zI ?_ ?_ | exact zB | exact zC | exact zD | exact zE | rfl | exact zN rfl | omega | assumption | (simp; done) | (simp [splice]; done) | (simp; omega) | (unfold fits; omega) | (unfold fits; simp_all; omega) | (simp_all; omega) | (simp_all; done) | intro _)))); try (refine L.nil ?_))
      refine L.alloc (T := tt) 7 tt_ok rfl rfl rfl rfl rfl fun b7 => ?_
      (refine L.store (T := tt) tt_ok rfl rfl rfl rfl rfl rfl ?sd51 ?_; (try (case sd51 => (repeat' (first | exact trivial | exact zA | with_reducible refine zI ?_ ?_ | exact zB | exact zC | exact zD | exact zE | rfl | exact zN rfl | omega | assumption | (simp; done) | (simp [splice]; done) | (simp; omega) | (unfold fits; omega) | (unfold fits; simp_all; omega) | (simp_all; omega) | (simp_all; done) | intro _)))))
      refine L.nil ?_
      ((repeat refine S.seq ?_); refine S.region (L.go (T := tt) tt_ok rfl rfl ?sd42 ?_); (try (case sd42 => (repeat' (first | exact trivial | exact zA | with_reducible refine zI ?_ ?_ | exact zB | exact zC | exact zD | exact zE | rfl | exact zN rfl | omega | assumption | (simp; done) | (simp [splice]; done) | (simp; omega) | (unfold fits; omega) | (unfold fits; simp_all; omega) | (simp_all; omega) | (simp_all; done) | intro _)))); try (refine L.nil ?_))
      refine L.callP rfl rfl rfl rfl rfl rfl rfl ⟨trivial, by (repeat' (first | exact trivial | exact zA | with_reducible refine zI ?_ ?_ | exact zB | exact zC | exact zD | exact zE | rfl | exact zN rfl | omega | assumption | (simp; done) | (simp [splice]; done) | (simp; omega) | (unfold fits; omega) | (unfold fits; simp_all; omega) | (simp_all; omega) | (simp_all; done) | intro _))⟩ hf (Imps.refl (.agg (Mark.cells (M.getD j default)) :: caps)) (hp (M.getD j default) (by rw [sat, getD_get h2]; exact List.getElem_mem _)) ?_
      rw [sat]
      (refine L.go (T := tt) tt_ok rfl rfl ?sd47 ?_; (try (case sd47 => (repeat' (first | exact trivial | exact zA | with_reducible refine zI ?_ ?_ | exact zB | exact zC | exact zD | exact zE | rfl | exact zN rfl | omega | assumption | (simp; done) | (simp [splice]; done) | (simp; omega) | (unfold fits; omega) | (unfold fits; simp_all; omega) | (simp_all; omega) | (simp_all; done) | intro _)))); try (refine L.nil ?_))
      refine S.cut (ι := { p : List Mark // DfMarkS q l (j + 1) p }) (fun p => [(0, .ref 93 x), (1, .fn (.func fn) caps), (5, .v (.int .i64 ((DfMarkK q l (j + 1)).length : Int))), (6, .v (.int .i64 j))])
        (fun p => [(93, .own x 82 3 l.length (gOf Mark.cells p.1))]) ?_ ?_
      · ((repeat refine S.seq ?_); refine S.cond rfl (fun h3 => ?_) (fun h3 => ?_) <;> (try first | refine S.skip ?_ | refine S.exit ?_))
        · have hq : q (l.getD j default) = false := by simpa using h3
          obtain ⟨s1, s2⟩ := s.keep h2 hq
          ((repeat refine S.seq ?_); refine S.region (L.go (T := tt) tt_ok rfl rfl ?sd43 ?_); (try (case sd43 => (repeat' (first | exact trivial | exact zA | with_reducible refine zI ?_ ?_ | exact zB | exact zC | exact zD | exact zE | rfl | exact zN rfl | omega | assumption | (simp; done) | (simp [splice]; done) | (simp; omega) | (unfold fits; omega) | (unfold fits; simp_all; omega) | (simp_all; omega) | (simp_all; done) | intro _)))); try (refine L.nil ?_))
          (refine L.store (T := tt) tt_ok rfl rfl rfl rfl rfl rfl ?sd52 ?_; (try (case sd52 => (repeat' (first | exact trivial | exact zA | with_reducible refine zI ?_ ?_ | exact zB | exact zC | exact zD | exact zE | rfl | exact zN rfl | omega | assumption | (simp; done) | (simp [splice]; done) | (simp; omega) | (unfold fits; omega) | (unfold fits; simp_all; omega) | (simp_all; omega) | (simp_all; done) | intro _)))))
          refine L.nil ?_
          refine ownAs 93 (gOf Mark.cells (M.set (DfMarkK q l j).length (l.getD j default))) rfl rfl (fun i hil => ?_) ?_
          · show (if i = (DfMarkK q l j).length then Mark.cells (M.getD j default) else Mark.cells (M.getD i default)) = Mark.cells ((M.set (DfMarkK q l j).length (l.getD j default)).getD i default)
            rw [List.getD_eq_getElem?_getD (l := M.set _ _), List.getElem?_set]
            by_cases e : i = (DfMarkK q l j).length
            · rw [if_pos e, if_pos e.symm, if_pos (by omega), sat]; rfl
            · rw [if_neg e, if_neg (fun e' => e e'.symm), ← List.getD_eq_getElem?_getD]
          ((repeat refine S.seq ?_); refine S.region (L.go (T := tt) tt_ok rfl rfl ?sd44 ?_); (try (case sd44 => (repeat' (first | exact trivial | exact zA | with_reducible refine zI ?_ ?_ | exact zB | exact zC | exact zD | exact zE | rfl | exact zN rfl | omega | assumption | (simp; done) | (simp [splice]; done) | (simp; omega) | (unfold fits; omega) | (unfold fits; simp_all; omega) | (simp_all; omega) | (simp_all; done) | intro _)))); try (refine L.nil ?_))
          refine slotAs 5 (.v (.int .i64 ((DfMarkK q l (j + 1)).length : Int))) rfl (Imp.of_eq (by rw [s2]; rfl)) ?_
          exact fun a w hR => ⟨⟨_, s1⟩, hR.weakP (by (repeat' (first | exact True.intro | exact Imp.refl _ | refine ⟨?_, ?_⟩))) (by (repeat (first | exact Sub.refl _ | refine Sub.pick (by first | exact p0 | exact pS p0 | exact pS (pS p0) | exact pS (pS (pS p0)) | exact pS (pS (pS (pS p0))) | exact pS (pS (pS (pS (pS p0))))) ?_)))⟩
        · have hq : q (l.getD j default) = true := by simpa using h3
          obtain ⟨s1, s2⟩ := s.skip h2 hq
          refine slotAs 5 (.v (.int .i64 ((DfMarkK q l (j + 1)).length : Int))) rfl (Imp.of_eq (by rw [s2])) ?_
          exact fun a w hR => ⟨⟨_, s1⟩, hR.weakP (by (repeat' (first | exact True.intro | exact Imp.refl _ | refine ⟨?_, ?_⟩))) (by (repeat (first | exact Sub.refl _ | refine Sub.pick (by first | exact p0 | exact pS p0 | exact pS (pS p0) | exact pS (pS (pS p0)) | exact pS (pS (pS (pS p0))) | exact pS (pS (pS (pS (pS p0))))) ?_)))⟩
      rintro ⟨L2, s1⟩
      dsimp only
      ((repeat refine S.seq ?_); refine S.region (L.go (T := tt) tt_ok rfl rfl ?sd45 ?_); (try (case sd45 => (repeat' (first | exact trivial | exact zA | with_reducible refine zI ?_ ?_ | exact zB | exact zC | exact zD | exact zE | rfl | exact zN rfl | omega | assumption | (simp; done) | (simp [splice]; done) | (simp; omega) | (unfold fits; omega) | (unfold fits; simp_all; omega) | (simp_all; omega) | (simp_all; done) | intro _)))); try (refine L.nil ?_))
      exact fun a w hR => ⟨⟨(j + 1, L2), s1⟩, by show l.length - (j + 1) < l.length - j; omega, hR.weakP (by (repeat' (first | exact True.intro | exact Imp.refl _ | refine ⟨?_, ?_⟩))) (by (repeat (first | exact Sub.refl _ | refine Sub.pick (by first | exact p0 | exact pS p0 | exact pS (pS p0) | exact pS (pS (pS p0)) | exact pS (pS (pS (pS p0))) | exact pS (pS (pS (pS (pS p0))))) ?_)))⟩
    · have h2 := of_dec' h2
      have hj : j = l.length := by omega
      have hk : DfMarkK q l j = l.filter fun a => !q a := by unfold DfMarkK; rw [hj, List.take_length]
      repeat refine S.seq ?_
      refine S.region ?_
      (refine L.go (T := tt) tt_ok rfl rfl ?sd48 ?_; (try (case sd48 => (repeat' (first | exact trivial | exact zA | with_reducible refine zI ?_ ?_ | exact zB | exact zC | exact zD | exact zE | rfl | exact zN rfl | omega | assumption | (simp; done) | (simp [splice]; done) | (simp; omega) | (unfold fits; omega) | (unfold fits; simp_all; omega) | (simp_all; omega) | (simp_all; done) | intro _)))); try (refine L.nil ?_))
      refine L.clearTail (T := tt) tt_ok rfl rfl rfl rfl rfl rfl rfl rfl rfl (by (repeat' (first | exact trivial | exact zA | with_reducible refine zI ?_ ?_ | exact zB | exact zC | exact zD | exact zE | rfl | exact zN rfl | omega | assumption | (simp; done) | (simp [splice]; done) | (simp; omega) | (unfold fits; omega) | (unfold fits; simp_all; omega) | (simp_all; omega) | (simp_all; done) | intro _))) rfl rfl rfl rfl (by (repeat' (first | exact trivial | exact zA | with_reducible refine zI ?_ ?_ | exact zB | exact zC | exact zD | exact zE | rfl | exact zN rfl | omega | assumption | (simp; done) | (simp [splice]; done) | (simp; omega) | (unfold fits; omega) | (unfold fits; simp_all; omega) | (simp_all; omega) | (simp_all; done) | intro _))) ?_
      refine L.nil ?_
      repeat refine S.seq ?_
      refine S.region ?_
      (refine L.go (T := tt) tt_ok rfl rfl ?sd49 ?_; (try (case sd49 => (repeat' (first | exact trivial | exact zA | with_reducible refine zI ?_ ?_ | exact zB | exact zC | exact zD | exact zE | rfl | exact zN rfl | omega | assumption | (simp; done) | (simp [splice]; done) | (simp; omega) | (unfold fits; omega) | (unfold fits; simp_all; omega) | (simp_all; omega) | (simp_all; done) | intro _)))); try (refine L.nil ?_))
      refine L.sliceHead (T := tt) tt_ok rfl rfl rfl rfl rfl rfl rfl rfl rfl (by (repeat' (first | exact trivial | exact zA | with_reducible refine zI ?_ ?_ | exact zB | exact zC | exact zD | exact zE | rfl | exact zN rfl | omega | assumption | (simp; done) | (simp [splice]; done) | (simp; omega) | (unfold fits; omega) | (unfold fits; simp_all; omega) | (simp_all; omega) | (simp_all; done) | intro _))) ?_
      (refine L.go (T := tt) tt_ok rfl rfl ?sd50 ?_; (try (case sd50 => (repeat' (first | exact trivial | exact zA | with_reducible refine zI ?_ ?_ | exact zB | exact zC | exact zD | exact zE | rfl | exact zN rfl | omega | assumption | (simp; done) | (simp [splice]; done) | (simp; omega) | (unfold fits; omega) | (unfold fits; simp_all; omega) | (simp_all; omega) | (simp_all; done) | intro _)))); try (refine L.nil ?_))
      refine ownAs 93 (n' := (l.filter fun a => !q a).length) (gOf Mark.cells (l.filter fun a => !q a)) rfl (by rw [← hk]; rfl) (fun i hi => ?_) ?_
      · show (if i < (DfMarkK q l j).length then Mark.cells (M.getD i default) else _) = Mark.cells ((l.filter fun a => !q a).getD i default)
        have hi' : i < (DfMarkK q l j).length := hi
        have hpre := s.pre
        rw [if_pos hi', ← hk, List.getD_eq_getElem?_getD, List.getD_eq_getElem?_getD (l := DfMarkK q l j), ← congrArg (fun z => z[i]?) hpre]
        rw [List.getElem?_take, if_pos hi']
      ((repeat refine S.seq ?_); refine S.ret ?_)
      exact E.ret (T := tt) tt_ok rfl rfl (by (repeat' (first | exact trivial | exact zA | with_reducible refine zI ?_ ?_ | exact zB | exact zC | exact zD | exact zE | rfl | exact zN rfl | omega | assumption | (simp; done) | (simp [splice]; done) | (simp; omega) | (unfold fits; omega) | (unfold fits; simp_all; omega) | (simp_all; omega) | (simp_all; done) | intro _))) (F' := [(93, .own _ 82 3 (l.filter fun a => !q a).length (gOf Mark.cells (l.filter fun a => !q a)))]) (Imp.refl _) (by (repeat (first | exact List.nil_sublist _ | refine List.Sublist.cons_cons _ ?_ | refine List.Sublist.cons _ ?_))) ⟨_, rfl, rfl⟩

end Go.Proofs.Ytgnklbdbglnmaaa

/- What one shard's arcs have of a shard. -/
namespace Go.Proofs.Ytgnklbdbglnmaaa
set_option linter.unusedVariables false
set_option linter.unusedSimpArgs false
set_option maxHeartbeats 8000000
open Go.RowKit
set_option maxRecDepth 4000

/-- A key that is another shard's. -/
def partQ (l : List Arc) (k : Int) (key : ByteArray) : Bool := ownerA l (ofP key) != k
def partE (s : Shard) (l : List Arc) : Int := if (!mayShard s || !mayA l) = true then 1 else if (!s.frozen || decide ((s.held.length : Int) > 0)) = true then 7 else 0
def partS (s : Shard) (l : List Arc) (k : Int) : Shard := { s with frozen := false, ready := s.ready.filter fun m => !partQ l k m.key, marks := s.marks.filter fun m => !partQ l k m.key }
def part (s : Shard) (l : List Arc) (k : Int) : Shard × Int := if partE s l = 0 then (partS s l k, 0) else (s, partE s l)

theorem part1_p (l : List Arc) (k : Int) (key : ByteArray) (hk : fitS key) : PFn Try.prog 67 [.v (.string key), .pel 1 [arcs l], .pel 1 [.v (.int .i64 k)]] (.v (.bool (partQ l k key))) := by
  refine FnC.intro Try.func67 rfl Try.ntmps67 rfl ?_; intro off w0
  ((repeat refine S.seq ?_); refine S.region (L.go (T := tt) tt_ok rfl rfl ?sd1 ?_); (try (case sd1 => (repeat' (first | exact trivial | exact zA | with_reducible refine zI ?_ ?_ | exact zB | exact zC | exact zD | exact zE | rfl | exact zN rfl | omega | assumption | (simp; done) | (simp [splice]; done) | (simp; omega) | (unfold fits; omega) | (unfold fits; simp_all; omega) | (simp_all; omega) | (simp_all; done) | intro _)))); try (refine L.nil ?_))
  repeat refine S.seq ?_
  refine S.draw [] mixed ?_
  (refine H.ts (T := tt) [0, 1, 4] tt_ok (by kernel_rfl) (by kernel_rfl) (by kernel_rfl) (by intro ch a a' w h; obtain ⟨_, _, _, _, _, h, _⟩ := h; cases h) rfl ?sd34 ?_; (try (case sd34 => (repeat' (first | exact trivial | exact zA | with_reducible refine zI ?_ ?_ | exact zB | exact zC | exact zD | exact zE | rfl | exact zN rfl | omega | assumption | (simp; done) | (simp [splice]; done) | (simp; omega) | (unfold fits; omega) | (unfold fits; simp_all; omega) | (simp_all; omega) | (simp_all; done) | intro _)))))
  refine H.callP 2 rfl (by kernel_rfl) (by kernel_rfl) rfl rfl rfl rfl rfl rfl rfl ⟨trivial, by (repeat' (first | exact trivial | exact zA | with_reducible refine zI ?_ ?_ | exact zB | exact zC | exact zD | exact zE | rfl | exact zN rfl | omega | assumption | (simp; done) | (simp [splice]; done) | (simp; omega) | (unfold fits; omega) | (unfold fits; simp_all; omega) | (simp_all; omega) | (simp_all; done) | intro _))⟩ rfl (by exact Imps.refl _) ((pof_p key hk)) ?_
  refine H.rebase ?_
  refine H.callP 3 rfl (by kernel_rfl) (by kernel_rfl) rfl rfl rfl rfl rfl rfl rfl ⟨trivial, by (repeat' (first | exact trivial | exact zA | with_reducible refine zI ?_ ?_ | exact zB | exact zC | exact zD | exact zE | rfl | exact zN rfl | omega | assumption | (simp; done) | (simp [splice]; done) | (simp; omega) | (unfold fits; omega) | (unfold fits; simp_all; omega) | (simp_all; omega) | (simp_all; done) | intro _))⟩ rfl (by exact Imps.refl _) ((owner_p l (ofP key))) ?_
  refine H.rebase ?_
  (refine H.ts (T := tt) [5, 6] tt_ok (by kernel_rfl) (by kernel_rfl) (by kernel_rfl) (by intro ch a a' w h; obtain ⟨_, _, _, _, _, h, _⟩ := h; cases h) rfl ?sd35 ?_; (try (case sd35 => (repeat' (first | exact trivial | exact zA | with_reducible refine zI ?_ ?_ | exact zB | exact zC | exact zD | exact zE | rfl | exact zN rfl | omega | assumption | (simp; done) | (simp [splice]; done) | (simp; omega) | (unfold fits; omega) | (unfold fits; simp_all; omega) | (simp_all; omega) | (simp_all; done) | intro _)))))
  refine H.done (by kernel_rfl) ?_
  (((repeat refine S.seq ?_); refine S.ret ?_); refine E.retP (T := tt) tt_ok rfl rfl (by (repeat' (first | exact trivial | exact zA | with_reducible refine zI ?_ ?_ | exact zB | exact zC | exact zD | exact zE | rfl | exact zN rfl | omega | assumption | (simp; done) | (simp [splice]; done) | (simp; omega) | (unfold fits; omega) | (unfold fits; simp_all; omega) | (simp_all; omega) | (simp_all; done) | intro _))) (Imp.of_eq ?_))
  rfl

theorem part2_p (l : List Arc) (k : Int) (m : Msg) (hk : fitS m.key) : PFn Try.prog 69 [m.av, .pel 1 [.fn (.func 67) [.pel 1 [arcs l], .pel 1 [.v (.int .i64 k)]]]] (.v (.bool (partQ l k m.key))) := by
  refine FnC.intro Try.func69 rfl Try.ntmps69 rfl ?_; intro off w0
  repeat refine S.seq ?_
  refine S.region ?_
  refine L.box 2 rfl rfl rfl rfl rfl trivial rfl fun b2 => ?_
  (refine L.go (T := tt) tt_ok rfl rfl ?sd14 ?_; (try (case sd14 => (repeat' (first | exact trivial | exact zA | with_reducible refine zI ?_ ?_ | exact zB | exact zC | exact zD | exact zE | rfl | exact zN rfl | omega | assumption | (simp; done) | (simp [splice]; done) | (simp; omega) | (unfold fits; omega) | (unfold fits; simp_all; omega) | (simp_all; omega) | (simp_all; done) | intro _)))); try (refine L.nil ?_))
  ((repeat refine S.seq ?_); refine S.region (L.go (T := tt) tt_ok rfl rfl ?sd2 ?_); (try (case sd2 => (repeat' (first | exact trivial | exact zA | with_reducible refine zI ?_ ?_ | exact zB | exact zC | exact zD | exact zE | rfl | exact zN rfl | omega | assumption | (simp; done) | (simp [splice]; done) | (simp; omega) | (unfold fits; omega) | (unfold fits; simp_all; omega) | (simp_all; omega) | (simp_all; done) | intro _)))); try (refine L.nil ?_))
  refine L.callP rfl rfl rfl rfl rfl rfl rfl ⟨trivial, by (repeat' (first | exact trivial | exact zA | with_reducible refine zI ?_ ?_ | exact zB | exact zC | exact zD | exact zE | rfl | exact zN rfl | omega | assumption | (simp; done) | (simp [splice]; done) | (simp; omega) | (unfold fits; omega) | (unfold fits; simp_all; omega) | (simp_all; omega) | (simp_all; done) | intro _))⟩ rfl (by exact Imps.refl _) (part1_p l k m.key hk) ?_
  (refine L.go (T := tt) tt_ok rfl rfl ?sd15 ?_; (try (case sd15 => (repeat' (first | exact trivial | exact zA | with_reducible refine zI ?_ ?_ | exact zB | exact zC | exact zD | exact zE | rfl | exact zN rfl | omega | assumption | (simp; done) | (simp [splice]; done) | (simp; omega) | (unfold fits; omega) | (unfold fits; simp_all; omega) | (simp_all; omega) | (simp_all; done) | intro _)))); try (refine L.nil ?_))
  (((repeat refine S.seq ?_); refine S.ret ?_); refine E.retP (T := tt) tt_ok rfl rfl (by (repeat' (first | exact trivial | exact zA | with_reducible refine zI ?_ ?_ | exact zB | exact zC | exact zD | exact zE | rfl | exact zN rfl | omega | assumption | (simp; done) | (simp [splice]; done) | (simp; omega) | (unfold fits; omega) | (unfold fits; simp_all; omega) | (simp_all; omega) | (simp_all; done) | intro _))) (Imp.of_eq ?_))
  rfl

theorem part3_p (l : List Arc) (k : Int) (m : Mark) (hk : fitS m.key) : PFn Try.prog 71 [m.av, .pel 1 [.fn (.func 67) [.pel 1 [arcs l], .pel 1 [.v (.int .i64 k)]]]] (.v (.bool (partQ l k m.key))) := by
  refine FnC.intro Try.func71 rfl Try.ntmps71 rfl ?_; intro off w0
  repeat refine S.seq ?_
  refine S.region ?_
  refine L.box 2 rfl rfl rfl rfl rfl trivial rfl fun b2 => ?_
  (refine L.go (T := tt) tt_ok rfl rfl ?sd16 ?_; (try (case sd16 => (repeat' (first | exact trivial | exact zA | with_reducible refine zI ?_ ?_ | exact zB | exact zC | exact zD | exact zE | rfl | exact zN rfl | omega | assumption | (simp; done) | (simp [splice]; done) | (simp; omega) | (unfold fits; omega) | (unfold fits; simp_all; omega) | (simp_all; omega) | (simp_all; done) | intro _)))); try (refine L.nil ?_))
  ((repeat refine S.seq ?_); refine S.region (L.go (T := tt) tt_ok rfl rfl ?sd3 ?_); (try (case sd3 => (repeat' (first | exact trivial | exact zA | with_reducible refine zI ?_ ?_ | exact zB | exact zC | exact zD | exact zE | rfl | exact zN rfl | omega | assumption | (simp; done) | (simp [splice]; done) | (simp; omega) | (unfold fits; omega) | (unfold fits; simp_all; omega) | (simp_all; omega) | (simp_all; done) | intro _)))); try (refine L.nil ?_))
  refine L.callP rfl rfl rfl rfl rfl rfl rfl ⟨trivial, by (repeat' (first | exact trivial | exact zA | with_reducible refine zI ?_ ?_ | exact zB | exact zC | exact zD | exact zE | rfl | exact zN rfl | omega | assumption | (simp; done) | (simp [splice]; done) | (simp; omega) | (unfold fits; omega) | (unfold fits; simp_all; omega) | (simp_all; omega) | (simp_all; done) | intro _))⟩ rfl (by exact Imps.refl _) (part1_p l k m.key hk) ?_
  (refine L.go (T := tt) tt_ok rfl rfl ?sd17 ?_; (try (case sd17 => (repeat' (first | exact trivial | exact zA | with_reducible refine zI ?_ ?_ | exact zB | exact zC | exact zD | exact zE | rfl | exact zN rfl | omega | assumption | (simp; done) | (simp [splice]; done) | (simp; omega) | (unfold fits; omega) | (unfold fits; simp_all; omega) | (simp_all; omega) | (simp_all; done) | intro _)))); try (refine L.nil ?_))
  (((repeat refine S.seq ?_); refine S.ret ?_); refine E.retP (T := tt) tt_ok rfl rfl (by (repeat' (first | exact trivial | exact zA | with_reducible refine zI ?_ ?_ | exact zB | exact zC | exact zD | exact zE | rfl | exact zN rfl | omega | assumption | (simp; done) | (simp [splice]; done) | (simp; omega) | (unfold fits; omega) | (unfold fits; simp_all; omega) | (simp_all; omega) | (simp_all; done) | intro _))) (Imp.of_eq ?_))
  rfl

theorem part_p (s : Shard) (l : List Arc) (k : Int) (hs : s.fine) : PFn Try.prog 37 [s.av, arcs l, .v (.int .i64 k)] (.tup [(part s l k).1.av, .v (.int .i64 (part s l k).2)]) := by
  refine FnC.intro Try.func37 rfl Try.ntmps37 rfl ?_; intro off w0
  repeat refine S.seq ?_
  refine S.region ?_
  refine L.box 3 rfl rfl rfl rfl rfl trivial rfl fun b3 => ?_
  refine L.box 4 rfl rfl rfl rfl rfl trivial rfl fun b4 => ?_
  refine L.box 5 rfl rfl rfl rfl rfl trivial rfl fun b5 => ?_
  refine L.alloc (T := tt) 6 tt_ok rfl rfl rfl rfl rfl fun b6 => ?_
  (refine L.go (T := tt) tt_ok rfl rfl ?sd18 ?_; (try (case sd18 => (repeat' (first | exact trivial | exact zA | with_reducible refine zI ?_ ?_ | exact zB | exact zC | exact zD | exact zE | rfl | exact zN rfl | omega | assumption | (simp; done) | (simp [splice]; done) | (simp; omega) | (unfold fits; omega) | (unfold fits; simp_all; omega) | (simp_all; omega) | (simp_all; done) | intro _)))); try (refine L.nil ?_))
  ((repeat refine S.seq ?_); refine S.region (L.go (T := tt) tt_ok rfl rfl ?sd4 ?_); (try (case sd4 => (repeat' (first | exact trivial | exact zA | with_reducible refine zI ?_ ?_ | exact zB | exact zC | exact zD | exact zE | rfl | exact zN rfl | omega | assumption | (simp; done) | (simp [splice]; done) | (simp; omega) | (unfold fits; omega) | (unfold fits; simp_all; omega) | (simp_all; omega) | (simp_all; done) | intro _)))); try (refine L.nil ?_))
  refine L.callP rfl rfl rfl rfl rfl rfl rfl ⟨trivial, by (repeat' (first | exact trivial | exact zA | with_reducible refine zI ?_ ?_ | exact zB | exact zC | exact zD | exact zE | rfl | exact zN rfl | omega | assumption | (simp; done) | (simp [splice]; done) | (simp; omega) | (unfold fits; omega) | (unfold fits; simp_all; omega) | (simp_all; omega) | (simp_all; done) | intro _))⟩ rfl (Imps.refl _) (mayR_p s hs) ?_
  (refine L.go (T := tt) tt_ok rfl rfl ?sd19 ?_; (try (case sd19 => (repeat' (first | exact trivial | exact zA | with_reducible refine zI ?_ ?_ | exact zB | exact zC | exact zD | exact zE | rfl | exact zN rfl | omega | assumption | (simp; done) | (simp [splice]; done) | (simp; omega) | (unfold fits; omega) | (unfold fits; simp_all; omega) | (simp_all; omega) | (simp_all; done) | intro _)))); try (refine L.nil ?_))
  refine L.callG rfl rfl rfl rfl rfl rfl rfl (fun _ => ⟨trivial, by (repeat' (first | exact trivial | exact zA | with_reducible refine zI ?_ ?_ | exact zB | exact zC | exact zD | exact zE | rfl | exact zN rfl | omega | assumption | (simp; done) | (simp [splice]; done) | (simp; omega) | (unfold fits; omega) | (unfold fits; simp_all; omega) | (simp_all; omega) | (simp_all; done) | intro _))⟩) rfl (Imps.refl _) (fun _ => (ringmay_p l)) ?_
  (refine L.go (T := tt) tt_ok rfl rfl ?sd20 ?_; (try (case sd20 => (repeat' (first | exact trivial | exact zA | with_reducible refine zI ?_ ?_ | exact zB | exact zC | exact zD | exact zE | rfl | exact zN rfl | omega | assumption | (simp; done) | (simp [splice]; done) | (simp; omega) | (unfold fits; omega) | (unfold fits; simp_all; omega) | (simp_all; omega) | (simp_all; done) | intro _)))); try (refine L.nil ?_))
  ((repeat refine S.seq ?_); refine S.cond rfl (fun h1 => ?_) (fun h1 => ?_) <;> (try first | refine S.skip ?_ | refine S.exit ?_))
  · have e : partE s l = 1 := if_pos h1
    ((repeat refine S.seq ?_); refine S.region (L.go (T := tt) tt_ok rfl rfl ?sd5 ?_); (try (case sd5 => (repeat' (first | exact trivial | exact zA | with_reducible refine zI ?_ ?_ | exact zB | exact zC | exact zD | exact zE | rfl | exact zN rfl | omega | assumption | (simp; done) | (simp [splice]; done) | (simp; omega) | (unfold fits; omega) | (unfold fits; simp_all; omega) | (simp_all; omega) | (simp_all; done) | intro _)))); try (refine L.nil ?_))
    (refine L.store (T := tt) tt_ok rfl rfl rfl rfl rfl rfl ?sd26 ?_; (try (case sd26 => (repeat' (first | exact trivial | exact zA | with_reducible refine zI ?_ ?_ | exact zB | exact zC | exact zD | exact zE | rfl | exact zN rfl | omega | assumption | (simp; done) | (simp [splice]; done) | (simp; omega) | (unfold fits; omega) | (unfold fits; simp_all; omega) | (simp_all; omega) | (simp_all; done) | intro _)))))
    (refine L.go (T := tt) tt_ok rfl rfl ?sd21 ?_; (try (case sd21 => (repeat' (first | exact trivial | exact zA | with_reducible refine zI ?_ ?_ | exact zB | exact zC | exact zD | exact zE | rfl | exact zN rfl | omega | assumption | (simp; done) | (simp [splice]; done) | (simp; omega) | (unfold fits; omega) | (unfold fits; simp_all; omega) | (simp_all; omega) | (simp_all; done) | intro _)))); try (refine L.nil ?_))
    (((repeat refine S.seq ?_); refine S.ret ?_); refine E.retP (T := tt) tt_ok rfl rfl (by (repeat' (first | exact trivial | exact zA | with_reducible refine zI ?_ ?_ | exact zB | exact zC | exact zD | exact zE | rfl | exact zN rfl | omega | assumption | (simp; done) | (simp [splice]; done) | (simp; omega) | (unfold fits; omega) | (unfold fits; simp_all; omega) | (simp_all; omega) | (simp_all; done) | intro _))) (Imp.of_eq ?_))
    rw [part, e]
    rfl
  have h1n : ¬ (!mayShard s || !mayA l) = true := by rw [show (!mayShard s || !mayA l) = false from h1]; decide
  have hms : mayShard s = true := by
    cases h : mayShard s
    · rw [h] at h1n; exact absurd rfl h1n
    · rfl
  have m := (may_iff s).1 hms
  ((repeat refine S.seq ?_); refine S.region (L.go (T := tt) tt_ok rfl rfl ?sd6 ?_); (try (case sd6 => (repeat' (first | exact trivial | exact zA | with_reducible refine zI ?_ ?_ | exact zB | exact zC | exact zD | exact zE | rfl | exact zN rfl | omega | assumption | (simp; done) | (simp [splice]; done) | (simp; omega) | (unfold fits; omega) | (unfold fits; simp_all; omega) | (simp_all; omega) | (simp_all; done) | intro _)))); try (refine L.nil ?_))
  ((repeat refine S.seq ?_); refine S.cond rfl (fun h2 => ?_) (fun h2 => ?_) <;> (try first | refine S.skip ?_ | refine S.exit ?_))
  · have e : partE s l = 7 := by rw [partE, if_neg h1n]; exact if_pos h2
    ((repeat refine S.seq ?_); refine S.region (L.go (T := tt) tt_ok rfl rfl ?sd7 ?_); (try (case sd7 => (repeat' (first | exact trivial | exact zA | with_reducible refine zI ?_ ?_ | exact zB | exact zC | exact zD | exact zE | rfl | exact zN rfl | omega | assumption | (simp; done) | (simp [splice]; done) | (simp; omega) | (unfold fits; omega) | (unfold fits; simp_all; omega) | (simp_all; omega) | (simp_all; done) | intro _)))); try (refine L.nil ?_))
    (refine L.store (T := tt) tt_ok rfl rfl rfl rfl rfl rfl ?sd27 ?_; (try (case sd27 => (repeat' (first | exact trivial | exact zA | with_reducible refine zI ?_ ?_ | exact zB | exact zC | exact zD | exact zE | rfl | exact zN rfl | omega | assumption | (simp; done) | (simp [splice]; done) | (simp; omega) | (unfold fits; omega) | (unfold fits; simp_all; omega) | (simp_all; omega) | (simp_all; done) | intro _)))))
    (refine L.go (T := tt) tt_ok rfl rfl ?sd22 ?_; (try (case sd22 => (repeat' (first | exact trivial | exact zA | with_reducible refine zI ?_ ?_ | exact zB | exact zC | exact zD | exact zE | rfl | exact zN rfl | omega | assumption | (simp; done) | (simp [splice]; done) | (simp; omega) | (unfold fits; omega) | (unfold fits; simp_all; omega) | (simp_all; omega) | (simp_all; done) | intro _)))); try (refine L.nil ?_))
    (((repeat refine S.seq ?_); refine S.ret ?_); refine E.retP (T := tt) tt_ok rfl rfl (by (repeat' (first | exact trivial | exact zA | with_reducible refine zI ?_ ?_ | exact zB | exact zC | exact zD | exact zE | rfl | exact zN rfl | omega | assumption | (simp; done) | (simp [splice]; done) | (simp; omega) | (unfold fits; omega) | (unfold fits; simp_all; omega) | (simp_all; omega) | (simp_all; done) | intro _))) (Imp.of_eq ?_))
    rw [part, e]
    rfl
  have e : partE s l = 0 := by
    rw [partE, if_neg h1n]
    exact if_neg (by rw [show _ = false from h2]; decide)
  have hml := m.few
  have ⟨hs1, hs2, hs3⟩ := hs.small
  have hkm : ∀ x ∈ s.marks, fitS x.key := fun x hx => by
    have := m.marks x hx
    exact (may_fit this).2.1
  ((repeat refine S.seq ?_); refine S.region (L.go (T := tt) tt_ok rfl rfl ?sd8 ?_); (try (case sd8 => (repeat' (first | exact trivial | exact zA | with_reducible refine zI ?_ ?_ | exact zB | exact zC | exact zD | exact zE | rfl | exact zN rfl | omega | assumption | (simp; done) | (simp [splice]; done) | (simp; omega) | (unfold fits; omega) | (unfold fits; simp_all; omega) | (simp_all; omega) | (simp_all; done) | intro _)))); try (refine L.nil ?_))
  refine L.call (G := []) (H := [_, _, _, _]) rfl rfl rfl rfl rfl rfl rfl ⟨trivial, by (repeat' (first | exact trivial | exact zA | with_reducible refine zI ?_ ?_ | exact zB | exact zC | exact zD | exact zE | rfl | exact zN rfl | omega | assumption | (simp; done) | (simp [splice]; done) | (simp; omega) | (unfold fits; omega) | (unfold fits; simp_all; omega) | (simp_all; omega) | (simp_all; done) | intro _))⟩ rfl (by exact Imps.refl [s.av]) (List.Perm.refl _) (own_p s hs1 hs2 (by omega)) ?_
  rintro r F' ⟨x, y, z, rfl, rfl⟩
  (refine L.store (T := tt) tt_ok rfl rfl rfl rfl rfl rfl ?sd28 ?_; (try (case sd28 => (repeat' (first | exact trivial | exact zA | with_reducible refine zI ?_ ?_ | exact zB | exact zC | exact zD | exact zE | rfl | exact zN rfl | omega | assumption | (simp; done) | (simp [splice]; done) | (simp; omega) | (unfold fits; omega) | (unfold fits; simp_all; omega) | (simp_all; omega) | (simp_all; done) | intro _)))))
  refine L.nil ?_
  repeat refine S.seq ?_
  refine freezeBlk 4 4 rfl rfl rfl (freezeBlk 5 5 rfl rfl rfl ?_)
  ((repeat refine S.seq ?_); refine S.region (L.go (T := tt) tt_ok rfl rfl ?sd9 ?_); (try (case sd9 => (repeat' (first | exact trivial | exact zA | with_reducible refine zI ?_ ?_ | exact zB | exact zC | exact zD | exact zE | rfl | exact zN rfl | omega | assumption | (simp; done) | (simp [splice]; done) | (simp; omega) | (unfold fits; omega) | (unfold fits; simp_all; omega) | (simp_all; omega) | (simp_all; done) | intro _)))); try (refine L.nil ?_))
  refine L.alloc (T := tt) 8 tt_ok rfl rfl rfl rfl rfl fun b8 => ?_
  (refine L.store (T := tt) tt_ok rfl rfl rfl rfl rfl rfl ?sd29 ?_; (try (case sd29 => (repeat' (first | exact trivial | exact zA | with_reducible refine zI ?_ ?_ | exact zB | exact zC | exact zD | exact zE | rfl | exact zN rfl | omega | assumption | (simp; done) | (simp [splice]; done) | (simp; omega) | (unfold fits; omega) | (unfold fits; simp_all; omega) | (simp_all; omega) | (simp_all; done) | intro _)))))
  refine L.nil ?_
  repeat refine S.seq ?_
  refine freezeBlk 8 8 rfl rfl rfl ?_
  ((repeat refine S.seq ?_); refine S.region (L.go (T := tt) tt_ok rfl rfl ?sd10 ?_); (try (case sd10 => (repeat' (first | exact trivial | exact zA | with_reducible refine zI ?_ ?_ | exact zB | exact zC | exact zD | exact zE | rfl | exact zN rfl | omega | assumption | (simp; done) | (simp [splice]; done) | (simp; omega) | (unfold fits; omega) | (unfold fits; simp_all; omega) | (simp_all; omega) | (simp_all; done) | intro _)))); try (refine L.nil ?_))
  refine L.call (G := [(91, .own x 46 5 s.ready.length (gOf Msg.cells s.ready))]) (H := [_, _, _, _]) rfl rfl rfl rfl rfl rfl rfl ⟨trivial, by (repeat' (first | exact trivial | exact zA | with_reducible refine zI ?_ ?_ | exact zB | exact zC | exact zD | exact zE | rfl | exact zN rfl | omega | assumption | (simp; done) | (simp [splice]; done) | (simp; omega) | (unfold fits; omega) | (unfold fits; simp_all; omega) | (simp_all; omega) | (simp_all; done) | intro _))⟩ rfl (by exact Imps.refl [.ref 91 x, .fn (.func 69) [.pel 1 [.fn (.func 67) [.pel 1 [arcs l], .pel 1 [.v (.int .i64 k)]]]]]) (by (repeat (first | exact pick0 | refine pickS (by first | exact p0 | exact pS p0 | exact pS (pS p0) | exact pS (pS (pS p0)) | exact pS (pS (pS (pS p0))) | exact pS (pS (pS (pS (pS p0)))) | exact pS (pS (pS (pS (pS (pS p0)))))) ?_))) (DfMsg (fun a => partQ l k a.key) s.ready x rfl fun a ha => part2_p l k a (hs.keys a ha)) ?_
  rintro r F' ⟨x', rfl, rfl⟩
  (refine L.go (T := tt) tt_ok rfl rfl ?sd23 ?_; (try (case sd23 => (repeat' (first | exact trivial | exact zA | with_reducible refine zI ?_ ?_ | exact zB | exact zC | exact zD | exact zE | rfl | exact zN rfl | omega | assumption | (simp; done) | (simp [splice]; done) | (simp; omega) | (unfold fits; omega) | (unfold fits; simp_all; omega) | (simp_all; omega) | (simp_all; done) | intro _)))); try (refine L.nil ?_))
  (refine L.store (T := tt) tt_ok rfl rfl rfl rfl rfl rfl ?sd30 ?_; (try (case sd30 => (repeat' (first | exact trivial | exact zA | with_reducible refine zI ?_ ?_ | exact zB | exact zC | exact zD | exact zE | rfl | exact zN rfl | omega | assumption | (simp; done) | (simp [splice]; done) | (simp; omega) | (unfold fits; omega) | (unfold fits; simp_all; omega) | (simp_all; omega) | (simp_all; done) | intro _)))))
  refine L.nil ?_
  ((repeat refine S.seq ?_); refine S.region (L.go (T := tt) tt_ok rfl rfl ?sd11 ?_); (try (case sd11 => (repeat' (first | exact trivial | exact zA | with_reducible refine zI ?_ ?_ | exact zB | exact zC | exact zD | exact zE | rfl | exact zN rfl | omega | assumption | (simp; done) | (simp [splice]; done) | (simp; omega) | (unfold fits; omega) | (unfold fits; simp_all; omega) | (simp_all; omega) | (simp_all; done) | intro _)))); try (refine L.nil ?_))
  refine L.call (G := [(93, .own z 82 3 s.marks.length (gOf Mark.cells s.marks))]) (H := [_, _, _, _]) rfl rfl rfl rfl rfl rfl rfl ⟨trivial, by (repeat' (first | exact trivial | exact zA | with_reducible refine zI ?_ ?_ | exact zB | exact zC | exact zD | exact zE | rfl | exact zN rfl | omega | assumption | (simp; done) | (simp [splice]; done) | (simp; omega) | (unfold fits; omega) | (unfold fits; simp_all; omega) | (simp_all; omega) | (simp_all; done) | intro _))⟩ rfl (by exact Imps.refl [.ref 93 z, .fn (.func 71) [.pel 1 [.fn (.func 67) [.pel 1 [arcs l], .pel 1 [.v (.int .i64 k)]]]]]) (by (repeat (first | exact pick0 | refine pickS (by first | exact p0 | exact pS p0 | exact pS (pS p0) | exact pS (pS (pS p0)) | exact pS (pS (pS (pS p0))) | exact pS (pS (pS (pS (pS p0)))) | exact pS (pS (pS (pS (pS (pS p0)))))) ?_))) (DfMark (fun a => partQ l k a.key) s.marks z rfl fun a ha => part3_p l k a (hkm a ha)) ?_
  rintro r F' ⟨z', rfl, rfl⟩
  (refine L.go (T := tt) tt_ok rfl rfl ?sd24 ?_; (try (case sd24 => (repeat' (first | exact trivial | exact zA | with_reducible refine zI ?_ ?_ | exact zB | exact zC | exact zD | exact zE | rfl | exact zN rfl | omega | assumption | (simp; done) | (simp [splice]; done) | (simp; omega) | (unfold fits; omega) | (unfold fits; simp_all; omega) | (simp_all; omega) | (simp_all; done) | intro _)))); try (refine L.nil ?_))
  (refine L.store (T := tt) tt_ok rfl rfl rfl rfl rfl rfl ?sd31 ?_; (try (case sd31 => (repeat' (first | exact trivial | exact zA | with_reducible refine zI ?_ ?_ | exact zB | exact zC | exact zD | exact zE | rfl | exact zN rfl | omega | assumption | (simp; done) | (simp [splice]; done) | (simp; omega) | (unfold fits; omega) | (unfold fits; simp_all; omega) | (simp_all; omega) | (simp_all; done) | intro _)))))
  refine L.nil ?_
  ((repeat refine S.seq ?_); refine S.region (L.go (T := tt) tt_ok rfl rfl ?sd12 ?_); (try (case sd12 => (repeat' (first | exact trivial | exact zA | with_reducible refine zI ?_ ?_ | exact zB | exact zC | exact zD | exact zE | rfl | exact zN rfl | omega | assumption | (simp; done) | (simp [splice]; done) | (simp; omega) | (unfold fits; omega) | (unfold fits; simp_all; omega) | (simp_all; omega) | (simp_all; done) | intro _)))); try (refine L.nil ?_))
  (refine L.store (T := tt) tt_ok rfl rfl rfl rfl rfl rfl ?sd32 ?_; (try (case sd32 => (repeat' (first | exact trivial | exact zA | with_reducible refine zI ?_ ?_ | exact zB | exact zC | exact zD | exact zE | rfl | exact zN rfl | omega | assumption | (simp; done) | (simp [splice]; done) | (simp; omega) | (unfold fits; omega) | (unfold fits; simp_all; omega) | (simp_all; omega) | (simp_all; done) | intro _)))))
  refine L.nil ?_
  repeat refine S.seq ?_
  refine freezeCell 3 2 91 rfl rfl rfl rfl (freezeCell 3 3 92 rfl rfl rfl rfl (freezeCell 3 4 93 rfl rfl rfl rfl ?_))
  ((repeat refine S.seq ?_); refine S.region (L.go (T := tt) tt_ok rfl rfl ?sd13 ?_); (try (case sd13 => (repeat' (first | exact trivial | exact zA | with_reducible refine zI ?_ ?_ | exact zB | exact zC | exact zD | exact zE | rfl | exact zN rfl | omega | assumption | (simp; done) | (simp [splice]; done) | (simp; omega) | (unfold fits; omega) | (unfold fits; simp_all; omega) | (simp_all; omega) | (simp_all; done) | intro _)))); try (refine L.nil ?_))
  (refine L.store (T := tt) tt_ok rfl rfl rfl rfl rfl rfl ?sd33 ?_; (try (case sd33 => (repeat' (first | exact trivial | exact zA | with_reducible refine zI ?_ ?_ | exact zB | exact zC | exact zD | exact zE | rfl | exact zN rfl | omega | assumption | (simp; done) | (simp [splice]; done) | (simp; omega) | (unfold fits; omega) | (unfold fits; simp_all; omega) | (simp_all; omega) | (simp_all; done) | intro _)))))
  (refine L.go (T := tt) tt_ok rfl rfl ?sd25 ?_; (try (case sd25 => (repeat' (first | exact trivial | exact zA | with_reducible refine zI ?_ ?_ | exact zB | exact zC | exact zD | exact zE | rfl | exact zN rfl | omega | assumption | (simp; done) | (simp [splice]; done) | (simp; omega) | (unfold fits; omega) | (unfold fits; simp_all; omega) | (simp_all; omega) | (simp_all; done) | intro _)))); try (refine L.nil ?_))
  (((repeat refine S.seq ?_); refine S.ret ?_); refine E.retP (T := tt) tt_ok rfl rfl (by (repeat' (first | exact trivial | exact zA | with_reducible refine zI ?_ ?_ | exact zB | exact zC | exact zD | exact zE | rfl | exact zN rfl | omega | assumption | (simp; done) | (simp [splice]; done) | (simp; omega) | (unfold fits; omega) | (unfold fits; simp_all; omega) | (simp_all; omega) | (simp_all; done) | intro _))) ?_)
  rw [part, if_pos e]
  exact Imp.refl _

end Go.Proofs.Ytgnklbdbglnmaaa

/- What one shard's arcs have of a shard: the document's. -/
namespace Go.Proofs.Ytgnklbdbglnmaaa
set_option linter.unusedVariables false
set_option linter.unusedSimpArgs false
set_option maxHeartbeats 8000000
open Go.RowKit
set_option maxRecDepth 4000

def keepM (l : List Arc) (k : Int) (r : List Msg) (n : Nat) : List Msg := (r.take n).filter fun m => !partQ l k m.key
def keepK (l : List Arc) (k : Int) (r : List Mark) (n : Nat) : List Mark := (r.take n).filter fun m => !partQ l k m.key
theorem keepM_succ {l : List Arc} {k : Int} {r : List Msg} {n : Nat} (h : n < r.length) : keepM l k r (n + 1) = keepM l k r n ++ if partQ l k (r.getD n default).key then [] else [r.getD n default] := by
  unfold keepM
  rw [List.take_succ_eq_append_getElem h, List.filter_append, getD_get h]
  congr 1
  cases hq : partQ l k r[n].key <;> simp [hq]
theorem keepK_succ {l : List Arc} {k : Int} {r : List Mark} {n : Nat} (h : n < r.length) : keepK l k r (n + 1) = keepK l k r n ++ if partQ l k (r.getD n default).key then [] else [r.getD n default] := by
  unfold keepK
  rw [List.take_succ_eq_append_getElem h, List.filter_append, getD_get h]
  congr 1
  cases hq : partQ l k r[n].key <;> simp [hq]
theorem keepM_le (l : List Arc) (k : Int) (r : List Msg) (n : Nat) : (keepM l k r n).length ≤ n := Nat.le_trans (List.length_filter_le _ _) (by rw [List.length_take]; omega)
theorem keepK_le (l : List Arc) (k : Int) (r : List Mark) (n : Nat) : (keepK l k r n).length ≤ n := Nat.le_trans (List.length_filter_le _ _) (by rw [List.length_take]; omega)

theorem rpart_p (s : Shard) (l : List Arc) (kp : Int) (hs : s.fine) : PFn Try.prog 47 [s.av, arcs l, .v (.int .i64 kp)] (.tup [(part s l kp).1.av, .v (.int .i64 (part s l kp).2)]) := by
  refine FnC.intro Try.func47 rfl Try.ntmps47 rfl ?_; intro off w0
  repeat refine S.seq ?_
  refine S.region ?_
  refine L.box 3 rfl rfl rfl rfl rfl trivial rfl fun b3 => ?_
  refine L.alloc (T := tt) 6 tt_ok rfl rfl rfl rfl rfl fun b6 => ?_
  (refine L.go (T := tt) tt_ok rfl rfl ?sd15 ?_; (try (case sd15 => (repeat' (first | exact trivial | exact zA | with_reducible refine zI ?_ ?_ | exact zB | exact zC | exact zD | exact zE | rfl | exact zN rfl | omega | assumption | (simp; done) | (simp [splice]; done) | (simp; omega) | (unfold fits; omega) | (unfold fits; simp_all; omega) | (simp_all; omega) | (simp_all; done) | intro _)))); try (refine L.nil ?_))
  repeat refine S.seq ?_
  refine S.block ?_
  ((repeat refine S.seq ?_); refine S.region (L.go (T := tt) tt_ok rfl rfl ?sd1 ?_); (try (case sd1 => (repeat' (first | exact trivial | exact zA | with_reducible refine zI ?_ ?_ | exact zB | exact zC | exact zD | exact zE | rfl | exact zN rfl | omega | assumption | (simp; done) | (simp [splice]; done) | (simp; omega) | (unfold fits; omega) | (unfold fits; simp_all; omega) | (simp_all; omega) | (simp_all; done) | intro _)))); try (refine L.nil ?_))
  refine L.callP rfl rfl rfl rfl rfl rfl rfl ⟨trivial, by (repeat' (first | exact trivial | exact zA | with_reducible refine zI ?_ ?_ | exact zB | exact zC | exact zD | exact zE | rfl | exact zN rfl | omega | assumption | (simp; done) | (simp [splice]; done) | (simp; omega) | (unfold fits; omega) | (unfold fits; simp_all; omega) | (simp_all; omega) | (simp_all; done) | intro _))⟩ rfl (Imps.refl _) (rmay_p s hs.small) ?_
  (refine L.go (T := tt) tt_ok rfl rfl ?sd16 ?_; (try (case sd16 => (repeat' (first | exact trivial | exact zA | with_reducible refine zI ?_ ?_ | exact zB | exact zC | exact zD | exact zE | rfl | exact zN rfl | omega | assumption | (simp; done) | (simp [splice]; done) | (simp; omega) | (unfold fits; omega) | (unfold fits; simp_all; omega) | (simp_all; omega) | (simp_all; done) | intro _)))); try (refine L.nil ?_))
  refine L.callG rfl rfl rfl rfl rfl rfl rfl (fun _ => ⟨trivial, by (repeat' (first | exact trivial | exact zA | with_reducible refine zI ?_ ?_ | exact zB | exact zC | exact zD | exact zE | rfl | exact zN rfl | omega | assumption | (simp; done) | (simp [splice]; done) | (simp; omega) | (unfold fits; omega) | (unfold fits; simp_all; omega) | (simp_all; omega) | (simp_all; done) | intro _))⟩) rfl (Imps.refl _) (fun _ => (rmayarcs_p l)) ?_
  (refine L.go (T := tt) tt_ok rfl rfl ?sd17 ?_; (try (case sd17 => (repeat' (first | exact trivial | exact zA | with_reducible refine zI ?_ ?_ | exact zB | exact zC | exact zD | exact zE | rfl | exact zN rfl | omega | assumption | (simp; done) | (simp [splice]; done) | (simp; omega) | (unfold fits; omega) | (unfold fits; simp_all; omega) | (simp_all; omega) | (simp_all; done) | intro _)))); try (refine L.nil ?_))
  ((repeat refine S.seq ?_); refine S.cond rfl (fun h1 => ?_) (fun h1 => ?_) <;> (try first | refine S.skip ?_ | refine S.exit ?_))
  · skip
    ((repeat refine S.seq ?_); refine S.region (L.go (T := tt) tt_ok rfl rfl ?sd2 ?_); (try (case sd2 => (repeat' (first | exact trivial | exact zA | with_reducible refine zI ?_ ?_ | exact zB | exact zC | exact zD | exact zE | rfl | exact zN rfl | omega | assumption | (simp; done) | (simp [splice]; done) | (simp; omega) | (unfold fits; omega) | (unfold fits; simp_all; omega) | (simp_all; omega) | (simp_all; done) | intro _)))); try (refine L.nil ?_))
    (refine L.store (T := tt) tt_ok rfl rfl rfl rfl rfl rfl ?sd23 ?_; (try (case sd23 => (repeat' (first | exact trivial | exact zA | with_reducible refine zI ?_ ?_ | exact zB | exact zC | exact zD | exact zE | rfl | exact zN rfl | omega | assumption | (simp; done) | (simp [splice]; done) | (simp; omega) | (unfold fits; omega) | (unfold fits; simp_all; omega) | (simp_all; omega) | (simp_all; done) | intro _)))))
    (refine L.go (T := tt) tt_ok rfl rfl ?sd18 ?_; (try (case sd18 => (repeat' (first | exact trivial | exact zA | with_reducible refine zI ?_ ?_ | exact zB | exact zC | exact zD | exact zE | rfl | exact zN rfl | omega | assumption | (simp; done) | (simp [splice]; done) | (simp; omega) | (unfold fits; omega) | (unfold fits; simp_all; omega) | (simp_all; omega) | (simp_all; done) | intro _)))); try (refine L.nil ?_))
    (((repeat refine S.seq ?_); refine S.ret ?_); refine E.retP (T := tt) tt_ok rfl rfl (by (repeat' (first | exact trivial | exact zA | with_reducible refine zI ?_ ?_ | exact zB | exact zC | exact zD | exact zE | rfl | exact zN rfl | omega | assumption | (simp; done) | (simp [splice]; done) | (simp; omega) | (unfold fits; omega) | (unfold fits; simp_all; omega) | (simp_all; omega) | (simp_all; done) | intro _))) (Imp.of_eq ?_))
    rw [part, show partE s l = 1 from if_pos h1]
    rfl
  have h1n : ¬ (!mayShard s || !mayA l) = true := by rw [show (!mayShard s || !mayA l) = false from h1]; decide
  have hms : mayShard s = true := by
    cases h : mayShard s
    · rw [h] at h1n; exact absurd rfl h1n
    · rfl
  have m := (may_iff s).1 hms
  ((repeat refine S.seq ?_); refine S.region (L.go (T := tt) tt_ok rfl rfl ?sd3 ?_); (try (case sd3 => (repeat' (first | exact trivial | exact zA | with_reducible refine zI ?_ ?_ | exact zB | exact zC | exact zD | exact zE | rfl | exact zN rfl | omega | assumption | (simp; done) | (simp [splice]; done) | (simp; omega) | (unfold fits; omega) | (unfold fits; simp_all; omega) | (simp_all; omega) | (simp_all; done) | intro _)))); try (refine L.nil ?_))
  ((repeat refine S.seq ?_); refine S.cond rfl (fun h2 => ?_) (fun h2 => ?_) <;> (try first | refine S.skip ?_ | refine S.exit ?_))
  · skip
    ((repeat refine S.seq ?_); refine S.region (L.go (T := tt) tt_ok rfl rfl ?sd4 ?_); (try (case sd4 => (repeat' (first | exact trivial | exact zA | with_reducible refine zI ?_ ?_ | exact zB | exact zC | exact zD | exact zE | rfl | exact zN rfl | omega | assumption | (simp; done) | (simp [splice]; done) | (simp; omega) | (unfold fits; omega) | (unfold fits; simp_all; omega) | (simp_all; omega) | (simp_all; done) | intro _)))); try (refine L.nil ?_))
    (refine L.store (T := tt) tt_ok rfl rfl rfl rfl rfl rfl ?sd24 ?_; (try (case sd24 => (repeat' (first | exact trivial | exact zA | with_reducible refine zI ?_ ?_ | exact zB | exact zC | exact zD | exact zE | rfl | exact zN rfl | omega | assumption | (simp; done) | (simp [splice]; done) | (simp; omega) | (unfold fits; omega) | (unfold fits; simp_all; omega) | (simp_all; omega) | (simp_all; done) | intro _)))))
    (refine L.go (T := tt) tt_ok rfl rfl ?sd19 ?_; (try (case sd19 => (repeat' (first | exact trivial | exact zA | with_reducible refine zI ?_ ?_ | exact zB | exact zC | exact zD | exact zE | rfl | exact zN rfl | omega | assumption | (simp; done) | (simp [splice]; done) | (simp; omega) | (unfold fits; omega) | (unfold fits; simp_all; omega) | (simp_all; omega) | (simp_all; done) | intro _)))); try (refine L.nil ?_))
    (((repeat refine S.seq ?_); refine S.ret ?_); refine E.retP (T := tt) tt_ok rfl rfl (by (repeat' (first | exact trivial | exact zA | with_reducible refine zI ?_ ?_ | exact zB | exact zC | exact zD | exact zE | rfl | exact zN rfl | omega | assumption | (simp; done) | (simp [splice]; done) | (simp; omega) | (unfold fits; omega) | (unfold fits; simp_all; omega) | (simp_all; omega) | (simp_all; done) | intro _))) (Imp.of_eq ?_))
    rw [part, show partE s l = 7 by rw [partE, if_neg h1n]; exact if_pos h2]
    rfl
  have e : partE s l = 0 := by
    rw [partE, if_neg h1n]
    exact if_neg (by rw [show _ = false from h2]; decide)
  have hh : s.held = [] := by
    rcases hl : s.held with _ | ⟨x, t⟩
    · rfl
    · have := h2
      rw [hl] at this
      simp at this
  have hml := m.few
  have ⟨hs1, hs2, hs3⟩ := hs.small
  have hkm : ∀ x ∈ s.marks, fitS x.key := fun x hx => by
    have := m.marks x hx
    exact (may_fit this).2.1
  ((repeat refine S.seq ?_); refine S.region (L.go (T := tt) tt_ok rfl rfl ?sd5 ?_); (try (case sd5 => (repeat' (first | exact trivial | exact zA | with_reducible refine zI ?_ ?_ | exact zB | exact zC | exact zD | exact zE | rfl | exact zN rfl | omega | assumption | (simp; done) | (simp [splice]; done) | (simp; omega) | (unfold fits; omega) | (unfold fits; simp_all; omega) | (simp_all; omega) | (simp_all; done) | intro _)))); try (refine L.nil ?_))
  refine L.alloc (T := tt) 8 tt_ok rfl rfl rfl rfl rfl fun b8 => ?_
  (refine L.store (T := tt) tt_ok rfl rfl rfl rfl rfl rfl ?sd25 ?_; (try (case sd25 => (repeat' (first | exact trivial | exact zA | with_reducible refine zI ?_ ?_ | exact zB | exact zC | exact zD | exact zE | rfl | exact zN rfl | omega | assumption | (simp; done) | (simp [splice]; done) | (simp; omega) | (unfold fits; omega) | (unfold fits; simp_all; omega) | (simp_all; omega) | (simp_all; done) | intro _)))))
  refine L.nil ?_
  refine nilRow 91 46 5 (gOf Msg.cells (keepM l kp s.ready 0)) ?_
  refine nilRow 93 82 3 (gOf Mark.cells (keepK l kp s.marks 0)) ?_
  refine blkAs 8 [.v (.bool false), .v (.int .i64 s.next), .ref 91 (.slice none 0 0), .v (.slice none 0 0), .ref 93 (.slice none 0 0)] rfl ⟨Imp.refl _, Imp.refl _, Imp.vref rfl, Imp.refl _, Imp.vref rfl, trivial⟩ ?_
  ((repeat refine S.seq ?_); refine S.region (L.go (T := tt) tt_ok rfl rfl ?sd6 ?_); (try (case sd6 => (repeat' (first | exact trivial | exact zA | with_reducible refine zI ?_ ?_ | exact zB | exact zC | exact zD | exact zE | rfl | exact zN rfl | omega | assumption | (simp; done) | (simp [splice]; done) | (simp; omega) | (unfold fits; omega) | (unfold fits; simp_all; omega) | (simp_all; omega) | (simp_all; done) | intro _)))); try (refine L.nil ?_))
  repeat refine S.seq ?_
  refine S.block (S.loop (ι := { p : Nat × Value // p.1 ≤ s.ready.length }) (fun k => [(1, arcs l), (2, .v (.int .i64 kp)), (3, .ptr 3 b3 0), (6, .ptr 6 b6 0), (8, .ptr 8 b8 0), (9, .v (.int .i64 k.1.1))])
    (fun k => [(8, .blk b8 35 [.v (.bool false), .v (.int .i64 s.next), .ref 91 k.1.2, .v (.slice none 0 0), .ref 93 (.slice none 0 0)]), (91, .own k.1.2 46 5 (keepM l kp s.ready k.1.1).length (gOf Msg.cells (keepM l kp s.ready k.1.1))), (93, .own (.slice none 0 0) 82 3 (keepK l kp s.marks 0).length (gOf Mark.cells (keepK l kp s.marks 0))), (6, .blk b6 35 [.v (.bool false), .v (.int .i64 0), .v (.slice none 0 0), .v (.slice none 0 0), .v (.slice none 0 0)]), (3, .blk b3 35 s.cells)]) (fun k => s.ready.length - k.1.1) ?_ ?_)
  · exact fun a w h => ⟨⟨(0, .slice none 0 0), Nat.zero_le _⟩, h.weakP (by (repeat' (first | exact True.intro | exact Imp.refl _ | refine ⟨?_, ?_⟩))) (by (repeat (first | exact Sub.refl _ | refine Sub.pick (by first | exact p0 | exact pS p0 | exact pS (pS p0) | exact pS (pS (pS p0)) | exact pS (pS (pS (pS p0))) | exact pS (pS (pS (pS (pS p0))))) ?_)))⟩
  rintro ⟨⟨k, yy⟩, hk⟩
  dsimp only at hk ⊢
  have hle := keepM_le l kp s.ready k
  ((repeat refine S.seq ?_); refine S.region (L.go (T := tt) tt_ok rfl rfl ?sd7 ?_); (try (case sd7 => (repeat' (first | exact trivial | exact zA | with_reducible refine zI ?_ ?_ | exact zB | exact zC | exact zD | exact zE | rfl | exact zN rfl | omega | assumption | (simp; done) | (simp [splice]; done) | (simp; omega) | (unfold fits; omega) | (unfold fits; simp_all; omega) | (simp_all; omega) | (simp_all; done) | intro _)))); try (refine L.nil ?_))
  ((repeat refine S.seq ?_); refine S.cond rfl (fun h3 => ?_) (fun h3 => ?_) <;> (try first | refine S.skip ?_ | refine S.exit ?_))
  · have h3n : k < s.ready.length := by have := of_dec h3; omega
    repeat refine S.seq ?_
    refine S.block ?_
    ((repeat refine S.seq ?_); refine S.region (L.go (T := tt) tt_ok rfl rfl ?sd8 ?_); (try (case sd8 => (repeat' (first | exact trivial | exact zA | with_reducible refine zI ?_ ?_ | exact zB | exact zC | exact zD | exact zE | rfl | exact zN rfl | omega | assumption | (simp; done) | (simp [splice]; done) | (simp; omega) | (unfold fits; omega) | (unfold fits; simp_all; omega) | (simp_all; omega) | (simp_all; done) | intro _)))); try (refine L.nil ?_))
    refine L.callP rfl rfl rfl rfl rfl rfl rfl ⟨trivial, by (repeat' (first | exact trivial | exact zA | with_reducible refine zI ?_ ?_ | exact zB | exact zC | exact zD | exact zE | rfl | exact zN rfl | omega | assumption | (simp; done) | (simp [splice]; done) | (simp; omega) | (unfold fits; omega) | (unfold fits; simp_all; omega) | (simp_all; omega) | (simp_all; done) | intro _))⟩ rfl (Imps.refl _) (rof_p (s.ready.getD k default).key (hs.keys _ (by rw [getD_get (by omega)]; exact List.getElem_mem _))) ?_
    refine L.callP rfl rfl rfl rfl rfl rfl rfl ⟨trivial, by (repeat' (first | exact trivial | exact zA | with_reducible refine zI ?_ ?_ | exact zB | exact zC | exact zD | exact zE | rfl | exact zN rfl | omega | assumption | (simp; done) | (simp [splice]; done) | (simp; omega) | (unfold fits; omega) | (unfold fits; simp_all; omega) | (simp_all; omega) | (simp_all; done) | intro _))⟩ rfl (Imps.refl _) (rowner_p l (ofP (s.ready.getD k default).key)) ?_
    (refine L.go (T := tt) tt_ok rfl rfl ?sd20 ?_; (try (case sd20 => (repeat' (first | exact trivial | exact zA | with_reducible refine zI ?_ ?_ | exact zB | exact zC | exact zD | exact zE | rfl | exact zN rfl | omega | assumption | (simp; done) | (simp [splice]; done) | (simp; omega) | (unfold fits; omega) | (unfold fits; simp_all; omega) | (simp_all; omega) | (simp_all; done) | intro _)))); try (refine L.nil ?_))
    refine S.cut (ι := Value) (fun y => [(1, arcs l), (2, .v (.int .i64 kp)), (3, .ptr 3 b3 0), (6, .ptr 6 b6 0), (8, .ptr 8 b8 0), (9, .v (.int .i64 k))]) (fun y => [(8, .blk b8 35 [.v (.bool false), .v (.int .i64 s.next), .ref 91 y, .v (.slice none 0 0), .ref 93 (.slice none 0 0)]), (91, .own y 46 5 (keepM l kp s.ready (k + 1)).length (gOf Msg.cells (keepM l kp s.ready (k + 1)))), (93, .own (.slice none 0 0) 82 3 (keepK l kp s.marks 0).length (gOf Mark.cells (keepK l kp s.marks 0))), (6, .blk b6 35 [.v (.bool false), .v (.int .i64 0), .v (.slice none 0 0), .v (.slice none 0 0), .v (.slice none 0 0)]), (3, .blk b3 35 s.cells)]) ?_ ?_
    · ((repeat refine S.seq ?_); refine S.cond rfl (fun h4 => ?_) (fun h4 => ?_) <;> (try first | refine S.skip ?_ | refine S.exit ?_))
      · skip
        repeat refine S.seq ?_
        refine S.draw [(1, [8]), (3, [3])] mixed ?_
        (refine H.ts (T := tt) [0, 1, 2, 3, 4, 5, 6] tt_ok (by kernel_rfl) (by kernel_rfl) (by kernel_rfl) (by intro ch a a' w h; obtain ⟨_, _, _, _, _, h, _⟩ := h; cases h) rfl ?sd27 ?_; (try (case sd27 => (repeat' (first | exact trivial | exact zA | with_reducible refine zI ?_ ?_ | exact zB | exact zC | exact zD | exact zE | rfl | exact zN rfl | omega | assumption | (simp; done) | (simp [splice]; done) | (simp; omega) | (unfold fits; omega) | (unfold fits; simp_all; omega) | (simp_all; omega) | (simp_all; done) | intro _)))))
        refine H.o1 7 rfl (by kernel_rfl) (by kernel_rfl) (O.buildSlice (T := tt) 60 tt_ok rfl rfl rfl rfl rfl rfl (by decide) (by decide) rfl rfl (by (repeat' (first | exact trivial | exact zA | with_reducible refine zI ?_ ?_ | exact zB | exact zC | exact zD | exact zE | rfl | exact zN rfl | omega | assumption | (simp; done) | (simp [splice]; done) | (simp; omega) | (unfold fits; omega) | (unfold fits; simp_all; omega) | (simp_all; omega) | (simp_all; done) | intro _)))) (.inr rfl) rfl fun x60 => ?_
        refine H.o1 8 rfl (by kernel_rfl) (by kernel_rfl) (O.append (T := tt) tt_ok rfl rfl rfl rfl rfl rfl rfl rfl rfl rfl (by (repeat' (first | exact trivial | exact zA | with_reducible refine zI ?_ ?_ | exact zB | exact zC | exact zD | exact zE | rfl | exact zN rfl | omega | assumption | (simp; done) | (simp [splice]; done) | (simp; omega) | (unfold fits; omega) | (unfold fits; simp_all; omega) | (simp_all; omega) | (simp_all; done) | intro _))) ⟨rfl, by decide, by decide⟩ (by simp; omega)) (.inl (by kernel_rfl)) (by kernel_rfl) fun y61 => ?_
        (refine H.ts (T := tt) [9] tt_ok (by kernel_rfl) (by kernel_rfl) (by kernel_rfl) (by intro ch a a' w h; obtain ⟨_, _, _, _, _, h, _⟩ := h; cases h) rfl ?sd28 ?_; (try (case sd28 => (repeat' (first | exact trivial | exact zA | with_reducible refine zI ?_ ?_ | exact zB | exact zC | exact zD | exact zE | rfl | exact zN rfl | omega | assumption | (simp; done) | (simp [splice]; done) | (simp; omega) | (unfold fits; omega) | (unfold fits; simp_all; omega) | (simp_all; omega) | (simp_all; done) | intro _)))))
        (refine H.store (T := tt) 10 rfl (by kernel_rfl) (by kernel_rfl) tt_ok rfl rfl rfl rfl rfl rfl ?sd31 rfl (by kernel_rfl) ?_; (try (case sd31 => (repeat' (first | exact trivial | exact zA | with_reducible refine zI ?_ ?_ | exact zB | exact zC | exact zD | exact zE | rfl | exact zN rfl | omega | assumption | (simp; done) | (simp [splice]; done) | (simp; omega) | (unfold fits; omega) | (unfold fits; simp_all; omega) | (simp_all; omega) | (simp_all; done) | intro _)))))
        refine H.done (by kernel_rfl) ?_
        have hq : partQ l kp (s.ready.getD k default).key = false := by simpa [partQ] using h4
        have hks := keepM_succ (l := l) (k := kp) h3n
        rw [if_neg (by rw [hq]; decide)] at hks
        refine ownAs 91 (gOf Msg.cells (keepM l kp s.ready (k + 1))) rfl (show (keepM l kp s.ready k).length + 1 = (keepM l kp s.ready (k + 1)).length by rw [hks]; simp) (fun i hi => ?_) ?_
        · rw [hks]
          exact app1_h Msg.cells (keepM l kp s.ready k) _ _ rfl rfl hi
        exact fun a w hR => ⟨y61, hR.weakP (by (repeat' (first | exact True.intro | exact Imp.refl _ | refine ⟨?_, ?_⟩))) (by (repeat (first | exact Sub.refl _ | refine Sub.pick (by first | exact p0 | exact pS p0 | exact pS (pS p0) | exact pS (pS (pS p0)) | exact pS (pS (pS (pS p0))) | exact pS (pS (pS (pS (pS p0))))) ?_)))⟩
      · skip
        have hq : partQ l kp (s.ready.getD k default).key = true := by simpa [partQ] using h4
        have hks := keepM_succ (l := l) (k := kp) h3n
        rw [if_pos hq, List.append_nil] at hks
        rw [← hks]
        exact fun a w hR => ⟨yy, hR.weakP (by (repeat' (first | exact True.intro | exact Imp.refl _ | refine ⟨?_, ?_⟩))) (by (repeat (first | exact Sub.refl _ | refine Sub.pick (by first | exact p0 | exact pS p0 | exact pS (pS p0) | exact pS (pS (pS p0)) | exact pS (pS (pS (pS p0))) | exact pS (pS (pS (pS (pS p0))))) ?_)))⟩
    intro y
    try dsimp only
    ((repeat refine S.seq ?_); refine S.region (L.go (T := tt) tt_ok rfl rfl ?sd9 ?_); (try (case sd9 => (repeat' (first | exact trivial | exact zA | with_reducible refine zI ?_ ?_ | exact zB | exact zC | exact zD | exact zE | rfl | exact zN rfl | omega | assumption | (simp; done) | (simp [splice]; done) | (simp; omega) | (unfold fits; omega) | (unfold fits; simp_all; omega) | (simp_all; omega) | (simp_all; done) | intro _)))); try (refine L.nil ?_))
    exact fun a w hR => ⟨⟨(k + 1, y), by show k + 1 ≤ _; omega⟩, by show s.ready.length - (k + 1) < s.ready.length - k; omega, hR.weakP (by (repeat' (first | exact True.intro | exact Imp.refl _ | refine ⟨?_, ?_⟩))) (by (repeat (first | exact Sub.refl _ | refine Sub.pick (by first | exact p0 | exact pS p0 | exact pS (pS p0) | exact pS (pS (pS p0)) | exact pS (pS (pS (pS p0))) | exact pS (pS (pS (pS (pS p0))))) ?_)))⟩
  · have h3 := of_dec' h3
    have hkn : k = s.ready.length := by omega
    subst hkn
    ((repeat refine S.seq ?_); refine S.region (L.go (T := tt) tt_ok rfl rfl ?sd10 ?_); (try (case sd10 => (repeat' (first | exact trivial | exact zA | with_reducible refine zI ?_ ?_ | exact zB | exact zC | exact zD | exact zE | rfl | exact zN rfl | omega | assumption | (simp; done) | (simp [splice]; done) | (simp; omega) | (unfold fits; omega) | (unfold fits; simp_all; omega) | (simp_all; omega) | (simp_all; done) | intro _)))); try (refine L.nil ?_))
    repeat refine S.seq ?_
    refine S.block (S.loop (ι := { p : Nat × Value // p.1 ≤ s.marks.length }) (fun k => [(1, arcs l), (2, .v (.int .i64 kp)), (3, .ptr 3 b3 0), (6, .ptr 6 b6 0), (8, .ptr 8 b8 0), (10, .v (.int .i64 k.1.1))])
      (fun k => [(8, .blk b8 35 [.v (.bool false), .v (.int .i64 s.next), .ref 91 yy, .v (.slice none 0 0), .ref 93 k.1.2]), (91, .own yy 46 5 (keepM l kp s.ready s.ready.length).length (gOf Msg.cells (keepM l kp s.ready s.ready.length))), (93, .own k.1.2 82 3 (keepK l kp s.marks k.1.1).length (gOf Mark.cells (keepK l kp s.marks k.1.1))), (6, .blk b6 35 [.v (.bool false), .v (.int .i64 0), .v (.slice none 0 0), .v (.slice none 0 0), .v (.slice none 0 0)]), (3, .blk b3 35 s.cells)]) (fun k => s.marks.length - k.1.1) ?_ ?_)
    · exact fun a w h => ⟨⟨(0, .slice none 0 0), Nat.zero_le _⟩, h.weakP (by (repeat' (first | exact True.intro | exact Imp.refl _ | refine ⟨?_, ?_⟩))) (by (repeat (first | exact Sub.refl _ | refine Sub.pick (by first | exact p0 | exact pS p0 | exact pS (pS p0) | exact pS (pS (pS p0)) | exact pS (pS (pS (pS p0))) | exact pS (pS (pS (pS (pS p0))))) ?_)))⟩
    rintro ⟨⟨k, zz⟩, hk⟩
    dsimp only at hk ⊢
    have hle2 := keepK_le l kp s.marks k
    ((repeat refine S.seq ?_); refine S.region (L.go (T := tt) tt_ok rfl rfl ?sd11 ?_); (try (case sd11 => (repeat' (first | exact trivial | exact zA | with_reducible refine zI ?_ ?_ | exact zB | exact zC | exact zD | exact zE | rfl | exact zN rfl | omega | assumption | (simp; done) | (simp [splice]; done) | (simp; omega) | (unfold fits; omega) | (unfold fits; simp_all; omega) | (simp_all; omega) | (simp_all; done) | intro _)))); try (refine L.nil ?_))
    ((repeat refine S.seq ?_); refine S.cond rfl (fun h5 => ?_) (fun h5 => ?_) <;> (try first | refine S.skip ?_ | refine S.exit ?_))
    · have h5n : k < s.marks.length := by have := of_dec h5; omega
      repeat refine S.seq ?_
      refine S.block ?_
      ((repeat refine S.seq ?_); refine S.region (L.go (T := tt) tt_ok rfl rfl ?sd12 ?_); (try (case sd12 => (repeat' (first | exact trivial | exact zA | with_reducible refine zI ?_ ?_ | exact zB | exact zC | exact zD | exact zE | rfl | exact zN rfl | omega | assumption | (simp; done) | (simp [splice]; done) | (simp; omega) | (unfold fits; omega) | (unfold fits; simp_all; omega) | (simp_all; omega) | (simp_all; done) | intro _)))); try (refine L.nil ?_))
      refine L.callP rfl rfl rfl rfl rfl rfl rfl ⟨trivial, by (repeat' (first | exact trivial | exact zA | with_reducible refine zI ?_ ?_ | exact zB | exact zC | exact zD | exact zE | rfl | exact zN rfl | omega | assumption | (simp; done) | (simp [splice]; done) | (simp; omega) | (unfold fits; omega) | (unfold fits; simp_all; omega) | (simp_all; omega) | (simp_all; done) | intro _))⟩ rfl (Imps.refl _) (rof_p (s.marks.getD k default).key (hkm _ (by rw [getD_get (by omega)]; exact List.getElem_mem _))) ?_
      refine L.callP rfl rfl rfl rfl rfl rfl rfl ⟨trivial, by (repeat' (first | exact trivial | exact zA | with_reducible refine zI ?_ ?_ | exact zB | exact zC | exact zD | exact zE | rfl | exact zN rfl | omega | assumption | (simp; done) | (simp [splice]; done) | (simp; omega) | (unfold fits; omega) | (unfold fits; simp_all; omega) | (simp_all; omega) | (simp_all; done) | intro _))⟩ rfl (Imps.refl _) (rowner_p l (ofP (s.marks.getD k default).key)) ?_
      (refine L.go (T := tt) tt_ok rfl rfl ?sd21 ?_; (try (case sd21 => (repeat' (first | exact trivial | exact zA | with_reducible refine zI ?_ ?_ | exact zB | exact zC | exact zD | exact zE | rfl | exact zN rfl | omega | assumption | (simp; done) | (simp [splice]; done) | (simp; omega) | (unfold fits; omega) | (unfold fits; simp_all; omega) | (simp_all; omega) | (simp_all; done) | intro _)))); try (refine L.nil ?_))
      refine S.cut (ι := Value) (fun y => [(1, arcs l), (2, .v (.int .i64 kp)), (3, .ptr 3 b3 0), (6, .ptr 6 b6 0), (8, .ptr 8 b8 0), (10, .v (.int .i64 k))]) (fun y => [(8, .blk b8 35 [.v (.bool false), .v (.int .i64 s.next), .ref 91 yy, .v (.slice none 0 0), .ref 93 y]), (91, .own yy 46 5 (keepM l kp s.ready s.ready.length).length (gOf Msg.cells (keepM l kp s.ready s.ready.length))), (93, .own y 82 3 (keepK l kp s.marks (k + 1)).length (gOf Mark.cells (keepK l kp s.marks (k + 1)))), (6, .blk b6 35 [.v (.bool false), .v (.int .i64 0), .v (.slice none 0 0), .v (.slice none 0 0), .v (.slice none 0 0)]), (3, .blk b3 35 s.cells)]) ?_ ?_
      · ((repeat refine S.seq ?_); refine S.cond rfl (fun h6 => ?_) (fun h6 => ?_) <;> (try first | refine S.skip ?_ | refine S.exit ?_))
        · skip
          repeat refine S.seq ?_
          refine S.draw [(1, [8]), (3, [3])] mixed ?_
          (refine H.ts (T := tt) [0, 1, 2, 3, 4, 5, 6] tt_ok (by kernel_rfl) (by kernel_rfl) (by kernel_rfl) (by intro ch a a' w h; obtain ⟨_, _, _, _, _, h, _⟩ := h; cases h) rfl ?sd29 ?_; (try (case sd29 => (repeat' (first | exact trivial | exact zA | with_reducible refine zI ?_ ?_ | exact zB | exact zC | exact zD | exact zE | rfl | exact zN rfl | omega | assumption | (simp; done) | (simp [splice]; done) | (simp; omega) | (unfold fits; omega) | (unfold fits; simp_all; omega) | (simp_all; omega) | (simp_all; done) | intro _)))))
          refine H.o1 7 rfl (by kernel_rfl) (by kernel_rfl) (O.buildSlice (T := tt) 88 tt_ok rfl rfl rfl rfl rfl rfl (by decide) (by decide) rfl rfl (by (repeat' (first | exact trivial | exact zA | with_reducible refine zI ?_ ?_ | exact zB | exact zC | exact zD | exact zE | rfl | exact zN rfl | omega | assumption | (simp; done) | (simp [splice]; done) | (simp; omega) | (unfold fits; omega) | (unfold fits; simp_all; omega) | (simp_all; omega) | (simp_all; done) | intro _)))) (.inr rfl) rfl fun x88 => ?_
          refine H.o1 8 rfl (by kernel_rfl) (by kernel_rfl) (O.append (T := tt) tt_ok rfl rfl rfl rfl rfl rfl rfl rfl rfl rfl (by (repeat' (first | exact trivial | exact zA | with_reducible refine zI ?_ ?_ | exact zB | exact zC | exact zD | exact zE | rfl | exact zN rfl | omega | assumption | (simp; done) | (simp [splice]; done) | (simp; omega) | (unfold fits; omega) | (unfold fits; simp_all; omega) | (simp_all; omega) | (simp_all; done) | intro _))) ⟨rfl, by decide, by decide⟩ (by simp; omega)) (.inl (by kernel_rfl)) (by kernel_rfl) fun y89 => ?_
          (refine H.ts (T := tt) [9] tt_ok (by kernel_rfl) (by kernel_rfl) (by kernel_rfl) (by intro ch a a' w h; obtain ⟨_, _, _, _, _, h, _⟩ := h; cases h) rfl ?sd30 ?_; (try (case sd30 => (repeat' (first | exact trivial | exact zA | with_reducible refine zI ?_ ?_ | exact zB | exact zC | exact zD | exact zE | rfl | exact zN rfl | omega | assumption | (simp; done) | (simp [splice]; done) | (simp; omega) | (unfold fits; omega) | (unfold fits; simp_all; omega) | (simp_all; omega) | (simp_all; done) | intro _)))))
          (refine H.store (T := tt) 10 rfl (by kernel_rfl) (by kernel_rfl) tt_ok rfl rfl rfl rfl rfl rfl ?sd32 rfl (by kernel_rfl) ?_; (try (case sd32 => (repeat' (first | exact trivial | exact zA | with_reducible refine zI ?_ ?_ | exact zB | exact zC | exact zD | exact zE | rfl | exact zN rfl | omega | assumption | (simp; done) | (simp [splice]; done) | (simp; omega) | (unfold fits; omega) | (unfold fits; simp_all; omega) | (simp_all; omega) | (simp_all; done) | intro _)))))
          refine H.done (by kernel_rfl) ?_
          have hq : partQ l kp (s.marks.getD k default).key = false := by simpa [partQ] using h6
          have hks := keepK_succ (l := l) (k := kp) h5n
          rw [if_neg (by rw [hq]; decide)] at hks
          refine ownAs 93 (gOf Mark.cells (keepK l kp s.marks (k + 1))) rfl (show (keepK l kp s.marks k).length + 1 = (keepK l kp s.marks (k + 1)).length by rw [hks]; simp) (fun i hi => ?_) ?_
          · rw [hks]
            exact app1_h Mark.cells (keepK l kp s.marks k) _ _ rfl rfl hi
          exact fun a w hR => ⟨y89, hR.weakP (by (repeat' (first | exact True.intro | exact Imp.refl _ | refine ⟨?_, ?_⟩))) (by (repeat (first | exact Sub.refl _ | refine Sub.pick (by first | exact p0 | exact pS p0 | exact pS (pS p0) | exact pS (pS (pS p0)) | exact pS (pS (pS (pS p0))) | exact pS (pS (pS (pS (pS p0))))) ?_)))⟩
        · skip
          have hq : partQ l kp (s.marks.getD k default).key = true := by simpa [partQ] using h6
          have hks := keepK_succ (l := l) (k := kp) h5n
          rw [if_pos hq, List.append_nil] at hks
          rw [← hks]
          exact fun a w hR => ⟨zz, hR.weakP (by (repeat' (first | exact True.intro | exact Imp.refl _ | refine ⟨?_, ?_⟩))) (by (repeat (first | exact Sub.refl _ | refine Sub.pick (by first | exact p0 | exact pS p0 | exact pS (pS p0) | exact pS (pS (pS p0)) | exact pS (pS (pS (pS p0))) | exact pS (pS (pS (pS (pS p0))))) ?_)))⟩
      intro y
      try dsimp only
      ((repeat refine S.seq ?_); refine S.region (L.go (T := tt) tt_ok rfl rfl ?sd13 ?_); (try (case sd13 => (repeat' (first | exact trivial | exact zA | with_reducible refine zI ?_ ?_ | exact zB | exact zC | exact zD | exact zE | rfl | exact zN rfl | omega | assumption | (simp; done) | (simp [splice]; done) | (simp; omega) | (unfold fits; omega) | (unfold fits; simp_all; omega) | (simp_all; omega) | (simp_all; done) | intro _)))); try (refine L.nil ?_))
      exact fun a w hR => ⟨⟨(k + 1, y), by show k + 1 ≤ _; omega⟩, by show s.marks.length - (k + 1) < s.marks.length - k; omega, hR.weakP (by (repeat' (first | exact True.intro | exact Imp.refl _ | refine ⟨?_, ?_⟩))) (by (repeat (first | exact Sub.refl _ | refine Sub.pick (by first | exact p0 | exact pS p0 | exact pS (pS p0) | exact pS (pS (pS p0)) | exact pS (pS (pS (pS p0))) | exact pS (pS (pS (pS (pS p0))))) ?_)))⟩
    · have h5 := of_dec' h5
      have hkn : k = s.marks.length := by omega
      subst hkn
      repeat refine S.seq ?_
      refine freezeCell 8 2 91 rfl rfl rfl rfl (freezeCell 8 4 93 rfl rfl rfl rfl ?_)
      ((repeat refine S.seq ?_); refine S.region (L.go (T := tt) tt_ok rfl rfl ?sd14 ?_); (try (case sd14 => (repeat' (first | exact trivial | exact zA | with_reducible refine zI ?_ ?_ | exact zB | exact zC | exact zD | exact zE | rfl | exact zN rfl | omega | assumption | (simp; done) | (simp [splice]; done) | (simp; omega) | (unfold fits; omega) | (unfold fits; simp_all; omega) | (simp_all; omega) | (simp_all; done) | intro _)))); try (refine L.nil ?_))
      (refine L.store (T := tt) tt_ok rfl rfl rfl rfl rfl rfl ?sd26 ?_; (try (case sd26 => (repeat' (first | exact trivial | exact zA | with_reducible refine zI ?_ ?_ | exact zB | exact zC | exact zD | exact zE | rfl | exact zN rfl | omega | assumption | (simp; done) | (simp [splice]; done) | (simp; omega) | (unfold fits; omega) | (unfold fits; simp_all; omega) | (simp_all; omega) | (simp_all; done) | intro _)))))
      (refine L.go (T := tt) tt_ok rfl rfl ?sd22 ?_; (try (case sd22 => (repeat' (first | exact trivial | exact zA | with_reducible refine zI ?_ ?_ | exact zB | exact zC | exact zD | exact zE | rfl | exact zN rfl | omega | assumption | (simp; done) | (simp [splice]; done) | (simp; omega) | (unfold fits; omega) | (unfold fits; simp_all; omega) | (simp_all; omega) | (simp_all; done) | intro _)))); try (refine L.nil ?_))
      (((repeat refine S.seq ?_); refine S.ret ?_); refine E.retP (T := tt) tt_ok rfl rfl (by (repeat' (first | exact trivial | exact zA | with_reducible refine zI ?_ ?_ | exact zB | exact zC | exact zD | exact zE | rfl | exact zN rfl | omega | assumption | (simp; done) | (simp [splice]; done) | (simp; omega) | (unfold fits; omega) | (unfold fits; simp_all; omega) | (simp_all; omega) | (simp_all; done) | intro _))) ?_)
      rw [part, if_pos e]
      have k1 : keepM l kp s.ready s.ready.length = s.ready.filter fun m => !partQ l kp m.key := by unfold keepM; rw [List.take_length]
      have k2 : keepK l kp s.marks s.marks.length = s.marks.filter fun m => !partQ l kp m.key := by unfold keepK; rw [List.take_length]
      refine Imp.tup ⟨Imp.agg ⟨Imp.refl _, Imp.refl _, Imp.of_eq (by rw [k1]; rfl), ?_, Imp.of_eq (by rw [k2]; rfl), trivial⟩, Imp.refl _, trivial⟩
      show Imp _ (helds s.held)
      rw [hh]
      exact Imp.nil _ _

end Go.Proofs.Ytgnklbdbglnmaaa

/- Arcs that come in. -/
namespace Go.Proofs.Ytgnklbdbglnmaaa
set_option linter.unusedVariables false
set_option linter.unusedSimpArgs false
set_option maxHeartbeats 8000000
open Go.RowKit

theorem u_u32 : Try.prog.underlying 71 = some (.int .u32) := by kernel_rfl
theorem rd_arc : RdP Try.prog 100 Arc.cells (fun _ => True) :=
  (rd_struct (T := tt) tt_ok rfl rfl rfl (rdf_cons (rd_int u_u32) (rdf_cons r_int rdf_nil))).map (fun d => ⟨d.1, d.2.1⟩) (fun _ => rfl) fun d h => trivial
theorem rd_arcs : RdP Try.prog 67 (fun l : List Arc => [arcs l]) (fun l => l.length ≤ maxLen ∧ ∀ m ∈ l, True) := rd_slice (sz := 2) (by kernel_rfl) (by kernel_rfl) (fun _ => rfl) rd_arc

end Go.Proofs.Ytgnklbdbglnmaaa
