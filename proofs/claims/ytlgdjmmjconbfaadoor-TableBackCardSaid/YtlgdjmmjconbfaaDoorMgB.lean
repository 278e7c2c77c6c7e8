/- Texts of this proof, laid together: SymMem, SymMake, SymAppend, SymCode, SymRet, SymDraw, SymMap, SymMore, SymBldB. -/
import Derived.Test.YtlgdjmmjconbfaaDoorMgA
import Derived.Laws.AppendOwnNone
import Derived.OrdersHeld
import Derived.Maps.Own
import Derived.Lib.SliceRun
/- Steps that write or make memory, on abstract values. -/
namespace Go.Proofs.YtlgdjmmjconbfaaDoor
set_option linter.unusedVariables false
set_option linter.unusedSimpArgs false
open Go.RowKit

/-- Another row in the place of one. -/
def setF (id i' : Nat) (r : Row) : Rows → Rows
  | [] => []
  | (k, s) :: t => if k = id then (i', r) :: t else (k, s) :: setF id i' r t
theorem setF_split {F : Rows} {id : Nat} {r : Row} (h : F.lookup id = some r) : ∃ L1 L2, F = L1 ++ (id, r) :: L2 ∧ ∀ i' r', setF id i' r' F = L1 ++ (i', r') :: L2 := by
  induction F with
  | nil => cases h
  | cons p t ih =>
    obtain ⟨k, s⟩ := p
    rw [lookup_cons] at h
    split at h
    · rename_i e; cases h; subst e; exact ⟨[], t, rfl, fun i' r' => by simp [setF]⟩
    · rename_i e
      obtain ⟨L1, L2, h1, h2⟩ := ih h
      refine ⟨(k, s) :: L1, L2, by rw [h1]; rfl, fun i' r' => ?_⟩
      rw [setF, if_neg (fun e' => e e'.symm), h2]
      rfl

def storeA (T : Types) (F : Rows) (t : TypeId) (A B : AV) : Option (Nat × Rows × Prop) :=
  match tsz T t, cellsOf B with
  | some n, some ds =>
    match A with
    | .ptr id b o => match F.lookup id with
      | some (.blk b' T' cs) => some (id, setF id id (.blk b' T' (splice cs o ds)) F, b = b' ∧ ds.length = n ∧ o + ds.length ≤ cs.length)
      | _ => none
    | .eptr id x sz k o => match F.lookup id with
      | some (.own x' E sz' m g) => some (id, setF id id (.own x' E sz' m (fun i => if i = k then splice (g k) o ds else g i)) F, x = x' ∧ sz = sz' ∧ k < m ∧ ds.length = n ∧ o + ds.length ≤ sz)
      | _ => none
    | _ => none
  | _, _ => none

section
variable {P : Program} {T : Types} {c : Ctx} {σ : Slots} {F : Rows} {Q : Exit → Act → World → Prop} {ops : Array Oper} {rest : List Oper} {o : Oper}

theorem setRow_all (w : World) (g : Nat) (cs : Array Value) : (w.setRow g cs).os = w.os ∧ (w.setRow g cs).tape = w.tape ∧ (w.setRow g cs).output = w.output ∧ (w.setRow g cs).heap.size = w.heap.size := by
  refine ⟨rfl, rfl, rfl, by simp [World.setRow]⟩

/-- A step that writes one row over. -/
theorem R.write {a : Act} {w : World} (hR : R c σ F a w) {id : Nat} {r r' : Row} (hrow : F.lookup id = some r) {w' : World} (hs : w.heap.size ≤ w'.heap.size) (hos : w'.os = w.os) (htp : w'.tape = w.tape) (hou : w'.output = w.output)
    (hb : ∀ b, b < w.heap.size → r.block ≠ some b → w'.heap[b]? = w.heap[b]?) (hk : ∀ b, r'.block = some b → r.block = some b ∨ w.heap.size ≤ b) {i' : Nat}
    (hr : Ext (Own c.off F) (Own c.off (setF id i' r' F)) w w' → r'.sat (Own c.off (setF id i' r' F)) w') :
    Kept c.fo c.w0 w' ∧ (∀ s ∈ setF id i' r' F, ∀ b, s.2.block = some b → c.fo b ∨ c.w0.heap.size ≤ b) ∧ Sat c.off (setF id i' r' F) w' ∧ Stp c F (setF id i' r' F) w w' [id] := by
  obtain ⟨L1, L2, h1, h2⟩ := setF_split hrow
  rw [h2] at hr ⊢
  have hsat := hR.sat
  rw [h1] at hr hsat
  obtain ⟨g1, g2⟩ := hsat.turn hR.off hs hb hk hr
  have hfr : ∀ b, r.block = some b → c.fo b ∨ c.w0.heap.size ≤ b := fun b hb => hR.fresh (id, r) (by rw [h1]; simp) b hb
  have hk0 := hR.kept.size
  have hsame : ∀ s ∈ F, s.1 ∉ [id] → (∀ b, s.2.block = some b → w'.heap[b]? = w.heap[b]?) ∧ s ∈ L1 ++ (i', r') :: L2 := by
    intro s hs hn
    rw [h1] at hs
    obtain ⟨n1, n2, n3⟩ := List.pairwise_append.1 hsat.nodup
    rw [List.pairwise_cons] at n2
    have hsz : ∀ b, s.2.block = some b → b < w.heap.size := fun b hb => hsat.lt hs hb
    rcases List.mem_append.1 hs with h3 | h3
    · exact ⟨fun b e => hb b (hsz b e) fun e' => n3 s h3 (id, r) (by simp) b e e', by simp [h3]⟩
    · rcases List.mem_cons.1 h3 with rfl | h3
      · simp at hn
      · exact ⟨fun b e => hb b (hsz b e) fun e' => n2.1 s h3 b e' e, by simp [h3]⟩
  refine ⟨⟨hos.trans hR.kept.os, htp.trans hR.kept.tape, hou.trans hR.kept.output, Nat.le_trans hk0 hs, fun b hlt hn => ?_⟩, fun s hs' b hsb => ?_, g1, ⟨by rw [h1]; exact g2, fun s hs hn => (hsame s hs hn).1, fun s hs hn => (hsame s hs hn).2⟩⟩
  · rw [hb b (by omega) (fun e => by rcases hfr b e with h | h; exact hn h; omega)]
    exact hR.kept.block b hlt hn
  · rcases List.mem_append.1 hs' with h3 | h3
    · exact hR.fresh s (by rw [h1]; simp [h3]) b hsb
    · rcases List.mem_cons.1 h3 with rfl | h3
      · rcases hk b hsb with h4 | h4
        · exact hfr b h4
        · exact .inr (by omega)
      · exact hR.fresh s (by rw [h1]; simp [h3]) b hsb

theorem flat_splice {own : Nat → Prop} {w : World} {us ds' : List Value} {cs ds : List AV} {o : Nat} (hl : us.length = cs.length) (h1 : ∀ u ∈ us, u.oneCell' = true) (hr : ∀ (j : Nat) A u, cs[j]? = some A → us[j]? = some u → Rep own w A u)
    (hl' : ds'.length = ds.length) (h1' : ∀ u ∈ ds', u.oneCell' = true) (hr' : ∀ (j : Nat) A u, ds[j]? = some A → ds'[j]? = some u → Rep own w A u) (ho : o + ds.length ≤ cs.length) :
    (splice us o ds').length = (splice cs o ds).length ∧ (∀ u ∈ splice us o ds', u.oneCell' = true) ∧ ∀ (j : Nat) A u, (splice cs o ds)[j]? = some A → (splice us o ds')[j]? = some u → Rep own w A u := by
  have ho' : o + ds'.length ≤ us.length := by omega
  refine ⟨by rw [splice_length ho, splice_length ho', hl], fun u hu => ?_, fun j A u hA hu => ?_⟩
  · obtain ⟨j, hj⟩ := List.getElem?_of_mem hu
    rw [splice_get ho'] at hj
    split at hj
    · exact h1' u (List.mem_of_getElem? hj)
    · exact h1 u (List.mem_of_getElem? hj)
  · rw [splice_get ho] at hA
    rw [splice_get ho', hl'] at hu
    split at hu
    · rename_i hc; rw [if_pos hc] at hA; exact hr' _ A u hA hu
    · rename_i hc; rw [if_neg hc] at hA; exact hr j A u hA hu

/-- A store. -/
theorem O.store {t : TypeId} {x y : Operand} {A B : AV} {p q C : Prop} {F' : Rows} {rid : Nat} (hT : TOk P T) (ho : o.op = .store t x y) (hg : o.guard = none) (hd : o.dst = none) (hx : evalS σ x = some (A, p)) (hy : evalS σ y = some (B, q)) (hs : storeA T F t A B = some (rid, F', C))
    (hC : p ∧ q ∧ C) : O P ops c o σ F Q [rid] Unit (fun _ => σ) (fun _ => F') := by
  intro a w hR K hK
  refine Op1.plain hg ?_
  obtain ⟨hp, hq, hC⟩ := hC
  have hA := hR.evals hx hp
  have hB := hR.evals hy hq
  unfold storeA at hs
  split at hs
  case h_2 => cases hs
  case h_1 n ds hn hds =>
    obtain ⟨i, hi, rfl⟩ := tsz_some hn
    obtain ⟨g1, g2, g3⟩ := cellsOf_rep hB hds
    have hvs : (a.eval y).cells.size = ds.length := by rw [← Array.length_toList, g1]
    split at hs
    · rename_i id b off
      split at hs
      case h_2 => cases hs
      case h_1 b' T' cs hrow =>
        cases hs
        obtain ⟨rfl, hsz, hle⟩ := hC
        have hA' : a.eval x = .pointer (some ⟨b, off, none⟩) := by generalize a.eval x = v at hA; cases hA; rfl
        obtain ⟨us, hh, hl, h1, hr⟩ := hR.sat.at hrow
        have hrun := run_storeCells_at P b off T' (a.eval y).cells.toList 0 us.toArray w hh (by rw [g1]; simp; omega) g2
        simp only [Nat.add_zero] at hrun
        have hst : (storeVar t ⟨b, off, none⟩ (a.eval y)).run P w = .ok () (w.setRow b (splice us off (a.eval y).cells.toList).toArray) := by
          unfold storeVar
          simp only [Sem.run_bind, (hT.told hi).size, Result.andThen_ok]
          rw [if_neg (by simp; omega)]
          simpa [splice] using hrun
        have hgive : (execOp a.eval o).run P w = .ok .skip (w.setRow b (splice us off (a.eval y).cells.toList).toArray) := by
          simp [execOp, ho, hA', Instr.storeAt, Instr.sureAddr, hst]
        obtain ⟨w1, w2, w3, w4⟩ := setRow_all w b (splice us off (a.eval y).cells.toList).toArray
        obtain ⟨k1, k2, k3, k4⟩ := hR.write (i' := rid) (r' := .blk b T' (splice cs off ds)) hrow (w' := w.setRow b (splice us off (a.eval y).cells.toList).toArray) (by omega) w1 w2 w3
          (fun b' hlt hne => setRow_other w b b' _ (fun e => hne (by rw [e]; rfl))) (fun b' hb' => .inl hb') (fun he => by
            obtain ⟨f1, f2, f3⟩ := flat_splice (own := Own c.off (setF rid rid (.blk b T' (splice cs off ds)) F)) (w := w.setRow b (splice us off (a.eval y).cells.toList).toArray) hl h1 (fun j A u hA hu => (hr j A u hA hu).ext he) g1 g2 (fun j A u hA hu => (g3 j A u hA hu).ext he) hle
            exact ⟨_, setRow_heap w b us.toArray _ T' (0, 0) hh, f1, f2, f3⟩)
        simp only [Oper.wp]
        rw [hgive, Oper.upon_skip, hd]
        exact hK () _ _ (hR.step_none k1 k2 k3 k4.ext) k4 ⟨undef, by rw [hd]⟩
    · rename_i id x' sz k off
      split at hs
      case h_2 => cases hs
      case h_1 x0 E' sz' m g hrow =>
        cases hs
        obtain ⟨rfl, rfl, hkm, hsz, hle⟩ := hC
        have hA' : a.eval x = .pointer (some ((headOf x').add (k * sz + off))) := by generalize a.eval x = v at hA; cases hA; rfl
        obtain ⟨us, ho', hlen, h1, hr⟩ := hR.sat.at hrow
        obtain ⟨hus, hown⟩ := ho'
        rcases hown with ⟨-, rfl⟩ | ⟨g', cap, cur, rfl, -, hh, hmc, hcm, hcs, htk⟩
        · omega
        · have hkk : k * sz + sz ≤ m * sz := by have := Nat.mul_le_mul_right sz (show k + 1 ≤ m by omega); rw [Nat.add_mul, Nat.one_mul] at this; exact this
          have hmm : m * sz ≤ cap * sz := Nat.mul_le_mul_right _ hmc
          have haddr : (headOf (.slice (some ⟨g', 0, none⟩) m cap)).add (k * sz + off) = ⟨g', k * sz + off, none⟩ := by rw [show headOf (.slice (some ⟨g', 0, none⟩) m cap) = ⟨g', 0, none⟩ from rfl, addr_add_lit, Nat.zero_add]
          rw [haddr] at hA'
          have hcl : cur.toList.length = cap * sz := by rw [Array.length_toList, hcs]
          have hrun := run_storeCells_at P g' (k * sz + off) E' (a.eval y).cells.toList 0 cur w hh (by rw [g1, ← Array.length_toList, hcl]; omega) g2
          simp only [Nat.add_zero] at hrun
          have hst : (storeVar t ⟨g', k * sz + off, none⟩ (a.eval y)).run P w = .ok () (w.setRow g' (splice cur.toList (k * sz + off) (a.eval y).cells.toList).toArray) := by
            unfold storeVar
            simp only [Sem.run_bind, (hT.told hi).size, Result.andThen_ok]
            rw [if_neg (by simp; omega)]
            simpa [splice] using hrun
          have hgive : (execOp a.eval o).run P w = .ok .skip (w.setRow g' (splice cur.toList (k * sz + off) (a.eval y).cells.toList).toArray) := by
            simp [execOp, ho, hA', Instr.storeAt, Instr.sureAddr, hst]
          have hbound : k * sz + off + (a.eval y).cells.toList.length ≤ us.length := by rw [g1, hus]; omega
          have hbound' : k * sz + off + (a.eval y).cells.toList.length ≤ cur.toList.length := by rw [g1, hcl]; omega
          obtain ⟨w1, w2, w3, w4⟩ := setRow_all w g' (splice cur.toList (k * sz + off) (a.eval y).cells.toList).toArray
          obtain ⟨k1, k2, k3, k4⟩ := hR.write (i' := rid) (r' := .own (.slice (some ⟨g', 0, none⟩) m cap) E' sz m (fun i => if i = k then splice (g k) off ds else g i)) hrow (w' := w.setRow g' (splice cur.toList (k * sz + off) (a.eval y).cells.toList).toArray) (by omega) w1 w2 w3
            (fun b' hlt hne => setRow_other w g' b' _ (fun e => hne (by rw [e]; rfl))) (fun b' hb' => .inl hb') (fun he => by
              have hlk := hlen k hkm
              refine ⟨splice us (k * sz + off) (a.eval y).cells.toList, ⟨by rw [splice_length hbound, hus], .inr ⟨g', cap, _, rfl, Nat.zero_le _, setRow_heap w g' cur _ E' (0, 0) hh, hmc, hcm, by rw [← hcs, List.size_toArray, splice_length hbound', Array.length_toList], ?_⟩⟩, fun i hi => ?_, fun u hu => ?_, fun i hi j A hA => ?_⟩
              · apply List.ext_getElem?
                intro j
                simp only [List.getElem?_take]
                rw [splice_get hbound, splice_get hbound']
                by_cases hj : j < m * sz
                · rw [if_pos hj, ← htk, List.getElem?_take, if_pos hj]
                · rw [if_neg hj, if_neg (by rw [hus] at hbound; omega)]
                  exact (List.getElem?_eq_none (by omega)).symm
              · simp only
                split
                · rename_i e; subst e; rw [splice_length (by omega)]; exact hlk
                · exact hlen i hi
              · obtain ⟨j, hj⟩ := List.getElem?_of_mem hu
                rw [splice_get hbound] at hj
                split at hj
                · exact g2 u (List.mem_of_getElem? hj)
                · exact h1 u (List.mem_of_getElem? hj)
              · rw [splice_get hbound]
                simp only at hA
                by_cases e : i = k
                · subst e
                  rw [if_pos rfl, splice_get (by omega)] at hA
                  rw [g1]
                  split at hA
                  · rename_i hc
                    rw [if_pos (by omega), show i * sz + j - (i * sz + off) = j - off by omega]
                    have hlt := (List.getElem?_eq_some_iff.1 hA).1
                    have hx := List.getElem?_eq_getElem (l := (a.eval y).cells.toList) (i := j - off) (by rw [g1]; exact hlt)
                    exact ⟨_, hx, (g3 _ A _ hA hx).ext he⟩
                  · rename_i hc
                    have hjlt := (List.getElem?_eq_some_iff.1 hA).1
                    rw [if_neg (by omega)]
                    obtain ⟨u, hu, hrep⟩ := hr i hi j A hA
                    exact ⟨u, hu, hrep.ext he⟩
                · rw [if_neg e] at hA
                  have hjlt := (List.getElem?_eq_some_iff.1 hA).1
                  rw [hlen i hi] at hjlt
                  have hne : ¬ (k * sz + off ≤ i * sz + j ∧ i * sz + j < k * sz + off + (a.eval y).cells.toList.length) := by
                    rw [g1]
                    rcases Nat.lt_or_ge i k with h | h
                    · have := Nat.mul_le_mul_right sz (show i + 1 ≤ k by omega); rw [Nat.add_mul, Nat.one_mul] at this; omega
                    · have := Nat.mul_le_mul_right sz (show k + 1 ≤ i by omega); rw [Nat.add_mul, Nat.one_mul] at this; omega
                  rw [if_neg hne]
                  obtain ⟨u, hu, hrep⟩ := hr i hi j A hA
                  exact ⟨u, hu, hrep.ext he⟩)
          simp only [Oper.wp]
          rw [hgive, Oper.upon_skip, hd]
          exact hK () _ _ (hR.step_none k1 k2 k3 k4.ext) k4 ⟨undef, by rw [hd]⟩
    · cases hs

theorem L.store {t : TypeId} {x y : Operand} {A B : AV} {p q C : Prop} {F' : Rows} {k : Nat} (hT : TOk P T) (ho : o.op = .store t x y) (hg : o.guard = none) (hd : o.dst = none) (hx : evalS σ x = some (A, p)) (hy : evalS σ y = some (B, q)) (hs : storeA T F t A B = some (k, F', C))
    (hC : p ∧ q ∧ C) (next : L P ops c rest σ F' Q) : L P ops c (o :: rest) σ F Q := L.of (O.store hT ho hg hd hx hy hs hC) fun _ => next

end

end Go.Proofs.YtlgdjmmjconbfaaDoor

/- Steps that make memory, and appends, on abstract values. -/
namespace Go.Proofs.YtlgdjmmjconbfaaDoor
set_option linter.unusedVariables false
set_option linter.unusedSimpArgs false
open Go.RowKit

section
variable {P : Program} {T : Types} {c : Ctx} {σ : Slots} {F : Rows} {Q : Exit → Act → World → Prop} {ops : Array Oper} {rest : List Oper} {o : Oper}

theorem heap_alloc_size (w : World) (x : Obj) : (w.alloc x).heap.size = w.heap.size + 1 := by simp

/-- A step that makes a row. -/
theorem R.make {a : Act} {w : World} (hR : R c σ F a w) {r : Row} (x : Obj) {i : Nat} (hk : ∀ b, r.block = some b → w.heap.size ≤ b)
    (hr : Ext (Own c.off F) (Own c.off ((i, r) :: F)) w (w.alloc x) → r.sat (Own c.off ((i, r) :: F)) (w.alloc x)) :
    Kept c.fo c.w0 (w.alloc x) ∧ (∀ s ∈ (i, r) :: F, ∀ b, s.2.block = some b → c.fo b ∨ c.w0.heap.size ≤ b) ∧ Sat c.off ((i, r) :: F) (w.alloc x) ∧ Stp c F ((i, r) :: F) w (w.alloc x) [] := by
  obtain ⟨g1, g2⟩ := hR.sat.add hR.off (i := i) (w' := w.alloc x) (by simp) (fun b hlt => Below.heap_alloc _ _ _ hlt) hk hr
  refine ⟨hR.kept.alloc x, fun s hs b hsb => ?_, g1, g2, fun s hs _ b hb => Below.heap_alloc _ _ _ (hR.sat.lt hs hb), fun s hs _ => by simp [hs]⟩
  rcases List.mem_cons.1 hs with rfl | h3
  · exact .inr (Nat.le_trans hR.kept.size (hk b hsb))
  · exact hR.fresh s h3 b hsb

theorem new_blk {a : Act} {w : World} (hR : R c σ F a w) (i : Nat) (T' : TypeId) {us : Array Value} {cs : List AV} (hl : us.toList.length = cs.length) (h1 : ∀ u ∈ us.toList, u.oneCell' = true) (hr : ∀ (j : Nat) A u, cs[j]? = some A → us.toList[j]? = some u → Rep (Own c.off F) w A u) :
    Kept c.fo c.w0 (w.alloc (.cells us T')) ∧ (∀ s ∈ (i, Row.blk w.heap.size T' cs) :: F, ∀ b, s.2.block = some b → c.fo b ∨ c.w0.heap.size ≤ b) ∧ Sat c.off ((i, .blk w.heap.size T' cs) :: F) (w.alloc (.cells us T')) ∧
      Stp c F ((i, .blk w.heap.size T' cs) :: F) w (w.alloc (.cells us T')) [] :=
  hR.make (.cells us T') (fun b hb => by cases hb; exact Nat.le_refl _) fun he => ⟨us.toList, by simpa using heap_alloc_new w (.cells us T'), hl, h1, fun j A u hA hu => (hr j A u hA hu).ext he⟩

/-- A variable in memory that begins with a value. -/
theorem O.box {t : TypeId} {x : Operand} {A : AV} {p : Prop} {cs : List AV} {d : Nat} (i : Nat) (ho : o.op = .box t x) (hg : o.guard = none) (hd : o.dst = some d) (hdN : Nat.blt d c.N = true) (hx : evalS σ x = some (A, p)) (hp : p) (hcs : cellsOf A = some cs)
    : O P ops c o σ F Q [] Nat (fun b => (d, .ptr i b 0) :: σ) (fun b => (i, .blk b t cs) :: F) := by
  intro a w hR K hK
  refine Op1.plain hg ?_
  obtain ⟨g1, g2, g3⟩ := cellsOf_rep (hR.evals hx hp) hcs
  obtain ⟨k1, k2, k3, k4⟩ := new_blk hR i t g1 g2 g3
  have hgive : (execOp a.eval o).run P w = .ok (.value (.pointer (some ⟨w.heap.size, 0, none⟩))) (w.alloc (.cells (a.eval x).cells t)) := by
    simp [execOp, ho, Instr.box, newVar, newRow]
  simp only [Oper.wp]
  rw [hgive, Oper.upon_value, hd]
  exact hK _ _ _ (hR.step (of_blt hdN) k1 k2 k3 k4.ext (.ptr _ _ _)) k4 ⟨_, by rw [hd]⟩

/-- A variable in memory. -/
theorem O.alloc {t : TypeId} {n : TI} {d : Nat} (i : Nat) (hT : TOk P T) (ho : o.op = .alloc t) (hg : o.guard = none) (hd : o.dst = some d) (hdN : Nat.blt d c.N = true) (ht : T.lookup t = some n)
    : O P ops c o σ F Q [] Nat (fun b => (d, .ptr i b 0) :: σ) (fun b => (i, .blk b t (n.zero.map .v)) :: F) := by
  intro a w hR K hK
  refine Op1.plain hg ?_
  have told := hT.told ht
  obtain ⟨z, hz, hzr⟩ := told.run_zero
  obtain ⟨k1, k2, k3, k4⟩ := new_blk hR i t (us := z.cells) (cs := n.zero.map .v) (by rw [hz]; simp) (by rw [hz]; exact told.zone) (fun j A u hA hu => by
    rw [hz] at hu
    rw [List.getElem?_map, hu] at hA
    cases hA
    exact .v _)
  have hgive : (execOp a.eval o).run P w = .ok (.value (.pointer (some ⟨w.heap.size, 0, none⟩))) (w.alloc (.cells z.cells t)) := by
    simp [execOp, ho, Instr.alloc, hzr, newVar, newRow]
  simp only [Oper.wp]
  rw [hgive, Oper.upon_value, hd]
  exact hK _ _ _ (hR.step (of_blt hdN) k1 k2 k3 k4.ext (.ptr _ _ _)) k4 ⟨_, by rw [hd]⟩

/-- A row of one's own out of flat cells. -/
def rowsOf (sz : Nat) (cs : List AV) (i : Nat) : List AV := (cs.drop (i * sz)).take sz

theorem sat_own_flat {own : Nat → Prop} {w : World} {b E sz n : Nat} {us : List Value} {cs : List AV} (hh : w.heap[b]? = some (.cells us.toArray E (0, 0))) (hn : us.length = n * sz) (hm : n ≤ maxLen) (hl : us.length = cs.length) (h1 : ∀ u ∈ us, u.oneCell' = true)
    (hr : ∀ (j : Nat) A u, cs[j]? = some A → us[j]? = some u → Rep own w A u) : Row.sat own w (.own (.slice (some ⟨b, 0, none⟩) n n) E sz n (rowsOf sz cs)) := by
  have key : ∀ i, i < n → i * sz + sz ≤ n * sz := fun i hi => by have := Nat.mul_le_mul_right sz (show i + 1 ≤ n by omega); rw [Nat.add_mul, Nat.one_mul] at this; exact this
  refine ⟨us, ⟨hn, .inr ⟨b, n, us.toArray, rfl, Nat.zero_le _, hh, Nat.le_refl _, hm, by simpa using hn, by rw [← hn]; simp⟩⟩, fun i hi => ?_, h1, fun i hi j A hA => ?_⟩
  · have := key i hi
    simp only [rowsOf, List.length_take, List.length_drop, ← hl, hn]
    omega
  · unfold rowsOf at hA
    rw [List.getElem?_take] at hA
    split at hA
    · rw [List.getElem?_drop] at hA
      have hlt := (List.getElem?_eq_some_iff.1 hA).1
      have hu := List.getElem?_eq_getElem (l := us) (i := i * sz + j) (by omega)
      exact ⟨_, hu, hr _ A _ hA hu⟩
    · cases hA

theorem tile_eq (z : List Value) (n : Nat) : ∀ (m : Nat), z.length = m → ((Array.range (n * m)).map fun i => z.toArray[i % z.toArray.size]!).toList.length = n * m := by
  intro m hm; simp

/-- '[]T{..}'. -/
theorem O.buildSlice {t e : TypeId} {len : Nat} {parts : Array (Nat × Operand)} {n : TI} {d : Nat} {m : List (Nat × AV)} {p C : Prop} {cs : List AV} (i : Nat) (hT : TOk P T) (ho : o.op = .buildSlice t len parts) (hg : o.guard = none) (hd : o.dst = some d) (hdN : Nat.blt d c.N = true)
    (ht : tdOf T t = some (.slice e)) (he : T.lookup e = some n) (hsmall : len * n.size ≤ 16777216) (hsmall' : len ≤ 16777216) (hm : partsA σ parts.toList = some (m, p))
    (hf : fillA (fun k => some (k * n.size, n.size)) m ((List.range (len * n.size)).map fun j => .v (n.zero.getD (j % n.size) undef)) = some (cs, C)) (hC : p ∧ C)
    : O P ops c o σ F Q [] Value (fun x => (d, .ref i x) :: σ) (fun x => (i, .own x e n.size len (rowsOf n.size cs)) :: F) := by
  intro a w hR K hK
  refine Op1.plain hg ?_
  obtain ⟨ti, hti, htd⟩ := tdOf_some ht
  have told := hT.told he
  obtain ⟨z, hz, hzr⟩ := told.run_zero
  obtain ⟨hp, hC⟩ := hC
  obtain ⟨g1, g2⟩ := parts_sound hR hm hp
  have hzl : z.cells.toList.length = n.size := by rw [hz, told.zsize]
  have hzs : z.cells.size = n.size := by rw [← Array.length_toList, hzl]
  have hpl : (parts.map fun (i, x) => (i, a.eval x)).toList = parts.toList.map fun p => (p.1, a.eval p.2) := by simp
  have tile : ∀ (zero : Array Value), (len * n.size = 0 ∨ zero = z.cells) → ((Array.range (len * n.size)).map fun j => zero[j % zero.size]!).toList = (List.range (len * n.size)).map fun j => n.zero.getD (j % n.size) undef := by
    intro zero h
    rcases h with h | h
    · simp [h]
    · subst h
      simp only [Array.toList_map, Array.toList_range]
      apply List.map_congr_left
      intro j hj
      have hpos : 0 < n.size := by
        rcases Nat.eq_zero_or_pos n.size with h | h
        · rw [h] at hj; simp at hj
        · exact h
      have hlt : j % n.size < n.zero.length := by rw [told.zsize]; exact Nat.mod_lt _ hpos
      rw [hzs, ← hz]
      have hlt' : j % n.size < z.cells.size := by rw [hzs]; exact Nat.mod_lt _ hpos
      rw [getElem!_pos z.cells _ hlt', List.getD_eq_getElem?_getD]
      simp [hlt']
  obtain ⟨zero, hzero, hzrun⟩ : ∃ zero : Array Value, (len * n.size = 0 ∨ zero = z.cells) ∧ ((if len * n.size = 0 then pure #[] else do pure (← zeroValue e).cells) : Sem (Array Value)).run P w = .ok zero w := by
    by_cases h0 : len * n.size = 0
    · exact ⟨#[], .inl h0, by simp [h0]⟩
    · exact ⟨z.cells, .inr rfl, by rw [if_neg h0]; simp [hzr]⟩
  obtain ⟨us', h2, h3, h4, h5⟩ := fill_sound (own := Own c.off F) (w := w) (us := (Array.range (len * n.size)).map fun j => zero[j % zero.size]!) hf hC g1 g2 (by rw [tile zero hzero]; simp)
    (fun u hu => by
      rw [tile zero hzero] at hu
      obtain ⟨j, hj, rfl⟩ := List.mem_map.1 hu
      have hpos : 0 < n.size := by
        rcases Nat.eq_zero_or_pos n.size with h | h
        · rw [h] at hj; simp at hj
        · exact h
      have hlt : j % n.size < n.zero.length := by rw [told.zsize]; exact Nat.mod_lt _ hpos
      rw [List.getD_eq_getElem?_getD, List.getElem?_eq_getElem hlt]
      exact told.zone _ (List.getElem_mem hlt))
    (fun j A u hA hu => by
      rw [tile zero hzero] at hu
      rw [List.getElem?_map] at hA hu
      cases hq : (List.range (len * n.size))[j]? with
      | none => simp [hq] at hA
      | some y => simp only [hq, Option.map_some, Option.some.injEq] at hA hu; subst hA; subst hu; exact .v _)
  have hlen : us'.toList.length = len * n.size := by
    rw [h3]
    have : ∀ {parts : List (Nat × AV)} {cs r : List AV} {C : Prop}, fillA (fun k => some (k * n.size, n.size)) parts cs = some (r, C) → C → r.length = cs.length := by
      intro parts
      induction parts with
      | nil => intro cs r C h _; cases h; rfl
      | cons q l ih =>
        intro cs r C h hC
        obtain ⟨k, A⟩ := q
        unfold fillA at h
        split at h
        case h_2 => cases h
        case h_1 o n' ds hp hd =>
          cases hp
          split at h
          case h_2 => cases h
          case h_1 r' C' hf' =>
            cases h
            obtain ⟨⟨q1, q2⟩, q3⟩ := hC
            rw [ih hf' q3, splice_length (by omega)]
    rw [this hf hC]; simp
  obtain ⟨k1, k2, k3, k4⟩ := hR.make (.cells us' e) (i := i) (r := .own (.slice (some ⟨w.heap.size, 0, none⟩) len len) e n.size len (rowsOf n.size cs)) (fun b hb => by cases hb; exact Nat.le_refl _) fun hext =>
    sat_own_flat (us := us'.toList) (by simpa using heap_alloc_new w (.cells us' e)) hlen (by simp only [maxLen]; omega) h3 h4 fun j A u hA hu => (h5 j A u hA hu).ext hext
  have hgive : (execOp a.eval o).run P w = .ok (.value (.slice (some ⟨w.heap.size, 0, none⟩) len len)) (w.alloc (.cells us' e)) := by
    have hns : ¬ (len * n.size > 2 ^ 24) := by omega
    simp only [execOp, ho, Instr.buildSlice, Sem.run_bind, run_underlying ((hT.told hti).slice htd), Result.andThen_ok, told.size, if_neg hns]
    have hz2 := hzrun
    by_cases h0 : len * n.size = 0
    · rw [if_pos h0] at hz2 ⊢
      simp at hz2
      subst hz2
      simp [h0] at h2 ⊢
      simp [h2, newRow]
    · rw [if_neg h0] at hz2 ⊢
      simp [hzr] at hz2
      subst hz2
      rw [← hpl] at h2
      simp only [Sem.run_bind, hzr, Result.andThen_ok, Sem.run_pure]
      rw [h2]
      simp [newRow]
  simp only [Oper.wp]
  rw [hgive, Oper.upon_value, hd]
  exact hK _ _ _ (hR.step (of_blt hdN) k1 k2 k3 k4.ext (.ref _ _ rfl)) k4 ⟨_, by rw [hd]⟩

theorem L.box {t : TypeId} {x : Operand} {A : AV} {p : Prop} {cs : List AV} {d : Nat} (i : Nat) (ho : o.op = .box t x) (hg : o.guard = none) (hd : o.dst = some d) (hdN : Nat.blt d c.N = true) (hx : evalS σ x = some (A, p)) (hp : p) (hcs : cellsOf A = some cs)
    (next : ∀ b, L P ops c rest ((d, .ptr i b 0) :: σ) ((i, .blk b t cs) :: F) Q) : L P ops c (o :: rest) σ F Q := L.of (O.box i ho hg hd hdN hx hp hcs) next
theorem L.alloc {t : TypeId} {n : TI} {d : Nat} (i : Nat) (hT : TOk P T) (ho : o.op = .alloc t) (hg : o.guard = none) (hd : o.dst = some d) (hdN : Nat.blt d c.N = true) (ht : T.lookup t = some n)
    (next : ∀ b, L P ops c rest ((d, .ptr i b 0) :: σ) ((i, .blk b t (n.zero.map .v)) :: F) Q) : L P ops c (o :: rest) σ F Q := L.of (O.alloc i hT ho hg hd hdN ht) next
theorem L.buildSlice {t e : TypeId} {len : Nat} {parts : Array (Nat × Operand)} {n : TI} {d : Nat} {m : List (Nat × AV)} {p C : Prop} {cs : List AV} (i : Nat) (hT : TOk P T) (ho : o.op = .buildSlice t len parts) (hg : o.guard = none) (hd : o.dst = some d) (hdN : Nat.blt d c.N = true)
    (ht : tdOf T t = some (.slice e)) (he : T.lookup e = some n) (hsmall : len * n.size ≤ 16777216) (hsmall' : len ≤ 16777216) (hm : partsA σ parts.toList = some (m, p))
    (hf : fillA (fun k => some (k * n.size, n.size)) m ((List.range (len * n.size)).map fun j => .v (n.zero.getD (j % n.size) undef)) = some (cs, C)) (hC : p ∧ C)
    (next : ∀ x : Value, L P ops c rest ((d, .ref i x) :: σ) ((i, .own x e n.size len (rowsOf n.size cs)) :: F) Q) : L P ops c (o :: rest) σ F Q := L.of (O.buildSlice i hT ho hg hd hdN ht he hsmall hsmall' hm hf hC) next

end

end Go.Proofs.YtlgdjmmjconbfaaDoor

/- append, on abstract values. -/
namespace Go.Proofs.YtlgdjmmjconbfaaDoor
set_option linter.unusedVariables false
set_option linter.unusedSimpArgs false
open Go.RowKit

/-- A slice that reads as so many elements. -/
def Reads (own : Nat → Prop) (w : World) (u : Value) (sz m : Nat) (g : Nat → List AV) (news : List Value) : Prop :=
  ∃ A cap, u = .slice A m cap ∧ (A = none → m = 0 ∧ cap = 0) ∧ news.length = m * sz ∧ (∀ ad, A = some ad → ∀ (j : Nat) v, news[j]? = some v → w.cell? (ad.add j) = some v) ∧ (∀ v ∈ news, v.oneCell' = true) ∧
    (∀ i, i < m → (g i).length = sz) ∧ ∀ i, i < m → ∀ (j : Nat) B, (g i)[j]? = some B → ∃ v, news[i * sz + j]? = some v ∧ Rep own w B v

theorem lst_reads {own : Nat → Prop} {w : World} {sz m : Nat} {g : Nat → List AV} {u : Value} (h : Rep own w (.lst sz m g) u) : ∃ news, Reads own w u sz m g news := by
  cases h with
  | @lst _ n cap _ A u hn hm hnil hlen h1 hc hb hr =>
    have idx : ∀ i j, j < sz → (i * sz + j) / sz = i ∧ (i * sz + j) % sz = j := fun i j hj => by
      rw [Nat.mul_comm]
      exact ⟨by rw [Nat.mul_add_div (by omega), Nat.div_eq_of_lt hj, Nat.add_zero], by rw [Nat.mul_add_mod, Nat.mod_eq_of_lt hj]⟩
    have dm : ∀ j, j < m * sz → j / sz < m ∧ j % sz < sz ∧ j / sz * sz + j % sz = j := fun j hj => by
      have hs : 0 < sz := by
        rcases Nat.eq_zero_or_pos sz with h | h
        · rw [h] at hj; simp at hj
        · exact h
      exact ⟨by rw [Nat.div_lt_iff_lt_mul hs]; exact hj, Nat.mod_lt _ hs, by rw [Nat.mul_comm]; exact Nat.div_add_mod j sz⟩
    refine ⟨(List.range (m * sz)).map fun j => u (j / sz) (j % sz), A, cap, rfl, hnil, by simp, fun ad ha j v hv => ?_, fun v hv => ?_, hlen, fun i hi j B hB => ?_⟩
    · obtain ⟨hlt, rfl⟩ := List.getElem?_eq_some_iff.1 hv
      simp only [List.length_map, List.length_range] at hlt
      obtain ⟨d1, d2, d3⟩ := dm j hlt
      simp only [List.getElem_map, List.getElem_range]
      have := hc ad ha _ d1 _ d2
      rw [d3] at this
      exact this
    · obtain ⟨j, -, rfl⟩ := List.mem_map.1 hv; exact h1 _ _
    · have hj := (List.getElem?_eq_some_iff.1 hB).1
      rw [hlen i hi] at hj
      have hlt : i * sz + j < m * sz := by have := Nat.mul_le_mul_right sz (show i + 1 ≤ m by omega); rw [Nat.add_mul, Nat.one_mul] at this; omega
      refine ⟨u i j, ?_, hr i hi j B hB⟩
      rw [List.getElem?_map, List.getElem?_range hlt, Option.map_some, (idx i j hj).1, (idx i j hj).2]

theorem own_reads {own : Nat → Prop} {w : World} {x : Value} {E sz n : Nat} {g : Nat → List AV} (h : Row.sat own w (.own x E sz n g)) : ∃ news, Reads own w x sz n g news := by
  obtain ⟨us, ho, hlen, h1, hr⟩ := h
  rcases ho.2 with ⟨rfl, rfl⟩ | ⟨g', cap, cur, rfl, -, hh, hmc, hcm, hcs, htk⟩
  · exact ⟨us, none, 0, rfl, fun _ => ⟨rfl, rfl⟩, ho.1, (fun ad ha => by cases ha), h1, hlen, hr⟩
  · refine ⟨us, some ⟨g', 0, none⟩, cap, rfl, (fun h => by cases h), ho.1, fun ad ha j v hv => ?_, h1, hlen, hr⟩
    cases ha
    rw [addr_add_lit, Nat.zero_add, (own_cell ho j (List.getElem?_eq_some_iff.1 hv).1).1]
    exact hv

/-- What is appended. -/
def srcA (F : Rows) (sz : Nat) (A : AV) : Option (Nat × (Nat → List AV) × Prop) :=
  match A with
  | .lst s m g => if s = sz then some (m, g, True) else none
  | .ref id x => match F.lookup id with
    | some (.own x' _ s m g) => if s = sz then some (m, g, x = x') else none
    | _ => none
  | .v (.slice none 0 0) => some (0, fun _ => [], True)
  | _ => none

theorem src_sound {off : Nat → Prop} {F : Rows} {w : World} (hS : Sat off F w) {sz : Nat} {A : AV} {m : Nat} {g : Nat → List AV} {C : Prop} (h : srcA F sz A = some (m, g, C)) (hC : C) {u : Value} (hu : Rep (Own off F) w A u) : ∃ news, Reads (Own off F) w u sz m g news := by
  unfold srcA at h
  split at h
  · split at h
    · rename_i e; subst e; cases h; exact lst_reads hu
    · cases h
  · split at h
    case h_2 => cases h
    case h_1 x' E s m' g' hrow =>
      split at h
      · rename_i e; subst e; cases h
        subst hC
        cases hu
        exact own_reads (hS.at hrow)
      · cases h
  · cases h
    cases hu
    exact ⟨[], none, 0, rfl, fun _ => ⟨rfl, rfl⟩, by simp, (fun ad ha => by cases ha), by simp, fun i hi => absurd hi (by omega), fun i hi => absurd hi (by omega)⟩
  · cases h

/-- One row behind another. -/
def joinG (n : Nat) (g h : Nat → List AV) (i : Nat) : List AV := if i < n then g i else h (i - n)

section
variable {P : Program} {T : Types} {c : Ctx} {σ : Slots} {F : Rows} {Q : Exit → Act → World → Prop} {ops : Array Oper} {rest : List Oper} {o : Oper}

theorem run_append_any {w : World} (hT : TOk P T) {off : Nat → Prop} {own : Nat → Prop} {t ty e : TypeId} {i : TI} (ht : tdOf T t = some (.slice e)) (he : T.lookup e = some i) (hs0 : 0 < i.size) (hb0 : 0 < i.bytes)
    {v : Value} {n : Nat} {xs : List Value} (HO : w.ownsRow 0 e i.size v n xs) {u : Value} {m : Nat} {g : Nat → List AV} {news : List Value} (hr : Reads own w u i.size m g news) (hl : (n + m) * i.bytes ≤ 140737488355328) :
    ∃ v1 w1, (Builtin.append_ #[t, t] ty #[v, u]).run P w = .ok v1 w1 ∧ w1.ownsRow 0 e i.size v1 (n + m) (xs ++ news) ∧ w.grownBy w1 v.ownBlock ∧ (v1.ownBlock = v.ownBlock ∨ v1.ownBlock = some w.heap.size) := by
  obtain ⟨ti, hti, htd⟩ := tdOf_some ht
  have told := hT.told he
  obtain ⟨j, z, hj, hsz, hby, hz, hzz⟩ := told.info
  have hzs : z.cells.size = i.size := by rw [← Array.length_toList, hzz, told.zsize]
  obtain ⟨A, cap, rfl, hnil, hnl, hc, h1, -⟩ := hr
  have hu := (hT.told hti).slice htd
  cases A with
  | none =>
    obtain ⟨rfl, rfl⟩ := hnil rfl
    have : news = [] := List.eq_nil_of_length_eq_zero (by simpa using hnl)
    subst this
    exact ⟨v, w, run_append_owned_none (P := P) (w := w) 0 t ty e j i.size hu hj v n xs HO, by simpa using HO, ⟨rfl, rfl, rfl, Nat.le_refl _, fun _ _ _ => rfl⟩, .inl rfl⟩
  | some ad =>
    have hn2 : n + m ≤ 140737488355328 := Nat.le_trans (Nat.le_mul_of_pos_right _ hb0) hl
    obtain ⟨v1, w1, r1, r2, r3, _, r5⟩ := run_append_own_at (P := P) (w := w) 0 t ty e j z i.size i.bytes hu hj hz hsz hby hzs hs0 v n xs HO ad m cap news hnl (hc ad rfl) h1 (by simp only [maxLen]; omega) hl (Nat.zero_le _)
    exact ⟨v1, w1, r1, r2, r3, r5⟩

theorem join_rep {own own' : Nat → Prop} {w w1 : World} (he : Ext own own' w w1) {sz n m : Nat} {g g2 : Nat → List AV} {xs news : List Value} (hxl : xs.length = n * sz) (hlen : ∀ i, i < n → (g i).length = sz)
    (hr : ∀ i, i < n → ∀ (j : Nat) A, (g i)[j]? = some A → ∃ u, xs[i * sz + j]? = some u ∧ Rep own w A u) (hlen2 : ∀ i, i < m → (g2 i).length = sz) (hr2 : ∀ i, i < m → ∀ (j : Nat) A, (g2 i)[j]? = some A → ∃ u, news[i * sz + j]? = some u ∧ Rep own w A u) :
    (∀ i, i < n + m → (joinG n g g2 i).length = sz) ∧ ∀ i, i < n + m → ∀ (j : Nat) A, (joinG n g g2 i)[j]? = some A → ∃ u, (xs ++ news)[i * sz + j]? = some u ∧ Rep own' w1 A u := by
  refine ⟨fun i hi => ?_, fun i hi j A hA => ?_⟩
  · unfold joinG
    split
    · exact hlen i (by assumption)
    · exact hlen2 _ (by omega)
  · unfold joinG at hA
    split at hA
    · rename_i hlt
      obtain ⟨u, hu, hrep⟩ := hr i hlt j A hA
      exact ⟨u, by rw [List.getElem?_append_left (List.getElem?_eq_some_iff.1 hu).1]; exact hu, hrep.ext he⟩
    · rename_i hge
      obtain ⟨u, hu, hrep⟩ := hr2 (i - n) (by omega) j A hA
      refine ⟨u, ?_, hrep.ext he⟩
      have e : i * sz + j = xs.length + ((i - n) * sz + j) := by rw [hxl, ← Nat.add_assoc, ← Nat.add_mul]; congr 2; omega
      rw [e, List.getElem?_append_right (by omega), Nat.add_sub_cancel_left]
      exact hu

/-- append onto a slice of one's own. -/
theorem O.append {s x : Operand} {t e : TypeId} {i : TI} {id : Nat} {x0 x0' : Value} {sz n m d : Nat} {g g2 : Nat → List AV} {B : AV} {p q C : Prop} (hT : TOk P T) (ho : o.op = .call { callee := .builtin .append, args := #[s, x], argTypes := #[t, t] }) (hg : o.guard = none) (hd : o.dst = some d) (hdN : Nat.blt d c.N = true)
    (ht : tdOf T t = some (.slice e)) (he : T.lookup e = some i) (hs : evalS σ s = some (.ref id x0, p)) (hrow : F.lookup id = some (.own x0' e sz n g)) (hx : evalS σ x = some (B, q)) (hsrc : srcA F sz B = some (m, g2, C))
    (hC : x0 = x0' ∧ p ∧ q ∧ C) (hsz : sz = i.size ∧ 0 < i.size ∧ 0 < i.bytes) (hl : (n + m) * i.bytes ≤ 140737488355328)
    : O P ops c o σ F Q [id] Value (fun x1 => (d, .ref id x1) :: σ) (fun x1 => setF id id (.own x1 e sz (n + m) (joinG n g g2)) F) := by
  intro a w hR K hK
  refine Op1.plain hg ?_
  obtain ⟨rfl, hp, hq, hC⟩ := hC
  obtain ⟨rfl, hs0, hb0⟩ := hsz
  have hA := hR.evals hs hp
  have hA' : a.eval s = x0 := by generalize a.eval s = v at hA; cases hA; rfl
  obtain ⟨news, hnews⟩ := src_sound hR.sat hsrc hC (hR.evals hx hq)
  obtain ⟨us, hown, hlen, h1, hr⟩ := hR.sat.at hrow
  obtain ⟨v1, w1, r1, r2, r3, r4⟩ := run_append_any (off := c.off) hT (ty := o.type) ht he hs0 hb0 hown hnews hl
  obtain ⟨A2, cap2, hu2, hnil2, hnl2, hc2, h12, hlen2, hr2⟩ := hnews
  obtain ⟨k1, k2, k3, k4⟩ := hR.write (i' := id) (r' := .own v1 e i.size (n + m) (joinG n g g2)) hrow (w' := w1) r3.size r3.os r3.tape r3.output
    (fun b hlt hne => r3.block b hlt fun e => hne e.symm) (fun b hb => by
      rcases r4 with h | h
      · left; exact h.symm.trans hb
      · right; have e := h.symm.trans hb; cases e; exact Nat.le_refl _) (fun hext => by
      obtain ⟨j1, j2⟩ := join_rep hext hown.1 hlen hr hlen2 hr2
      exact ⟨us ++ news, r2, j1, fun u hu => by rcases List.mem_append.1 hu with h | h; exact h1 u h; exact h12 u h, j2⟩)
  have hgive : (execOp a.eval o).run P w = .ok (.value v1) w1 := by
    simp [execOp, ho, resolve, invoke, builtin, hA', r1]
  simp only [Oper.wp]
  rw [hgive, Oper.upon_value, hd]
  have hone : v1.oneCell' = true := by
    obtain ⟨A, cap, rfl, -⟩ := own_form0 r2; rfl
  exact hK v1 _ _ (hR.step (of_blt hdN) k1 k2 k3 k4.ext (.ref _ _ hone)) k4 ⟨_, by rw [hd]⟩

/-- append onto nil. -/
theorem O.appendNil {s x : Operand} {t e : TypeId} {i : TI} {m d : Nat} {g2 : Nat → List AV} {B : AV} {p q C : Prop} (id : Nat) (hT : TOk P T) (ho : o.op = .call { callee := .builtin .append, args := #[s, x], argTypes := #[t, t] }) (hg : o.guard = none) (hd : o.dst = some d) (hdN : Nat.blt d c.N = true)
    (ht : tdOf T t = some (.slice e)) (he : T.lookup e = some i) (hs : evalS σ s = some (.v (.slice none 0 0), p)) (hx : evalS σ x = some (B, q)) (hsrc : srcA F i.size B = some (m, g2, C))
    (hC : p ∧ q ∧ C) (hsz : 0 < i.size ∧ 0 < i.bytes) (hl : m * i.bytes ≤ 140737488355328)
    : O P ops c o σ F Q [] Value (fun x1 => (d, .ref id x1) :: σ) (fun x1 => (id, .own x1 e i.size m g2) :: F) := by
  intro a w hR K hK
  refine Op1.plain hg ?_
  obtain ⟨hp, hq, hC⟩ := hC
  obtain ⟨hs0, hb0⟩ := hsz
  have hA := hR.evals hs hp
  have hA' : a.eval s = .slice none 0 0 := by generalize a.eval s = v at hA; cases hA; rfl
  obtain ⟨news, hnews⟩ := src_sound hR.sat hsrc hC (hR.evals hx hq)
  obtain ⟨v1, w1, r1, r2, r3, r4⟩ := run_append_any (off := c.off) hT (ty := o.type) ht he hs0 hb0 (World.ownsRow_nil w 0 e i.size) hnews (by simpa using hl)
  obtain ⟨A2, cap2, hu2, hnil2, hnl2, hc2, h12, hlen2, hr2⟩ := hnews
  simp only [Nat.zero_add, List.nil_append] at r2
  have hblk : ∀ b, v1.ownBlock = some b → w.heap.size ≤ b := fun b hb => by
    rcases r4 with h | h
    · rw [h] at hb; cases hb
    · have e := h.symm.trans hb; cases e; exact Nat.le_refl _
  obtain ⟨g1, g2'⟩ := hR.sat.add hR.off (i := id) (r := .own v1 e i.size m g2) (w' := w1) r3.size (fun b hlt => r3.block b hlt fun e => by cases e) hblk fun hext =>
    ⟨news, r2, hlen2, h12, fun k hk j A hA => by obtain ⟨u, hu, hrep⟩ := hr2 k hk j A hA; exact ⟨u, hu, hrep.ext hext⟩⟩
  have hgive : (execOp a.eval o).run P w = .ok (.value v1) w1 := by
    simp [execOp, ho, resolve, invoke, builtin, hA', r1]
  simp only [Oper.wp]
  rw [hgive, Oper.upon_value, hd]
  have hone : v1.oneCell' = true := by
    obtain ⟨A, cap, rfl, -⟩ := own_form0 r2; rfl
  have hk0 := hR.kept.size
  refine hK v1 _ _ (hR.step (of_blt hdN) ⟨r3.os.trans hR.kept.os, r3.tape.trans hR.kept.tape, r3.output.trans hR.kept.output, Nat.le_trans hk0 r3.size, fun b hlt hn => (r3.block b (by omega) fun e => by cases e).trans (hR.kept.block b hlt hn)⟩ (fun s hs b hsb => ?_) g1 g2' (.ref _ _ hone)) ⟨g2', (fun s hs _ b hb => r3.block b (hR.sat.lt hs hb) (fun e => by cases e)), fun s hs _ => by simp [hs]⟩ ⟨_, by rw [hd]⟩
  rcases List.mem_cons.1 hs with rfl | h3
  · exact .inr (Nat.le_trans hk0 (hblk b hsb))
  · exact hR.fresh s h3 b hsb

theorem L.append {s x : Operand} {t e : TypeId} {i : TI} {id : Nat} {x0 x0' : Value} {sz n m d : Nat} {g g2 : Nat → List AV} {B : AV} {p q C : Prop} (hT : TOk P T) (ho : o.op = .call { callee := .builtin .append, args := #[s, x], argTypes := #[t, t] }) (hg : o.guard = none) (hd : o.dst = some d) (hdN : Nat.blt d c.N = true)
    (ht : tdOf T t = some (.slice e)) (he : T.lookup e = some i) (hs : evalS σ s = some (.ref id x0, p)) (hrow : F.lookup id = some (.own x0' e sz n g)) (hx : evalS σ x = some (B, q)) (hsrc : srcA F sz B = some (m, g2, C))
    (hC : x0 = x0' ∧ p ∧ q ∧ C) (hsz : sz = i.size ∧ 0 < i.size ∧ 0 < i.bytes) (hl : (n + m) * i.bytes ≤ 140737488355328)
    (next : ∀ x1 : Value, L P ops c rest ((d, .ref id x1) :: σ) (setF id id (.own x1 e sz (n + m) (joinG n g g2)) F) Q) : L P ops c (o :: rest) σ F Q := L.of (O.append hT ho hg hd hdN ht he hs hrow hx hsrc hC hsz hl) next
theorem L.appendNil {s x : Operand} {t e : TypeId} {i : TI} {m d : Nat} {g2 : Nat → List AV} {B : AV} {p q C : Prop} (id : Nat) (hT : TOk P T) (ho : o.op = .call { callee := .builtin .append, args := #[s, x], argTypes := #[t, t] }) (hg : o.guard = none) (hd : o.dst = some d) (hdN : Nat.blt d c.N = true)
    (ht : tdOf T t = some (.slice e)) (he : T.lookup e = some i) (hs : evalS σ s = some (.v (.slice none 0 0), p)) (hx : evalS σ x = some (B, q)) (hsrc : srcA F i.size B = some (m, g2, C))
    (hC : p ∧ q ∧ C) (hsz : 0 < i.size ∧ 0 < i.bytes) (hl : m * i.bytes ≤ 140737488355328)
    (next : ∀ x1 : Value, L P ops c rest ((d, .ref id x1) :: σ) ((id, .own x1 e i.size m g2) :: F) Q) : L P ops c (o :: rest) σ F Q := L.of (O.appendNil id hT ho hg hd hdN ht he hs hx hsrc hC hsz hl) next

/-- Without a row. -/
def delF (id : Nat) : Rows → Rows
  | [] => []
  | (k, s) :: t => if k = id then t else (k, s) :: delF id t
theorem delF_split {F : Rows} {id : Nat} {r : Row} (h : F.lookup id = some r) : ∃ L1 L2, F = L1 ++ (id, r) :: L2 ∧ delF id F = L1 ++ L2 := by
  induction F with
  | nil => cases h
  | cons p t ih =>
    obtain ⟨k, s⟩ := p
    rw [lookup_cons] at h
    split at h
    · rename_i e; cases h; subst e; exact ⟨[], t, rfl, by simp [delF]⟩
    · rename_i e
      obtain ⟨L1, L2, h1, h2⟩ := ih h
      exact ⟨(k, s) :: L1, L2, by rw [h1]; rfl, by rw [delF, if_neg (fun e' => e e'.symm), h2]; rfl⟩

/-- A row of one's own is given away: nobody turns it any more. -/
theorem freeze_rep {off : Nat → Prop} {F : Rows} {w : World} (hS : Sat off F w) {id : Nat} {x : Value} {E sz n : Nat} {g : Nat → List AV} (hrow : F.lookup id = some (.own x E sz n g)) : Rep (Own off (delF id F)) w (.lst sz n g) x := by
  obtain ⟨us, ho, hlen, h1, hr⟩ := hS.at hrow
  obtain ⟨L1, L2, e1, e2⟩ := delF_split hrow
  have hmem : (id, Row.own x E sz n g) ∈ F := lookup_mem hrow
  have hnot : ∀ b, x.ownBlock = some b → ¬ Own off (delF id F) b := by
    rintro b hb (h | ⟨s, hs, hsb⟩)
    · exact hS.off _ hmem b hb h
    · have hn := hS.nodup
      rw [e1] at hn
      rw [e2] at hs
      obtain ⟨n1, n2, n3⟩ := List.pairwise_append.1 hn
      rcases List.mem_append.1 hs with h | h
      · exact n3 s h (id, .own x E sz n g) (by simp) b hsb hb
      · exact (List.pairwise_cons.1 n2).1 s h b hb hsb
  have hless : Ext (Own off F) (Own off (delF id F)) w w := Ext.less (fun b hb => Own.tail (fun r hr => by rw [e2] at hr; rw [e1]; rcases List.mem_append.1 hr with h | h <;> simp [h]) hb) w
  rcases ho.2 with ⟨rfl, rfl⟩ | ⟨g', cap, cur, rfl, -, hh, hmc, hcm, hcs, htk⟩
  · exact .lst (fun _ _ => .bool false) (Nat.le_refl _) (by simp) (fun _ => ⟨rfl, rfl⟩) (fun i hi => absurd hi (by omega)) (fun _ _ => rfl) (fun ad ha => by cases ha) (fun ad ha => by cases ha) (fun i hi => absurd hi (by omega))
  · refine .lst (fun i j => if i < n ∧ j < sz then us.getD (i * sz + j) (.bool false) else .bool false) hmc hcm (fun h => by cases h) hlen (fun i j => ?_) (fun ad ha i hi j hj => ?_) (fun ad ha h0 hs => by cases ha; exact hnot g' rfl) (fun i hi j A hA => ?_)
    · split
      · rename_i hij
        rw [List.getD_eq_getElem?_getD]
        cases hq : us[i * sz + j]? with
        | none => rfl
        | some u => exact h1 u (List.mem_of_getElem? hq)
      · rfl
    · cases ha
      have hlt : i * sz + j < us.length := by rw [ho.1]; have := Nat.mul_le_mul_right sz (show i + 1 ≤ n by omega); rw [Nat.add_mul, Nat.one_mul] at this; omega
      rw [addr_add_lit, Nat.zero_add, (own_cell ho _ hlt).1, if_pos ⟨hi, hj⟩, List.getD_eq_getElem?_getD, List.getElem?_eq_getElem hlt]
      rfl
    · obtain ⟨u, hu, hrep⟩ := hr i hi j A hA
      have hj := (List.getElem?_eq_some_iff.1 hA).1
      rw [hlen i hi] at hj
      rw [if_pos ⟨hi, hj⟩, List.getD_eq_getElem?_getD, hu]
      exact hrep.ext hless

theorem R.del {a : Act} {w : World} (h : R c σ F a w) (id : Nat) {r : Row} (hrow : F.lookup id = some r) : R c σ (delF id F) a w := by
  obtain ⟨L1, L2, e1, e2⟩ := delF_split hrow
  have hsub : (delF id F).Sublist F := by
    rw [e2]
    conv => rhs; rw [e1]
    exact List.Sublist.append (List.Sublist.refl _) (List.sublist_cons_self _ _)
  exact ⟨h.len, h.defers, h.hoff, h.kept, fun r hr => h.fresh r (hsub.subset hr), h.sat.tail hsub, fun k A hA => (h.slots k A hA).ext (Ext.less (fun b hb => Own.tail (fun r hr => hsub.subset hr) hb) w)⟩

theorem freezeSlot {K : Act → World → Prop} (d id : Nat) {id' : Nat} {x x' : Value} {E sz n : Nat} {g : Nat → List AV} (hrow : F.lookup id = some (.own x E sz n g)) (hd : σ.lookup d = some (.ref id' x')) (hx : x' = x)
    (next : ∀ a w, R c ((d, .lst sz n g) :: σ) (delF id F) a w → K a w) : ∀ a w, R c σ F a w → K a w := by
  intro a w hR
  subst hx
  have hf := freeze_rep hR.sat hrow
  have hR' := hR.del id hrow
  have h1 := hR.slots d _ hd
  refine next a w ⟨hR'.len, hR'.defers, hR'.hoff, hR'.kept, hR'.fresh, hR'.sat, fun k A hA => ?_⟩
  rw [lookup_cons] at hA
  split at hA
  · rename_i e
    subst e
    cases hA
    generalize a.tmps.getD k undef = v at h1 ⊢
    cases h1
    exact hf
  · exact hR'.slots k A hA

theorem Sat.cell {off : Nat → Prop} {F : Rows} {w : World} (h : Sat off F w) {id b : Nat} {T : TypeId} {cs : List AV} (hrow : F.lookup id = some (.blk b T cs)) {j : Nat} {A B : AV} (hc : cs[j]? = some A) (hi : ∀ u, Rep (Own off F) w A u → Rep (Own off F) w B u) : Sat off (setF id id (.blk b T (cs.set j B)) F) w ∧ ∀ b', Own off (setF id id (.blk b T (cs.set j B)) F) b' ↔ Own off F b' := by
  obtain ⟨L1, L2, e1, e2⟩ := setF_split hrow
  have hown : ∀ b', Own off (setF id id (.blk b T (cs.set j B)) F) b' ↔ Own off F b' := by
    intro b'
    rw [e2]
    conv => rhs; rw [e1]
    unfold Own
    simp only [List.mem_append, List.mem_cons]
    constructor
    · rintro (h | ⟨s, h1 | rfl | h1, h2⟩)
      · exact .inl h
      · exact .inr ⟨s, .inl h1, h2⟩
      · exact .inr ⟨_, .inr (.inl rfl), h2⟩
      · exact .inr ⟨s, .inr (.inr h1), h2⟩
    · rintro (h | ⟨s, h1 | rfl | h1, h2⟩)
      · exact .inl h
      · exact .inr ⟨s, .inl h1, h2⟩
      · exact .inr ⟨_, .inr (.inl rfl), h2⟩
      · exact .inr ⟨s, .inr (.inr h1), h2⟩
  refine ⟨⟨fun s hs => ?_, ?_, fun s hs b' hb' => ?_⟩, hown⟩
  · have hext : Ext (Own off F) (Own off (setF id id (.blk b T (cs.set j B)) F)) w w := Ext.less (fun b' hb' => (hown b').1 hb') w
    have key : s ∈ F ∨ s = (id, .blk b T (cs.set j B)) := by
      rw [e2] at hs
      rw [e1]
      rcases List.mem_append.1 hs with h | h
      · left; simp [h]
      · rcases List.mem_cons.1 h with rfl | h
        · right; rfl
        · left; simp [h]
    rcases key with hs | rfl
    · exact (h.rows s hs).ext hext fun _ _ => rfl
    · obtain ⟨us, hh, hl, h1, hr⟩ := h.at hrow
      refine ⟨us, hh, by simpa using hl, h1, fun k A' u hA' hu => ?_⟩
      rw [List.getElem?_set] at hA'
      split at hA'
      · rename_i e
        subst e
        split at hA'
        · cases hA'
          exact (hi u (hr _ A u hc hu)).ext hext
        · cases hA'
      · exact (hr k A' u hA' hu).ext hext
  · have hn := h.nodup
    rw [e1] at hn
    rw [e2]
    obtain ⟨n1, n2, n3⟩ := List.pairwise_append.1 hn
    rw [List.pairwise_cons] at n2
    exact List.pairwise_append.2 ⟨n1, List.pairwise_cons.2 ⟨n2.1, n2.2⟩, fun s hs t ht b' e3 e4 => by
      rcases List.mem_cons.1 ht with rfl | ht
      · exact n3 s hs (id, .blk b T cs) (by simp) b' e3 e4
      · exact n3 s hs t (by simp [ht]) b' e3 e4⟩
  · rw [e2] at hs
    rcases List.mem_append.1 hs with h3 | h3
    · exact h.off s (by rw [e1]; simp [h3]) b' hb'
    · rcases List.mem_cons.1 h3 with rfl | h3
      · exact h.off (id, .blk b T cs) (by rw [e1]; simp) b' hb'
      · exact h.off s (by rw [e1]; simp [h3]) b' hb'

theorem R.cell {a : Act} {w : World} (h : R c σ F a w) {id b : Nat} {T : TypeId} {cs : List AV} (hrow : F.lookup id = some (.blk b T cs)) {j : Nat} {A B : AV} (hc : cs[j]? = some A) (hi : ∀ u, Rep (Own c.off F) w A u → Rep (Own c.off F) w B u) : R c σ (setF id id (.blk b T (cs.set j B)) F) a w := by
  obtain ⟨g1, g2⟩ := h.sat.cell hrow hc hi
  refine ⟨h.len, h.defers, h.hoff, h.kept, fun s hs b' hb' => ?_, g1, fun k A' hA' => (h.slots k A' hA').ext (Ext.less (fun b' hb' => (g2 b').1 hb') w)⟩
  obtain ⟨L1, L2, e1, e2⟩ := setF_split hrow
  rw [e2] at hs
  rcases List.mem_append.1 hs with h3 | h3
  · exact h.fresh s (by rw [e1]; simp [h3]) b' hb'
  · rcases List.mem_cons.1 h3 with rfl | h3
    · exact h.fresh (id, .blk b T cs) (by rw [e1]; simp) b' hb'
    · exact h.fresh s (by rw [e1]; simp [h3]) b' hb'

theorem freezeCell {K : Act → World → Prop} (k j id : Nat) {id' b : Nat} {T : TypeId} {cs : List AV} {x x' : Value} {E sz n : Nat} {g : Nat → List AV} (hrow : F.lookup id = some (.own x E sz n g)) (hk : (delF id F).lookup k = some (.blk b T cs)) (hd : cs[j]? = some (.ref id' x')) (hx : x' = x)
    (next : ∀ a w, R c σ (setF k k (.blk b T (cs.set j (.lst sz n g))) (delF id F)) a w → K a w) : ∀ a w, R c σ F a w → K a w := by
  intro a w hR
  subst hx
  have hf := freeze_rep hR.sat hrow
  exact next a w ((hR.del id hrow).cell hk hd fun u hu => by cases hu; exact hf)

end

end Go.Proofs.YtlgdjmmjconbfaaDoor

/- Contracts of functions, calls, and the forms of code, on abstract values. -/
namespace Go.Proofs.YtlgdjmmjconbfaaDoor
set_option linter.unusedVariables false
set_option linter.unusedSimpArgs false
open Go.RowKit

abbrev blocksOf (F : Rows) (b : Nat) : Prop := ∃ s ∈ F, s.2.block = some b

/-- What comes back of a call. -/
def Ret (off : Nat → Prop) (F : Rows) (w : World) (Post : AV → Rows → Prop) (e : Ending) (w' : World) : Prop :=
  ∃ v r F', Post r F' ∧ e = .returned v ∧ Rep (Own off F') w' r v ∧ Sat off F' w' ∧ Kept (blocksOf F) w w' ∧ ∀ s ∈ F', ∀ b, s.2.block = some b → blocksOf F b ∨ w.heap.size ≤ b

/-- The contract of a function. -/
def FnC (P : Program) (f : FuncId) (As : List AV) (F : Rows) (Post : AV → Rows → Prop) : Prop :=
  ∀ (off : Nat → Prop) (w : World) (vs : List Value), (∀ b, off b → b < w.heap.size) → Sat off F w → vs.length = As.length → (∀ (j : Nat) A u, As[j]? = some A → vs[j]? = some u → Rep (Own off F) w A u) →
    Calls P f vs.toArray w (Ret off F w Post)

/-- The contract of a function that only computes. -/
def PFn (P : Program) (f : FuncId) (As : List AV) (r : AV) : Prop := FnC P f As [] fun r' F' => r' = r ∧ F' = []

def initS (As : List AV) : Slots := As.zipIdx.map fun p => (p.2, p.1)

theorem initS_lookup : ∀ (As : List AV) (k i : Nat) (A : AV), ((As.zipIdx k).map fun p => (p.2, p.1)).lookup i = some A → k ≤ i ∧ As[i - k]? = some A
  | [], k, i, A, h => by simp at h
  | B :: As, k, i, A, h => by
    rw [List.zipIdx_cons, List.map_cons, lookup_cons] at h
    split at h
    · rename_i e; subst e; cases h; simp
    · have := initS_lookup As (k + 1) i A h
      refine ⟨by omega, ?_⟩
      rw [show i - k = (i - (k + 1)) + 1 by omega]
      simpa using this.2

section
variable {P : Program} {T : Types} {c : Ctx} {σ : Slots} {F : Rows} {Q : Exit → Act → World → Prop} {ops : Array Oper} {rest : List Oper} {o : Oper}

theorem FnC.intro {f : FuncId} {fn : Func} {code : Code} {As : List AV} {Post : AV → Rows → Prop} {N : Nat} (hf : P.funcs[f]? = some fn) (hb : fn.body = some code) (hN : fn.ntmps = N) (hn : Nat.ble As.length N = true)
    (h : ∀ off w0, S P ⟨off, blocksOf F, w0, N⟩ code (initS As) F (bodyPost P fn (Ret off F w0 Post))) : FnC P f As F Post := by
  intro off w vs hoff hS hl hr
  refine calls_of_wp hf hb (h off w _ w ⟨?_, rfl, hoff, Kept.refl _ _, fun r hr b hb => .inl ⟨r, hr, hb⟩, hS, fun k A hA => ?_⟩)
  · have := Nat.le_of_ble_eq_true hn; simp [hN, hl]; omega
  · obtain ⟨-, hA⟩ := initS_lookup As 0 k A hA
    simp only [Nat.sub_zero] at hA
    have hk : k < vs.length := by rw [hl]; exact (List.getElem?_eq_some_iff.1 hA).1
    have : (vs.toArray ++ Array.replicate (fn.ntmps - vs.toArray.size) undef).getD k undef = vs[k] := by
      rw [Array.getD_eq_getD_getElem?, Array.getElem?_append_left (by simpa using hk)]
      simp [hk]
    rw [this]
    exact hr k A _ hA (List.getElem?_eq_getElem hk)

theorem FnC.mono {f : FuncId} {As : List AV} {Post Post' : AV → Rows → Prop} (h : FnC P f As F Post) (hp : ∀ r F', Post r F' → Post' r F') : FnC P f As F Post' := fun off w vs h1 h2 h3 h4 =>
  (h off w vs h1 h2 h3 h4).mono fun e w' ⟨v, r, F', hP, rest⟩ => ⟨v, r, F', hp _ _ hP, rest⟩

def argsA (σ : Slots) : List Operand → Option (List AV × Prop)
  | [] => some ([], True)
  | x :: l => match evalS σ x, argsA σ l with
    | some (A, p), some (m, q) => some (A :: m, p ∧ q)
    | _, _ => none
theorem args_sound {a : Act} {w : World} (hR : R c σ F a w) : ∀ {l : List Operand} {m : List AV} {C : Prop}, argsA σ l = some (m, C) → C → (l.map a.eval).length = m.length ∧ ∀ (j : Nat) A u, m[j]? = some A → (l.map a.eval)[j]? = some u → Rep (Own c.off F) w A u
  | [], m, C, h, _ => by cases h; exact ⟨rfl, fun j A u h => by simp at h⟩
  | x :: l, m, C, h, hC => by
    unfold argsA at h
    split at h
    · rename_i A p m' q hA hm
      cases h
      obtain ⟨h1, h2⟩ := args_sound hR hm hC.2
      refine ⟨by simpa using h1, fun j B u hB hu => ?_⟩
      cases j with
      | zero => simp at hB hu; subst hB; subst hu; exact hR.evals hA hC.1
      | succ j => simp at hB hu; exact h2 j B u hB (by simpa using hu)
    · cases h

/-- One list of knowledge is less than another. -/
def Imps : List AV → List AV → Prop
  | [], [] => True
  | A :: l, B :: m => Imp A B ∧ Imps l m
  | _, _ => False
theorem Imps.get : ∀ {l m : List AV}, Imps l m → l.length = m.length ∧ ∀ (j : Nat) B, m[j]? = some B → ∃ A, l[j]? = some A ∧ Imp A B
  | [], [], _ => ⟨rfl, fun j B h => by simp at h⟩
  | A :: l, B :: m, h => by
    obtain ⟨h1, h2⟩ := Imps.get h.2
    refine ⟨by simp [h1], fun j C hC => ?_⟩
    cases j with
    | zero => simp at hC; subst hC; exact ⟨A, rfl, h.1⟩
    | succ j => simp at hC; obtain ⟨D, hD, hi⟩ := h2 j C hC; exact ⟨D, by simpa using hD, hi⟩
  | [], _ :: _, h => h.elim
  | _ :: _, [], h => h.elim

/-- A function of the program with a body. -/
def callable (P : Program) (f : FuncId) : Bool := match P.funcs[f]? with
  | some fn => fn.name != "runtime.NumGoroutine" && fn.body.isSome
  | none => false

theorem run_call {f : FuncId} (hf : callable P f = true) (args : Array Value) (w : World) : (callFunc f args).run P w = .ok (.enter f args) w := by
  unfold callable at hf
  cases h : P.funcs[f]? with
  | none => simp [h] at hf
  | some fn =>
    simp only [h, Bool.and_eq_true, bne_iff_ne, ne_eq] at hf
    obtain ⟨bd, hb⟩ := Option.isSome_iff_exists.1 hf.2
    simp [callFunc, h, hf.1, hb]

theorem Sat.split {off : Nat → Prop} {G H : Rows} {w : World} (h : Sat off (G ++ H) w) : Sat (Own off H) G w ∧ ∀ b, Own (Own off H) G b ↔ Own off (G ++ H) b := by
  obtain ⟨n1, n2, n3⟩ := List.pairwise_append.1 h.nodup
  have hown : ∀ b, Own (Own off H) G b ↔ Own off (G ++ H) b := by
    intro b
    unfold Own
    simp only [List.mem_append]
    constructor
    · rintro ((h | ⟨s, h1, h2⟩) | ⟨s, h1, h2⟩)
      · exact .inl h
      · exact .inr ⟨s, .inr h1, h2⟩
      · exact .inr ⟨s, .inl h1, h2⟩
    · rintro (h | ⟨s, h1 | h1, h2⟩)
      · exact .inl (.inl h)
      · exact .inr ⟨s, h1, h2⟩
      · exact .inl (.inr ⟨s, h1, h2⟩)
  refine ⟨⟨fun r hr => ?_, n1, fun r hr b hb => ?_⟩, hown⟩
  · exact (h.rows r (by simp [hr])).ext (Ext.less (fun b hb => (hown b).1 hb) w) fun _ _ => rfl
  · rintro (h1 | ⟨s, h1, h2⟩)
    · exact h.off r (by simp [hr]) b hb h1
    · exact n3 r hr s h1 b hb h2

theorem Own.joined {off : Nat → Prop} {H G : Rows} (b : Nat) : Own (Own off H) G b ↔ Own off (G ++ H) b := by
  unfold Own
  simp only [List.mem_append]
  constructor
  · rintro ((h | ⟨s, h1, h2⟩) | ⟨s, h1, h2⟩)
    · exact .inl h
    · exact .inr ⟨s, .inr h1, h2⟩
    · exact .inr ⟨s, .inl h1, h2⟩
  · rintro (h | ⟨s, h1 | h1, h2⟩)
    · exact .inl (.inl h)
    · exact .inr ⟨s, h1, h2⟩
    · exact .inl (.inr ⟨s, h1, h2⟩)

theorem Sat.join {off : Nat → Prop} {G H G' : Rows} {w w' : World} (h : Sat off (G ++ H) w) (hoff : ∀ b, off b → b < w.heap.size) (hG : Sat (Own off H) G' w') (hk : Kept (blocksOf G) w w') (hf : ∀ s ∈ G', ∀ b, s.2.block = some b → blocksOf G b ∨ w.heap.size ≤ b) :
    Sat off (G' ++ H) w' ∧ Ext (Own off (G ++ H)) (Own off (G' ++ H)) w w' := by
  obtain ⟨n1, n2, n3⟩ := List.pairwise_append.1 h.nodup
  have hext : Ext (Own off (G ++ H)) (Own off (G' ++ H)) w w' := by
    refine ⟨hk.size, fun b hlt hn => hk.block b hlt fun ⟨s, h1, h2⟩ => hn (.inr ⟨s, by simp [h1], h2⟩), fun b hlt hn => ?_⟩
    rintro (h1 | ⟨s, h1, h2⟩)
    · exact hn (.inl h1)
    · rcases List.mem_append.1 h1 with h3 | h3
      · rcases hf s h3 b h2 with ⟨t, h4, h5⟩ | h4
        · exact hn (.inr ⟨t, by simp [h4], h5⟩)
        · omega
      · exact hn (.inr ⟨s, by simp [h3], h2⟩)
  refine ⟨⟨fun r hr => ?_, List.pairwise_append.2 ⟨hG.nodup, n2, fun r hr s hs b e1 e2 => hG.off r hr b e1 (.inr ⟨s, hs, e2⟩)⟩, fun r hr b hb ho => ?_⟩, hext⟩
  · rcases List.mem_append.1 hr with hr | hr
    · exact (hG.rows r hr).ext (Ext.less (fun b hb => (Own.joined b).2 hb) w') fun _ _ => rfl
    · have hmem : r ∈ G ++ H := by simp [hr]
      refine (h.rows r hmem).ext hext fun b hb => hk.block b (h.lt hmem hb) ?_
      rintro ⟨s, h1, h2⟩
      exact n3 s h1 r hr b h2 hb
  · rcases List.mem_append.1 hr with hr | hr
    · exact hG.off r hr b hb (.inl ho)
    · exact h.off r (by simp [hr]) b hb ho

theorem Sat.perm {off : Nat → Prop} {F G : Rows} {w : World} (h : Sat off F w) (hp : F.Perm G) : Sat off G w ∧ ∀ b, Own off G b ↔ Own off F b := by
  have hown : ∀ b, Own off G b ↔ Own off F b := fun b => by unfold Own; simp only [hp.mem_iff]
  refine ⟨⟨fun r hr => (h.rows r (hp.mem_iff.2 hr)).ext (Ext.less (fun b hb => (hown b).1 hb) w) fun _ _ => rfl, ?_, fun r hr => h.off r (hp.mem_iff.2 hr)⟩, hown⟩
  exact hp.pairwise h.nodup fun {a b} hab x hx hy => hab x hy hx

/-- A call: rows G go along, rows H stay. -/
theorem call_core {a : Act} {w : World} (hR : R c σ F a w) {f : FuncId} {G H : Rows} (hp : F.Perm (G ++ H)) {Bs : List AV} {Post : AV → Rows → Prop} (h : FnC P f Bs G Post) {vs : List Value} (hl : vs.length = Bs.length) (hr : ∀ (j : Nat) A u, Bs[j]? = some A → vs[j]? = some u → Rep (Own c.off F) w A u)
    {d : Nat} (hdN : Nat.blt d c.N = true) {K : Act → World → Prop} {Q' : Exit → Act → World → Prop} (next : ∀ r G', Post r G' → ∀ a1 w', R c ((d, r) :: σ) (G' ++ H) a1 w' → Stp c F (G' ++ H) w w' (G.map (·.1)) → (∃ v, a1 = a.put (some d) v) → K a1 w') :
    Calls P f vs.toArray w fun
      | .returned v, w'' => K (a.put (some d) v) w''
      | .panicked chain, w'' => Q' (.panic chain) a w''
      | .outgrown, _ => LetsOut Q' := by
  obtain ⟨hs, ho⟩ := hR.sat.perm hp
  obtain ⟨hs1, ho1⟩ := hs.split
  have hoff : ∀ b, Own c.off H b → b < w.heap.size := by
    rintro b (h1 | ⟨s, h1, h2⟩)
    · exact hR.off b h1
    · exact hs.lt (by simp [h1]) h2
  refine (h (Own c.off H) w vs hoff hs1 hl fun j A u hA hu => (hr j A u hA hu).ext (Ext.less (fun b hb => (ho b).1 ((ho1 b).1 hb)) w)).mono ?_
  rintro e w' ⟨v, r, G', hP, rfl, hrep, hS', hk, hf⟩
  obtain ⟨j1, j2⟩ := hs.join hR.off hS' hk hf
  have hfo : ∀ b, blocksOf G b → b < c.w0.heap.size → c.fo b := by
    rintro b ⟨s, h1, h2⟩ hlt
    rcases hR.fresh s (hp.mem_iff.2 (by simp [h1])) b h2 with h3 | h3
    · exact h3
    · omega
  have hext : Ext (Own c.off F) (Own c.off (G' ++ H)) w w' := (Ext.less (fun b hb => (ho b).1 hb) w).trans j2
  have hother : ∀ s ∈ F, s.1 ∉ G.map (·.1) → s ∈ H := fun s hs' hn => by
    rcases List.mem_append.1 (hp.mem_iff.1 hs') with h1 | h1
    · exact absurd (List.mem_map.2 ⟨s, h1, rfl⟩) hn
    · exact h1
  obtain ⟨m1, m2, m3⟩ := List.pairwise_append.1 hs.nodup
  refine next r G' hP _ _ (hR.step (of_blt hdN) (hR.kept.trans hk fun k hk hb => hfo k hb hk) (fun s hs' b hb => ?_) j1 hext (hrep.ext (Ext.less (fun b hb => (Own.joined b).2 hb) w'))) ⟨hext, fun s hs' hn b hb => hk.block b (hR.sat.lt hs' hb) fun ⟨t, h1, h2⟩ => m3 t h1 s (hother s hs' hn) b h2 hb, fun s hs' hn => by simp [hother s hs' hn]⟩ ⟨v, rfl⟩
  have hk0 := hR.kept.size
  rcases List.mem_append.1 hs' with h3 | h3
  · rcases hf s h3 b hb with ⟨t, h4, h5⟩ | h4
    · exact hR.fresh t (hp.mem_iff.2 (by simp [h4])) b h5
    · exact .inr (by omega)
  · exact hR.fresh s (hp.mem_iff.2 (by simp [h3])) b hb

/-- What a call operation does. -/
theorem exec_call {a : Act} {w : World} (hR : R c σ F a w) {cl : Call} {x : Operand} {f : FuncId} {caps As : List AV} {p q : Prop} (ho : o.op = .call cl) (hcl : cl.callee = .value x) (hx : evalS σ x = some (.fn (.func f) caps, p)) (ha : argsA σ cl.args.toList = some (As, q)) (hpq : p ∧ q) (hf : callable P f = true) :
    ∃ vs : List Value, (execOp a.eval o).run P w = .ok (.enter f vs.toArray) w ∧ vs.length = (As ++ caps).length ∧ ∀ (j : Nat) A u, (As ++ caps)[j]? = some A → vs[j]? = some u → Rep (Own c.off F) w A u := by
  obtain ⟨g1, g2⟩ := args_sound hR ha hpq.2
  have hX := hR.evals hx hpq.1
  generalize hv : a.eval x = v at hX
  cases hX with
  | fn hl hr =>
    rename_i us
    refine ⟨cl.args.toList.map a.eval ++ us, ?_, by rw [List.length_append, g1, hl, List.length_append], fun j A u hA hu => ?_⟩
    · have harr : cl.args.map a.eval = (cl.args.toList.map a.eval).toArray := by apply Array.ext'; simp
      simp only [execOp, ho, resolve, hcl, hv, Deferred.ofValue, Sem.run_bind, Sem.run_pure, Result.andThen_ok, invoke, harr]
      rw [show (#[] ++ (List.map a.eval cl.args.toList).toArray ++ us.toArray) = (List.map a.eval cl.args.toList ++ us).toArray by simp]
      exact run_call hf _ _
    · rcases Nat.lt_or_ge j As.length with h | h
      · rw [List.getElem?_append_left h] at hA
        rw [List.getElem?_append_left (by rw [g1]; exact h)] at hu
        exact g2 j A u hA hu
      · rw [List.getElem?_append_right h] at hA
        rw [List.getElem?_append_right (by rw [g1]; exact h), g1] at hu
        exact hr _ A u hA hu

/-- What a contract leaves open. -/
abbrev PostOf (Post : AV → Rows → Prop) : Type := { p : AV × Rows // Post p.1 p.2 }

/-- A call, at its place. -/
theorem O.call {cl : Call} {x : Operand} {f d : Nat} {caps As Bs : List AV} {p q : Prop} {G H : Rows} {Post : AV → Rows → Prop} (ho : o.op = .call cl) (hcl : cl.callee = .value x) (hg : o.guard = none) (hd : o.dst = some d) (hdN : Nat.blt d c.N = true) (hx : evalS σ x = some (.fn (.func f) caps, p)) (ha : argsA σ cl.args.toList = some (As, q))
    (hpq : p ∧ q) (hf : callable P f = true) (himp : Imps (As ++ caps) Bs) (hp : F.Perm (G ++ H)) (h : FnC P f Bs G Post) : O P ops c o σ F Q (G.map (·.1)) (PostOf Post) (fun i => (d, i.1.1) :: σ) (fun i => i.1.2 ++ H) := by
  intro a w hR K hK
  refine Op1.plain hg ?_
  obtain ⟨vs, h1, h2, h3⟩ := exec_call hR ho hcl hx ha hpq hf
  obtain ⟨i1, i2⟩ := himp.get
  simp only [Oper.wp]
  rw [h1, Oper.upon_enter, hd]
  exact call_core hR hp h (h2.trans i1) (fun j A u hA hu => by obtain ⟨B, hB, hi⟩ := i2 j A hA; exact hi _ _ _ (h3 j B u hB hu)) hdN fun r G' hP a' w' hR' hS hv => hK ⟨(r, G'), hP⟩ a' w' hR' hS (by rw [hd]; exact hv)

theorem L.call {cl : Call} {x : Operand} {f d : Nat} {caps As Bs : List AV} {p q : Prop} {G H : Rows} {Post : AV → Rows → Prop} (ho : o.op = .call cl) (hcl : cl.callee = .value x) (hg : o.guard = none) (hd : o.dst = some d) (hdN : Nat.blt d c.N = true) (hx : evalS σ x = some (.fn (.func f) caps, p)) (ha : argsA σ cl.args.toList = some (As, q))
    (hpq : p ∧ q) (hf : callable P f = true) (himp : Imps (As ++ caps) Bs) (hp : F.Perm (G ++ H)) (h : FnC P f Bs G Post) (next : ∀ r G', Post r G' → L P ops c rest ((d, r) :: σ) (G' ++ H) Q) : L P ops c (o :: rest) σ F Q :=
  L.of (O.call ho hcl hg hd hdN hx ha hpq hf himp hp h) fun i => next i.1.1 i.1.2 i.2

theorem O.callP {cl : Call} {x : Operand} {f d : Nat} {caps As Bs : List AV} {p q : Prop} {r : AV} (ho : o.op = .call cl) (hcl : cl.callee = .value x) (hg : o.guard = none) (hd : o.dst = some d) (hdN : Nat.blt d c.N = true) (hx : evalS σ x = some (.fn (.func f) caps, p)) (ha : argsA σ cl.args.toList = some (As, q))
    (hpq : p ∧ q) (hf : callable P f = true) (himp : Imps (As ++ caps) Bs) (h : PFn P f Bs r) : O P ops c o σ F Q [] Unit (fun _ => (d, r) :: σ) (fun _ => F) := fun a w hR K hK =>
  O.call (Q := Q) (G := []) (H := F) ho hcl hg hd hdN hx ha hpq hf himp (by simp) h a w hR K fun i a' w' hR' hS hv => by
    obtain ⟨⟨r', G'⟩, e1, e2⟩ := i
    simp only at e1 e2
    subst e1; subst e2
    exact hK () a' w' hR' hS hv

/-- A call of what only computes. -/
theorem L.callP {cl : Call} {x : Operand} {f d : Nat} {caps As Bs : List AV} {p q : Prop} {r : AV} (ho : o.op = .call cl) (hcl : cl.callee = .value x) (hg : o.guard = none) (hd : o.dst = some d) (hdN : Nat.blt d c.N = true) (hx : evalS σ x = some (.fn (.func f) caps, p)) (ha : argsA σ cl.args.toList = some (As, q))
    (hpq : p ∧ q) (hf : callable P f = true) (himp : Imps (As ++ caps) Bs) (h : PFn P f Bs r) (next : L P ops c rest ((d, r) :: σ) F Q) : L P ops c (o :: rest) σ F Q :=
  L.of (O.callP ho hcl hg hd hdN hx ha hpq hf himp h) fun _ => next

/-- A guarded call of what only computes. -/
theorem O.callG {cl : Call} {x : Operand} {f d : Nat} {b t : Bool} {caps As Bs : List AV} {p q : Prop} {r : AV} (ho : o.op = .call cl) (hcl : cl.callee = .value x) (hg : guardA ops σ o = some (some (b, t))) (hd : o.dst = some d) (hdN : Nat.blt d c.N = true) (hx : evalS σ x = some (.fn (.func f) caps, p)) (ha : argsA σ cl.args.toList = some (As, q))
    (hpq : b = t → p ∧ q) (hf : callable P f = true) (himp : Imps (As ++ caps) Bs) (h : b = t → PFn P f Bs r) : O P ops c o σ F Q [] Unit (fun _ => (d, .when b t r) :: σ) (fun _ => F) := by
  intro a w hR K hK
  unfold Op1
  have key := guard_iff hR hg
  by_cases hb : b = t
  · rw [if_pos (key.2 hb)]
    obtain ⟨vs, h1, h2, h3⟩ := exec_call hR ho hcl hx ha (hpq hb) hf
    obtain ⟨i1, i2⟩ := himp.get
    simp only [Oper.wp]
    rw [h1, Oper.upon_enter, hd]
    refine call_core (G := []) (H := F) hR (by simp) (h hb) (h2.trans i1) (fun j A u hA hu => by obtain ⟨B, hB, hi⟩ := i2 j A hA; exact hi _ _ _ (h3 j B u hB hu)) hdN fun r' G' ⟨e1, e2⟩ a' w' hR' hS hv => ?_
    subst e1; subst e2
    exact hK () a' w' (hR'.weakenSlot d fun own w x hx => .when (fun _ => hx) fun e => absurd hb e) hS (by rw [hd]; exact hv)
  · rw [if_neg (fun hw => hb (key.1 hw)), hd]
    exact hK () _ _ (hR.pure (of_blt hdN) (.when (fun e => absurd e hb) fun _ => rfl)) ⟨Ext.refl _ _, fun _ _ _ _ _ => rfl, fun s hs _ => hs⟩ ⟨undef, by rw [hd]⟩

theorem L.callG {cl : Call} {x : Operand} {f d : Nat} {b t : Bool} {caps As Bs : List AV} {p q : Prop} {r : AV} (ho : o.op = .call cl) (hcl : cl.callee = .value x) (hg : guardA ops σ o = some (some (b, t))) (hd : o.dst = some d) (hdN : Nat.blt d c.N = true) (hx : evalS σ x = some (.fn (.func f) caps, p)) (ha : argsA σ cl.args.toList = some (As, q))
    (hpq : b = t → p ∧ q) (hf : callable P f = true) (himp : Imps (As ++ caps) Bs) (h : b = t → PFn P f Bs r) (next : L P ops c rest ((d, .when b t r) :: σ) F Q) : L P ops c (o :: rest) σ F Q := L.of (O.callG ho hcl hg hd hdN hx ha hpq hf himp h) fun _ => next

/-- Code. -/
theorem S.seq {x y : Code} (h : S P c x σ F (Exit.then (y.wp P Q) Q)) : S P c (.seq x y) σ F Q := fun a w hR => wp_seq (h a w hR)
theorem S.region {id : Nat} (h : L P ops c ops.toList σ F Q) : S P c (.region id ops false) σ F Q := fun a w hR => wp_region_list (h a w hR)
theorem S.cond {x : Operand} {y z : Code} {b : Bool} (hx : evalA σ x = some (.v (.bool b))) (ht : b = true → S P c y σ F Q) (hf : b = false → S P c z σ F Q) : S P c (.cond x y z) σ F Q := fun a w hR => by
  have h := hR.eval hx
  have h' : a.eval x = .bool b := by generalize a.eval x = v at h; cases h; rfl
  exact wp_cond_split h' (fun e => ht e a w hR) fun e => hf e a w hR
theorem S.skip (h : E c .normal σ F Q) : S P c .skip σ F Q := fun a w hR => wp_skip (h a w hR)
theorem S.label {l : Nat} (h : E c .normal σ F Q) : S P c (.label l) σ F Q := fun a w hR => wp_label (h a w hR)
theorem S.exit {id : Nat} (h : E c (.exit id) σ F Q) : S P c (.exit id) σ F Q := fun a w hR => wp_exit (h a w hR)
theorem S.goto {l : Nat} (h : E c (.goto l) σ F Q) : S P c (.goto l) σ F Q := fun a w hR => wp_goto (h a w hR)
theorem S.ret (h : E c .ret σ F Q) : S P c .ret σ F Q := fun a w hR => wp_ret (h a w hR)
theorem S.block {id : Nat} {x : Code} (h : S P c x σ F (Exit.inBlock id Q)) : S P c (.block id x) σ F Q := fun a w hR => wp_block (h a w hR)

theorem first_of {p : Nat → Prop} : ∀ (n : Nat), p n → ∃ k, p k ∧ ∀ m, p m → k ≤ m := by
  intro n
  induction n using Nat.strongRecOn with
  | _ n ih =>
    intro hn
    by_cases h : ∃ m, m < n ∧ p m
    · obtain ⟨m, h1, h2⟩ := h
      exact ih m h1 h2
    · exact ⟨n, hn, fun m hm => by rcases Nat.lt_or_ge m n with h1 | h1; exact absurd ⟨m, h1, hm⟩ h; exact h1⟩

/-- A measure of what holds. -/
noncomputable def least {ι : Type} (I : ι → Act → World → Prop) (μ : ι → Nat) (a : Act) (w : World) : Nat :=
  open Classical in if h : ∃ k, (∃ i, μ i = k ∧ I i a w) ∧ ∀ m, (∃ i, μ i = m ∧ I i a w) → k ≤ m then Classical.choose h else 0
theorem least_ex {ι : Type} {I : ι → Act → World → Prop} {μ : ι → Nat} {a : Act} {w : World} {i : ι} (h : I i a w) : ∃ k, (∃ i, μ i = k ∧ I i a w) ∧ ∀ m, (∃ i, μ i = m ∧ I i a w) → k ≤ m :=
  first_of (p := fun k => ∃ i, μ i = k ∧ I i a w) (μ i) ⟨i, rfl, h⟩
theorem least_at {ι : Type} {I : ι → Act → World → Prop} {μ : ι → Nat} {a : Act} {w : World} {i : ι} (h : I i a w) : ∃ j, I j a w ∧ μ j = least I μ a w := by
  have he := least_ex (μ := μ) h
  unfold least
  rw [dif_pos he]
  obtain ⟨⟨j, h1, h2⟩, -⟩ := Classical.choose_spec he
  exact ⟨j, h2, h1⟩
theorem least_le {ι : Type} {I : ι → Act → World → Prop} {μ : ι → Nat} {a : Act} {w : World} {i : ι} (h : I i a w) : least I μ a w ≤ μ i := by
  have he := least_ex (μ := μ) h
  unfold least
  rw [dif_pos he]
  exact (Classical.choose_spec he).2 _ ⟨i, rfl, h⟩

/-- A loop: what holds at its head is told by a state. -/
theorem S.loop {ι : Type} {x : Code} (sl : ι → Slots) (ro : ι → Rows) (μ : ι → Nat) (start : ∀ a w, R c σ F a w → ∃ i, R c (sl i) (ro i) a w)
    (round : ∀ i, S P c x (sl i) (ro i) (Exit.then (fun a w => ∃ j, μ j < μ i ∧ R c (sl j) (ro j) a w) Q)) : S P c (.loop x) σ F Q := by
  intro a w hR
  refine wp_loop (fun a w => ∃ i, R c (sl i) (ro i) a w) (least (fun i a w => R c (sl i) (ro i) a w) μ) (start a w hR) fun a w ⟨i, hi⟩ => ?_
  obtain ⟨j, hj, he⟩ := least_at (I := fun i a w => R c (sl i) (ro i) a w) (μ := μ) hi
  refine wp_mono (round j a w hj) fun e a' w' h => ?_
  cases e with
  | normal =>
    obtain ⟨k, h1, h2⟩ := h
    exact ⟨⟨k, h2⟩, by have := least_le (I := fun i a w => R c (sl i) (ro i) a w) (μ := μ) h2; omega⟩
  | _ => exact h

/-- A scope whose label is jumped back to. -/
theorem S.scope {ι : Type} {x r : Code} (l : Nat) (sl : ι → Slots) (ro : ι → Rows) (μ : ι → Nat) (hf : findLabel x l = some r) (first : S P c x σ F (Exit.jump l (fun a w => ∃ i, R c (sl i) (ro i) a w) Q))
    (pass : ∀ i, S P c r (sl i) (ro i) (Exit.jump l (fun a w => ∃ j, μ j < μ i ∧ R c (sl j) (ro j) a w) Q)) : S P c (.scope x) σ F Q := by
  intro a w hR
  refine wp_scope_jumps l (fun a w => ∃ i, R c (sl i) (ro i) a w) (least (fun i a w => R c (sl i) (ro i) a w) μ) hf (first a w hR) fun a w ⟨i, hi⟩ => ?_
  obtain ⟨j, hj, he⟩ := least_at (I := fun i a w => R c (sl i) (ro i) a w) (μ := μ) hi
  refine wp_mono (pass j a w hj) fun e a' w' h => ?_
  cases e with
  | goto l' =>
    obtain ⟨h0, k, h1, h2⟩ := h
    exact ⟨h0, ⟨k, h2⟩, by have := least_le (I := fun i a w => R c (sl i) (ro i) a w) (μ := μ) h2; omega⟩
  | _ => exact h

end

end Go.Proofs.YtlgdjmmjconbfaaDoor

/- What a function hands back, on abstract values. -/
namespace Go.Proofs.YtlgdjmmjconbfaaDoor
set_option linter.unusedVariables false
set_option linter.unusedSimpArgs false
open Go.RowKit

def resA (T : Types) (σ : Slots) (F : Rows) : List ResultVar → Option (List AV × Prop)
  | [] => some ([], True)
  | .tmp t :: l => match evalS σ (.tmp t), resA T σ F l with
    | some (A, p), some (m, q) => some (A :: m, p ∧ q)
    | _, _ => none
  | .cell t ty :: l => match evalS σ (.tmp t), resA T σ F l with
    | some (A, p), some (m, q) => match loadA T F ty A with
      | some (B, r) => some (B :: m, p ∧ r ∧ q)
      | none => none
    | _, _ => none

def oneOf : List AV → AV
  | [A] => A
  | l => .tup l

section
variable {P : Program} {T : Types} {c : Ctx} {σ : Slots} {F : Rows} {a : Act} {w : World}

def resRun (tmps : Array Value) : ResultVar → Sem Value
  | .tmp t => pure (tmps.getD t undef)
  | .cell a t => do loadVar t (← asAddr (tmps.getD a undef))

theorem load_ptr {x : Value} {t : TypeId} {u : Value} (h : (Instr.loadAt t x).run P w = .ok u w) : (do loadVar t (← asAddr x) : Sem Value).run P w = .ok u w := by
  unfold Instr.loadAt Instr.sureAddr at h
  cases x <;> first | (simp at h; done) | skip
  rename_i p
  cases p with
  | none => simp at h
  | some ad => simpa [asAddr] using h

theorem res_sound (hT : TOk P T) (hR : R c σ F a w) : ∀ {l : List ResultVar} {m : List AV} {C : Prop}, resA T σ F l = some (m, C) → C →
    ∃ us : List Value, (l.mapM (resRun a.tmps)).run P w = .ok us w ∧ us.length = m.length ∧ ∀ (j : Nat) A u, m[j]? = some A → us[j]? = some u → Rep (Own c.off F) w A u
  | [], m, C, h, _ => by cases h; exact ⟨[], by simp, rfl, fun j A u h => by simp at h⟩
  | .tmp t :: l, m, C, h, hC => by
    unfold resA at h
    split at h
    · rename_i A p m' q hA hm
      cases h
      obtain ⟨us, h1, h2, h3⟩ := res_sound hT hR hm hC.2
      have hv := hR.evals hA hC.1
      refine ⟨a.tmps.getD t undef :: us, by simp [List.mapM_cons, resRun, h1], by simp [h2], fun j B u hB hu => ?_⟩
      cases j with
      | zero => simp at hB hu; subst hB; subst hu; simpa [Act.eval] using hv
      | succ j => exact h3 j B u (by simpa using hB) (by simpa using hu)
    · cases h
  | .cell t ty :: l, m, C, h, hC => by
    unfold resA at h
    split at h
    · rename_i A p m' q hA hm
      split at h
      · rename_i B r hB
        cases h
        obtain ⟨us, h1, h2, h3⟩ := res_sound hT hR hm hC.2.2
        obtain ⟨u, hu, hrep⟩ := load_sound hT hR.sat hB hC.2.1 (hR.evals hA hC.1)
        have hrun := load_ptr (hu w fun _ _ => rfl)
        refine ⟨u :: us, ?_, by simp [h2], fun j B' u' hB' hu' => ?_⟩
        · rw [List.mapM_cons]
          have e : resRun a.tmps (.cell t ty) = (do loadVar ty (← asAddr (a.eval (.tmp t)))) := rfl
          rw [e]
          simp only [Sem.run_bind] at hrun ⊢
          rw [hrun]
          simp [h1]
        · cases j with
          | zero => simp at hB' hu'; subst hB'; subst hu'; exact hrep
          | succ j => exact h3 j B' u' (by simpa using hB') (by simpa using hu')
      · cases h
    · cases h

theorem results_run (hT : TOk P T) (hR : R c σ F a w) {fn : Func} {rs : List ResultVar} (hrs : fn.results = rs.toArray) {m : List AV} {C : Prop} (h : resA T σ F rs = some (m, C)) (hC : C) :
    ∃ v, (results fn a.tmps).run P w = .ok v w ∧ Rep (Own c.off F) w (oneOf m) v := by
  obtain ⟨us, h1, h2, h3⟩ := res_sound hT hR h hC
  have hrun : (results fn a.tmps).run P w = .ok (if h : us.toArray.size = 1 then us.toArray[0] else .tuple us.toArray) w := by
    have e : results fn a.tmps = (do let vs ← fn.results.mapM (resRun a.tmps); pure (if h : vs.size = 1 then vs[0] else .tuple vs)) := by
      unfold results
      congr 1
    rw [e, hrs, Array.mapM_eq_mapM_toList]
    simp [h1]
  refine ⟨_, hrun, ?_⟩
  match us, m, h2, h3 with
  | [u], [A], _, h3 => exact h3 0 A u rfl rfl
  | [], [], _, h3 => exact .tup rfl (fun j A u h => by simp at h)
  | u :: v :: us, A :: B :: m, h2, h3 => exact .tup h2 h3

/-- A return. -/
theorem E.ret {off : Nat → Prop} {F0 F' : Rows} {w0 : World} {N : Nat} {Post : AV → Rows → Prop} {fn : Func} {rs : List ResultVar} {m : List AV} {C : Prop} {r : AV} (hT : TOk P T) (hrs : fn.results = rs.toArray) (h : resA T σ F rs = some (m, C)) (hC : C) (hr : Imp (oneOf m) r) (hF : F'.Sublist F) (hP : Post r F') :
    E ⟨off, blocksOf F0, w0, N⟩ .ret σ F (bodyPost P fn (Ret off F0 w0 Post)) := by
  intro a w hR
  obtain ⟨v, h1, h2⟩ := results_run hT hR hrs h hC
  refine ⟨hR.defers, v, h1, v, r, F', hP, rfl, (hr _ _ _ h2).ext (Ext.less (fun b hb => Own.tail (fun s hs => hF.subset hs) hb) w), hR.sat.tail hF, hR.kept, fun s hs b hb => hR.fresh s (hF.subset hs) b hb⟩

theorem E.fall {off : Nat → Prop} {F0 F' : Rows} {w0 : World} {N : Nat} {Post : AV → Rows → Prop} {fn : Func} {rs : List ResultVar} {m : List AV} {C : Prop} {r : AV} (hT : TOk P T) (hrs : fn.results = rs.toArray) (h : resA T σ F rs = some (m, C)) (hC : C) (hr : Imp (oneOf m) r) (hF : F'.Sublist F) (hP : Post r F') :
    E ⟨off, blocksOf F0, w0, N⟩ .normal σ F (bodyPost P fn (Ret off F0 w0 Post)) := fun a w hR => E.ret hT hrs h hC hr hF hP a w hR

/-- A return of what only computes. -/
theorem E.retP {off : Nat → Prop} {w0 : World} {N : Nat} {fn : Func} {rs : List ResultVar} {m : List AV} {C : Prop} {r : AV} (hT : TOk P T) (hrs : fn.results = rs.toArray) (h : resA T σ F rs = some (m, C)) (hC : C) (hr : Imp (oneOf m) r) :
    E ⟨off, blocksOf [], w0, N⟩ .ret σ F (bodyPost P fn (Ret off [] w0 fun r' F' => r' = r ∧ F' = [])) :=
  E.ret hT hrs h hC hr (List.nil_sublist _) ⟨rfl, rfl⟩

end

end Go.Proofs.YtlgdjmmjconbfaaDoor

/- Regions that draw their order, on abstract values. -/
namespace Go.Proofs.YtlgdjmmjconbfaaDoor
set_option linter.unusedVariables false
set_option linter.unusedSimpArgs false
open Go.RowKit

/-- What stands as long as the region runs: what is not one's own, and some rows. -/
def St1 (c : Ctx) (F1 : Rows) (rd : List Nat) (w1 w : World) : Prop := w1.heap.size ≤ w.heap.size ∧ ∀ b, b < w1.heap.size → (¬ Own c.off F1 b ∨ ∃ s ∈ F1, s.1 ∈ rd ∧ s.2.block = some b) → w.heap[b]? = w1.heap[b]?

/-- The rows that an operation reads. -/
def rdOf (rdf : List (Nat × List Nat)) (i : Nat) : List Nat := (rdf.lookup i).getD []

/-- One operation waits for another. -/
def preds (ops : Array Oper) (j : Nat) : List Nat := match ops[j]? with
  | some o => (o.after.toList.filter (Region.binds .any)).map (·.on)
  | none => []
inductive Anc (ops : Array Oper) : Nat → Nat → Prop
  | one {j i : Nat} (h : i ∈ preds ops j) : Anc ops j i
  | more {j k i : Nat} (h : k ∈ preds ops j) (h' : Anc ops k i) : Anc ops j i

/-- For whom each one waits. -/
def closGo (ops : Array Oper) : Nat → List (List Nat) → List (List Nat)
  | 0, acc => acc
  | n + 1, acc => closGo ops n (acc ++ [((preds ops acc.length).flatMap fun k => k :: acc.getD k []).eraseDups])
def clos (ops : Array Oper) : List (List Nat) := closGo ops ops.size []

theorem closGo_ok (ops : Array Oper) : ∀ (n : Nat) (acc : List (List Nat)), (∀ j i, i ∈ acc.getD j [] → Anc ops j i) → ∀ j i, i ∈ (closGo ops n acc).getD j [] → Anc ops j i
  | 0, acc, h => h
  | n + 1, acc, h => by
    refine closGo_ok ops n _ fun j i hi => ?_
    rw [List.getD_eq_getElem?_getD, List.getElem?_append] at hi
    split at hi
    · exact h j i (by rw [List.getD_eq_getElem?_getD]; exact hi)
    · rename_i hlt
      rw [List.getElem?_singleton] at hi
      split at hi
      · rename_i h0
        have hj : j = acc.length := by omega
        simp only [Option.getD_some, List.mem_eraseDups, List.mem_flatMap, List.mem_cons] at hi
        obtain ⟨k, hk, hki⟩ := hi
        rw [← hj] at hk
        rcases hki with rfl | hki
        · exact .one hk
        · exact .more hk (h k i hki)
      · simp at hi
theorem clos_ok (ops : Array Oper) {j i : Nat} (h : ((clos ops).getD j []).contains i = true) : Anc ops j i := closGo_ok ops ops.size [] (by simp) j i (List.contains_iff_mem.1 h)

/-- Who has run, for whom that one waited has run. -/
def Closed (ops : Array Oper) (listed : Array Bool) : Prop := ∀ j, listed.getD j false = true → ∀ i ∈ preds ops j, listed.getD i false = true
theorem Closed.anc {ops : Array Oper} {listed : Array Bool} (hc : Closed ops listed) {j i : Nat} (h : Anc ops j i) (hp : ∀ k ∈ preds ops j, listed.getD k false = true) : listed.getD i false = true := by
  induction h with
  | one h => exact hp _ h
  | more h _ ih => exact ih fun k hk => hc _ (hp _ h) k hk
theorem ready_preds {ops : Array Oper} {listed : Array Bool} {j : Nat} (h : j ∈ Region.ready .any ops listed) : ∀ k ∈ preds ops j, listed.getD k false = true := by
  obtain ⟨-, o, ho, hall⟩ := mem_ready.1 h
  intro k hk
  unfold preds at hk
  rw [ho] at hk
  simp only [List.mem_map, List.mem_filter, Array.mem_toList_iff] at hk
  obtain ⟨e, ⟨he, hb⟩, rfl⟩ := hk
  exact hall e he hb
theorem Closed.add {ops : Array Oper} {listed : Array Bool} (hc : Closed ops listed) {j : Nat} (h : j ∈ Region.ready .any ops listed) : Closed ops (listed.setIfInBounds j true) := by
  intro k hk i hi
  by_cases e : k = j
  · subst e; exact getD_set_true (ready_preds h i hi)
  · rw [getD_set_ne false (Ne.symm e)] at hk
    exact getD_set_true (hc k hk i hi)
theorem not_both {listed : Array Bool} {i : Nat} (h : listed.getD i true = false) (h' : listed.getD i false = true) : False := by
  simp only [Array.getD_eq_getD_getElem?] at h h'
  cases hq : listed[i]? with
  | none => simp [hq] at h
  | some b => simp [hq] at h h'; rw [h] at h'; cases h'

/-- An operation that may turn memory. -/
def tch (ops : Array Oper) (j : Nat) : Bool := match ops[j]? with
  | some o => (match o.op with
    | .store _ _ _ | .mapUpdate _ _ _ _ | .mapEntry _ _ _ | .entryStore _ _ _ _ => true
    | .call cl => (match cl.callee with | .builtin .len | .builtin .cap | .builtin .min | .builtin .max => false | _ => true)
    | _ => false)
  | none => false
/-- Nobody who may turn memory, and waits for it, has run. -/
def Still (ops : Array Oper) (listed : Array Bool) (k : Nat) : Prop := ∀ j, listed.getD j false = true → tch ops j = true → ¬ Anc ops j k
theorem Closed.still {ops : Array Oper} {listed : Array Bool} (hc : Closed ops listed) {k : Nat} (h : listed.getD k true = false) : Still ops listed k := fun j hj _ ha => not_both h (hc.anc ha (hc j hj))
theorem getD_set_cases {listed : Array Bool} {i j : Nat} (h : (listed.setIfInBounds i true).getD j false = true) : j = i ∨ listed.getD j false = true := by
  by_cases e : j = i
  · exact .inl e
  · rw [getD_set_ne false (Ne.symm e)] at h; exact .inr h
theorem Still.less {ops : Array Oper} {listed : Array Bool} {i k : Nat} (h : Still ops (listed.setIfInBounds i true) k) : Still ops listed k := fun j hj ht => h j (getD_set_true hj) ht
theorem Still.more {ops : Array Oper} {listed : Array Bool} {i k : Nat} (h : Still ops listed k) (ht : tch ops i = false) : Still ops (listed.setIfInBounds i true) k := fun j hj ht' => by
  rcases getD_set_cases hj with rfl | hj
  · rw [ht] at ht'; cases ht'
  · exact h j hj ht'

/-- Whatever order is picked; each operation keeps what those need that it does not wait for. -/
def wpAnyG (P : Program) (ops : Array Oper) (Q : Exit → Act → World → Prop) (S : Nat → World → Prop) : Nat → Array Bool → Act → World → Prop
  | 0, listed, a, w => Region.ready .any ops listed = [] ∧ Q .normal a w
  | n + 1, listed, a, w => (Region.ready .any ops listed = [] → Q .normal a w) ∧
      ∀ j ∈ Region.ready .any ops listed, wpOp P ops Q j (fun a' w' => (∀ k, Still ops (listed.setIfInBounds j true) k → S k w → S k w') ∧ wpAnyG P ops Q S n (listed.setIfInBounds j true) a' w') a w

theorem wpAny_of_G {P : Program} {ops : Array Oper} {Q : Exit → Act → World → Prop} {S : Nat → World → Prop} : ∀ (n : Nat) (listed : Array Bool) (a : Act) (w : World), wpAnyG P ops Q S n listed a w → wpAny P .any ops Q n listed a w
  | 0, _, _, _, h => h
  | n + 1, _, _, _, h => ⟨h.1, fun i hi => wpOp_mono (fun a' w' h' => wpAny_of_G n _ a' w' h'.2) (h.2 i hi)⟩

theorem wpAnyG_first {P : Program} {ops : Array Oper} {Q : Exit → Act → World → Prop} {S : Nat → World → Prop} {i : Nat} {oi : Oper} {v : Value} (hi : ops[i]? = some oi) (hsel : ∀ (j : Nat) (o : Oper) cs b, ops[j]? = some o → o.op ≠ .select cs b)
    (hQ : ∀ c a w, Q (.panic c) (a.put oi.dst v) w → Q (.panic c) a w) (hti : tch ops i = false) : ∀ (n : Nat) (listed : Array Bool) (a : Act) (w : World), Closed ops listed →
      (∀ j oj, ops[j]? = some oj → j ≠ i → listed.getD j true = false → (∀ e ∈ oj.after, Region.binds .any e = true → e.on ≠ i) → oi.apart ops oj = true) →
      i ∈ Region.ready .any ops listed → YieldsIf P ops (S i) oi v a → S i w →
      wpAnyG P ops Q S n (listed.setIfInBounds i true) (a.put oi.dst v) w → wpAnyG P ops Q S (n + 1) listed a w := by
  intro n
  induction n with
  | zero =>
    intro listed a w _ _ hr hy hS G
    refine ⟨fun h => (by rw [h] at hr; cases hr), fun j hj => ?_⟩
    by_cases hji : j = i
    · subst hji; exact hy.wpOp hi hS ⟨fun _ _ h => h, G⟩
    · have := ready_mono hj hji
      rw [G.1] at this
      cases this
  | succ n ih =>
    intro listed a w hc hfree hr hy hS G
    refine ⟨fun h => (by rw [h] at hr; cases hr), fun j hj => ?_⟩
    by_cases hji : j = i
    · subst hji; exact hy.wpOp hi hS ⟨fun _ _ h => h, G⟩
    · have h1 := G.2 j (ready_mono hj hji)
      have hpend := (mem_ready.1 hr).1
      obtain ⟨hjun, oj, hoj, hall⟩ := mem_ready.1 hj
      have hnot : ∀ e ∈ oj.after, Region.binds .any e = true → e.on ≠ i := fun e he hb heq => not_both hpend (by rw [← heq]; exact hall e he hb)
      have h2 := wpOp_putIf hoj (hfree j oj hoj hji hjun hnot) (fun cs b => hsel i oi cs b hi) (fun cs b => hsel j oj cs b hoj) hQ hy h1
      have hpend' : (listed.setIfInBounds j true).getD i true = false := by rw [getD_set_ne true hji]; exact hpend
      have hcom : ∀ k, Still ops (listed.setIfInBounds j true) k → Still ops ((listed.setIfInBounds i true).setIfInBounds j true) k := fun k hk => by
        rw [Array.setIfInBounds_comm _ _ (Ne.symm hji)]; exact hk.more hti
      refine wpOp_mono (fun a' w' h3 => ⟨fun k hk => h3.2.1 k (hcom k hk), ih (listed.setIfInBounds j true) a' w' (hc.add hj) (fun k ok hko hki hun hno => ?_) (ready_mono hr (Ne.symm hji)) h3.1 (h3.2.1 i (hcom i ((hc.add hj).still hpend')) hS) ?_⟩) h2
      · refine hfree k ok hko hki ?_ hno
        by_cases hjk : j = k
        · subst hjk; exact hjun
        · rw [getD_set_ne true hjk] at hun; exact hun
      · rw [Array.setIfInBounds_comm _ _ hji]
        exact h3.2.2

/-- The rows that each operation reads, as to blocks. -/
def SS (c : Ctx) (F1 : Rows) (rdf : List (Nat × List Nat)) (w1 : World) (i : Nat) (w : World) : Prop := St1 c F1 (rdOf rdf i) w1 w

structure HI (ops : Array Oper) (c : Ctx) (σ1 : Slots) (F1 : Rows) (rdf : List (Nat × List Nat)) (listed : Array Bool) (σ : Slots) (F : Rows) (w1 : World) (a : Act) (w : World) : Prop where
  base : R c σ1 F1 a w1
  now : R c σ F a w
  ext : Ext (Own c.off F1) (Own c.off F) w1 w
  closed : Closed ops listed
  keep : ∀ i, Still ops listed i → ∀ s ∈ F1, s.1 ∈ rdOf rdf i → s ∈ F
  st : ∀ i, listed.getD i true = false → SS c F1 rdf w1 i w

/-- A region some of whose operations have run. -/
def H (P : Program) (ops : Array Oper) (c : Ctx) (σ1 : Slots) (F1 : Rows) (rdf : List (Nat × List Nat)) (fuel : Nat) (listed : Array Bool) (σ : Slots) (F : Rows) (Q : Exit → Act → World → Prop) : Prop :=
  ∀ w1 a w, HI ops c σ1 F1 rdf listed σ F w1 a w → wpAnyG P ops Q (SS c F1 rdf w1) fuel listed a w

/-- What is known holds in whatever world. -/
def wfree : Nat → AV → Bool
  | 0, _ => false
  | _ + 1, .v _ => true
  | _ + 1, .any => true
  | _ + 1, .ref _ _ => true
  | _ + 1, .ptr _ _ _ => true
  | _ + 1, .eptr _ _ _ _ _ => true
  | n + 1, .agg cs => cs.all (wfree n)
  | n + 1, .tup cs => cs.all (wfree n)
  | n + 1, .fn _ cs => cs.all (wfree n)
  | n + 1, .when _ _ A => wfree n A
  | _ + 1, _ => false
theorem wfree_rep : ∀ {n : Nat} {A : AV}, wfree n A = true → ∀ {own own' : Nat → Prop} {w w' : World} {x : Value}, Rep own w A x → Rep own' w' A x
  | 0, A, h, _, _, _, _, _, _ => by cases h
  | n + 1, A, h, own, own', w, w', x, hr => by
    have all : ∀ {cs : List AV}, cs.all (wfree n) = true → ∀ {j : Nat} {B : AV}, cs[j]? = some B → wfree n B = true := fun hc j B hB => List.all_eq_true.1 hc _ (List.mem_of_getElem? hB)
    cases hr with
    | v x => exact .v x
    | any x => exact .any x
    | agg hl h1 hh => exact .agg hl h1 fun j B u hB hu => wfree_rep (all h hB) (hh j B u hB hu)
    | tup hl hh => exact .tup hl fun j B u hB hu => wfree_rep (all h hB) (hh j B u hB hu)
    | lst => cases h
    | pel => cases h
    | when h1 h2 => exact .when (fun e => wfree_rep (n := n) (by simpa only [wfree] using h) (h1 e)) h2
    | fn hl hh => exact .fn hl fun j B u hB hu => wfree_rep (all h hB) (hh j B u hB hu)
    | ref id x h1 => exact .ref id x h1
    | ptr id b off => exact .ptr id b off
    | eptr id x sz k off => exact .eptr id x sz k off
/-- What a step yields, where it holds in whatever world. -/
def headW (dst : Option Nat) (σ' σ1 : Slots) : Slots := match σ' with
  | (d, A) :: _ => if (dst == some d) && wfree 6 A then (d, A) :: σ1 else σ1
  | [] => σ1

/-- An operation reads of such rows alone. -/
def readOk (rd : List Nat) (σ1 : Slots) (o : Oper) : Bool :=
  match o.op with
  | .load _ x => match evalS σ1 x with
    | some (.ptr id _ _, _) => rd.contains id
    | some (.eptr id _ _ _ _, _) => rd.contains id
    | some (.pel _ _, _) => true
    | _ => false
  | _ => true

section
variable {P : Program} {T : Types} {c : Ctx} {σ σ1 : Slots} {F F1 : Rows} {rd : List Nat} {rdf : List (Nat × List Nat)} {Q : Exit → Act → World → Prop} {ops : Array Oper} {o : Oper} {fuel : Nat} {listed : Array Bool}

theorem load_block (hT : TOk P T) {a : Act} {w : World} (hR : R c σ1 F1 a w) (hro : readOk rd σ1 o = true) {A : AV} {C : Prop} (h : pureB T σ1 F1 o.op = some (A, C)) (hC : C) {b : Nat} (hb : loadsAt a o = some b) :
    b < w.heap.size ∧ (¬ Own c.off F1 b ∨ ∃ s ∈ F1, s.1 ∈ rd ∧ s.2.block = some b) := by
  unfold loadsAt at hb
  split at hb
  case h_2 => cases hb
  case h_1 t x ho =>
    unfold readOk at hro
    rw [ho] at h hro
    simp only at hro
    simp only [pureB, pureA] at h
    split at h
    case h_2 => cases h
    case h_1 B p hB =>
      rw [hB] at hro
      simp only [Option.map_eq_some_iff] at h
      obtain ⟨⟨D, E⟩, hD, he⟩ := h
      cases he
      have hX := hR.evals hB hC.1
      unfold loadA at hD
      split at hD
      case h_2 => cases hD
      case h_1 i cs C' hi hcs =>
        have hC' : C' := by
          split at hD
          · split at hD
            · cases hD; exact hC.2.1
            · cases hD; exact hC.2.1
          · split at hD
            · cases hD; exact hC.2
            · cases hD
        unfold cellsA at hcs
        split at hcs
        · rename_i id b' off
          simp only at hro
          split at hcs
          case h_2 => cases hcs
          case h_1 b'' T' cs' hrow =>
            cases hcs
            subst hC'
            generalize a.eval x = v at hX hb
            cases hX
            cases hb
            have hm := lookup_mem hrow
            exact ⟨hR.sat.lt hm rfl, .inr ⟨_, hm, by simpa using hro, rfl⟩⟩
        · rename_i id x' sz k off
          simp only at hro
          split at hcs
          case h_2 => cases hcs
          case h_1 x0 E' sz' n g hrow =>
            cases hcs
            obtain ⟨rfl, rfl, hk⟩ := hC'
            generalize a.eval x = v at hX hb
            cases hX
            cases hb
            have hm := lookup_mem hrow
            obtain ⟨us, ho', -⟩ := hR.sat.at hrow
            obtain ⟨g', cap, rfl, -⟩ := own_form ho' (by omega)
            rw [add_block]
            exact ⟨hR.sat.lt hm rfl, .inr ⟨_, hm, by simpa using hro, rfl⟩⟩
        · rename_i n' cs'
          cases hcs
          generalize a.eval x = v at hX hb
          cases hX with
          | pel u hl h1 hc hbk hr =>
            cases hb
            have hpos : 0 < cs.length := by
              have hp := (hT.told hi).pos
              split at hD
              · split at hD
                · cases hD; have := hC.2.2; omega
                · cases hD; have := hC.2.2; omega
              · split at hD
                · simp
                · cases hD
            have := World.block_lt_of_cell? w _ (hc 0 hpos)
            rw [add_block] at this
            exact ⟨this, .inl (hbk hpos)⟩
        · cases hcs

theorem pend_less {listed : Array Bool} {i k : Nat} (hk : (listed.setIfInBounds i true).getD k true = false) : listed.getD k true = false := by
  by_cases e : i = k
  · subst e
    simp only [Array.getD_eq_getD_getElem?, Array.getElem?_setIfInBounds] at hk
    split at hk
    · split at hk <;> simp_all
    · simp_all
  · rwa [getD_set_ne true e] at hk

/-- What is taken first leaves the rest as it is. -/
theorem HI.take {w1 w : World} {a : Act} (hI : HI ops c σ1 F1 rdf listed σ F w1 a w) {i : Nat} (hr : i ∈ Region.ready .any ops listed) {d : Nat} {A : AV} {u : Value} (hd : d < c.N) (h : Rep (Own c.off F1) w1 A u) : HI ops c ((d, A) :: σ1) F1 rdf (listed.setIfInBounds i true) ((d, A) :: σ) F w1 (a.put (some d) u) w :=
  ⟨hI.base.pure hd h, hI.now.pure hd (h.ext hI.ext), hI.ext, hI.closed.add hr, fun k hk => hI.keep k hk.less, fun k hk => hI.st k (pend_less hk)⟩

theorem pend_of_ready {i : Nat} (h : i ∈ Region.ready .any ops listed) : listed.getD i true = false := (mem_ready.1 h).1

/-- What yields in all worlds that may come is taken first. -/
theorem H.first {d : Nat} {A : AV} (i : Nat) (hi : ops[i]? = some o) (hsel : Region.noSelect ops = true) (hfr : Region.free .any ops listed i = true) (hrd : (Region.ready .any ops listed).contains i = true) (hti : tch ops i = false) (hd : o.dst = some d) (hdN : d < c.N)
    (hQ : ∀ ch a a' w, Q (.panic ch) a' w → Q (.panic ch) a w) (h : ∀ a w1, R c σ1 F1 a w1 → ∃ u, Rep (Own c.off F1) w1 A u ∧ YieldsIf P ops (SS c F1 rdf w1 i) o u a)
    (next : H P ops c ((d, A) :: σ1) F1 rdf fuel (listed.setIfInBounds i true) ((d, A) :: σ) F Q) : H P ops c σ1 F1 rdf (fuel + 1) listed σ F Q := by
  intro w1 a w hI
  have hr : i ∈ Region.ready .any ops listed := by simpa using hrd
  obtain ⟨u, h1, h2⟩ := h a w1 hI.base
  refine wpAnyG_first hi (Region.noSelect_spec hsel) (fun ch a w h => hQ ch _ _ w h) hti fuel listed a w hI.closed (Region.free_spec hi hfr) hr h2 (hI.st i (pend_of_ready hr)) ?_
  rw [hd]
  exact next w1 _ w (hI.take hr hdN h1)

/-- An operation that only computes or reads is taken first. -/
theorem H.take {d : Nat} {A : AV} {C : Prop} (i : Nat) (hT : TOk P T) (hi : ops[i]? = some o) (hcv : convOk P o = true) (hsel : Region.noSelect ops = true) (hfr : Region.free .any ops listed i = true) (hrd : (Region.ready .any ops listed).contains i = true) (hti : tch ops i = false) (hro : readOk (rdOf rdf i) σ1 o = true)
    (hQ : ∀ ch a a' w, Q (.panic ch) a' w → Q (.panic ch) a w) (h : stepA T c.N ops σ1 F1 o = some ((d, A) :: σ1, C)) (hC : C) (next : H P ops c ((d, A) :: σ1) F1 rdf fuel (listed.setIfInBounds i true) ((d, A) :: σ) F Q) :
    H P ops c σ1 F1 rdf (fuel + 1) listed σ F Q := by
  have hdd : o.dst = some d ∧ d < c.N := by
    unfold stepA at h
    split at h
    case h_2 => cases h
    case h_1 d' hd' =>
      split at h
      case isFalse => cases h
      case isTrue hdN =>
        have : d' = d := by
          split at h
          · simp only [Option.map_eq_some_iff] at h
            obtain ⟨⟨D, E⟩, -, he⟩ := h
            cases he; rfl
          · simp only [Option.map_eq_some_iff] at h
            obtain ⟨⟨D, E⟩, -, he⟩ := h
            cases he; rfl
          · cases h
        subst this
        exact ⟨hd', hdN⟩
  refine H.first i hi hsel hfr hrd hti hdd.1 hdd.2 hQ (fun a w1 hR => ?_) next
  obtain ⟨d', A', u, hd, hdN, he, hrep, hy⟩ := step_sound hT hcv hR h hC
  simp only [List.cons.injEq, Prod.mk.injEq, and_true] at he
  obtain ⟨rfl, rfl⟩ := he
  refine ⟨u, hrep, ?_⟩
  rcases hy with ⟨hw, hg⟩ | ⟨hw, rfl⟩
  · refine .inl ⟨hw, fun w'' hS => hg w'' fun b hb => ?_⟩
    have hlb : b < w1.heap.size ∧ (¬ Own c.off F1 b ∨ ∃ s ∈ F1, s.1 ∈ rdOf rdf i ∧ s.2.block = some b) := by
      unfold stepA at h
      rw [hd] at h
      simp only [if_pos hdN] at h
      split at h
      · simp only [Option.map_eq_some_iff] at h
        obtain ⟨⟨D, E⟩, hD, he⟩ := h
        cases he
        exact load_block hT hR hro hD hC hb
      · rename_i b' t hg'
        simp only [Option.map_eq_some_iff] at h
        obtain ⟨⟨D, E⟩, hD, he⟩ := h
        cases he
        exact load_block hT hR hro hD (hC ((guard_iff hR hg').1 hw)) hb
      · cases h
    exact hS.2 b hlb.1 hlb.2
  · exact .inr ⟨hw, rfl⟩

/-- Some operations may be taken first, one behind the other. -/
def takesOk (P : Program) (ops : Array Oper) : List Nat → Array Bool → Bool
  | [], _ => true
  | i :: l, listed => (match ops[i]? with | some o => convOk P o | none => false) && Region.free .any ops listed i && (Region.ready .any ops listed).contains i && !tch ops i && takesOk P ops l (listed.setIfInBounds i true)

def setAll : List Nat → Array Bool → Array Bool
  | [], a => a
  | i :: l, a => setAll l (a.setIfInBounds i true)

def takesA (T : Types) (N : Nat) (ops : Array Oper) (F1 : Rows) (rdf : List (Nat × List Nat)) : List Nat → Slots → Slots → Option (Slots × Slots × Prop)
  | [], σ1, σ => some (σ1, σ, True)
  | i :: l, σ1, σ =>
    match ops[i]? with
    | some o =>
      match readOk (rdOf rdf i) σ1 o, stepA T N ops σ1 F1 o with
      | true, some ((d, A) :: _, C) => match takesA T N ops F1 rdf l ((d, A) :: σ1) ((d, A) :: σ) with
        | some (r, q, C') => some (r, q, C ∧ C')
        | none => none
      | _, _ => none
    | none => none

theorem stepA_tail {T : Types} {N : Nat} {d : Nat} {A : AV} {l : Slots} {C : Prop} (h : stepA T N ops σ F o = some ((d, A) :: l, C)) : l = σ := by
  unfold stepA at h
  split at h
  case h_2 => cases h
  case h_1 =>
    split at h
    case isFalse => cases h
    case isTrue =>
      split at h
      · simp only [Option.map_eq_some_iff] at h
        obtain ⟨⟨D, E⟩, -, he⟩ := h
        cases he; rfl
      · simp only [Option.map_eq_some_iff] at h
        obtain ⟨⟨D, E⟩, -, he⟩ := h
        cases he; rfl
      · cases h

theorem H.takes : ∀ (is : List Nat) {fuel : Nat} {listed : Array Bool} {σ1 σ σ1' σ' : Slots} {C : Prop}, TOk P T → Region.noSelect ops = true → takesOk P ops is listed = true → (∀ ch a a' w, Q (.panic ch) a' w → Q (.panic ch) a w) →
    takesA T c.N ops F1 rdf is σ1 σ = some (σ1', σ', C) → C → H P ops c σ1' F1 rdf fuel (setAll is listed) σ' F Q → H P ops c σ1 F1 rdf (fuel + is.length) listed σ F Q
  | [], fuel, listed, σ1, σ, σ1', σ', C, hT, hsel, hok, hQ, h, hC, next => by cases h; exact next
  | i :: l, fuel, listed, σ1, σ, σ1', σ', C, hT, hsel, hok, hQ, h, hC, next => by
    unfold takesA at h
    split at h
    case h_2 => cases h
    case h_1 o ho =>
      split at h
      case h_2 => cases h
      case h_1 d A tl C1 hro hst =>
        split at h
        case h_2 => cases h
        case h_1 r q C2 hr =>
          cases h
          have htl := stepA_tail hst
          subst htl
          unfold takesOk at hok
          simp only [ho, Bool.and_eq_true] at hok
          obtain ⟨⟨⟨⟨h1, h2⟩, h3⟩, h5⟩, h4⟩ := hok
          exact H.take i hT ho h1 hsel h2 h3 (by simpa using h5) hro hQ hst hC.1 (H.takes l hT hsel h4 hQ hr hC.2 next)

/-- It touches no row that somebody needs for whom it does not wait. -/
def apartOk (ops : Array Oper) (rdf : List (Nat × List Nat)) (j : Nat) (ids : List Nat) : Bool := ids.isEmpty || rdf.all fun p => ((clos ops).getD j []).contains p.1 || ids.all fun x => !p.2.contains x

theorem apartOk.not {rdf : List (Nat × List Nat)} {j : Nat} {ids : List Nat} (h : apartOk ops rdf j ids = true) {i : Nat} (hn : ¬ Anc ops j i) : ∀ x ∈ rdOf rdf i, x ∉ ids := by
  intro x hx hxi
  unfold apartOk at h
  simp only [Bool.or_eq_true] at h
  rcases h with h | h
  · cases ids with
    | nil => cases hxi
    | cons a t => simp at h
  · unfold rdOf at hx
    cases hl : rdf.lookup i with
    | none => simp [hl] at hx
    | some l =>
      simp only [hl, Option.getD_some] at hx
      have h1 := List.all_eq_true.1 h _ (lookup_mem hl)
      simp only [Bool.or_eq_true] at h1
      rcases h1 with h1 | h1
      · exact hn (clos_ok ops h1)
      · have h2 := List.all_eq_true.1 h1 x hxi
        simp at h2
        exact h2 hx

theorem HI.step {a : Act} {w : World} {w1 : World} {j : Nat} (hI : HI ops c σ1 F1 rdf listed σ F w1 a w) (hr : j ∈ Region.ready .any ops listed) {ids : List Nat} {σ' : Slots} {F' : Rows} {a' : Act} {w' : World} (hR : R c σ' F' a' w') (hS : Stp c F F' w w' ids) (hv : ∃ v, a' = a.put o.dst v) (ht : tch ops j = true ∨ ids = []) (hdis : apartOk ops rdf j ids = true) :
    HI ops c (headW o.dst σ' (σ1.filter fun p => !(o.dst == some p.1))) F1 rdf (listed.setIfInBounds j true) σ' F' w1 a' w' ∧ ∀ k, Still ops (listed.setIfInBounds j true) k → SS c F1 rdf w1 k w → SS c F1 rdf w1 k w' := by
  have hpj : j < listed.size := by
    have := pend_of_ready hr
    rcases Nat.lt_or_ge j listed.size with h | h
    · exact h
    · simp [Array.getD_eq_getD_getElem?, Array.getElem?_eq_none h] at this
  have hnot : ∀ k, Still ops (listed.setIfInBounds j true) k → ∀ x ∈ rdOf rdf k, x ∉ ids := fun k hk x hx hxi => by
    rcases ht with ht | ht
    · exact apartOk.not hdis (hk j (by simp [Array.getD_eq_getD_getElem?, Array.getElem?_setIfInBounds, hpj]) ht) x hx hxi
    · subst ht; cases hxi
  have hss : ∀ k, Still ops (listed.setIfInBounds j true) k → SS c F1 rdf w1 k w → SS c F1 rdf w1 k w' := fun k hk hst => by
    refine ⟨Nat.le_trans hst.1 hS.ext.size, fun b hlt hb => ?_⟩
    rw [← hst.2 b hlt hb]
    have hlt' : b < w.heap.size := Nat.lt_of_lt_of_le hlt hst.1
    rcases hb with hn | ⟨s, hs, hr, hbk⟩
    · exact hS.ext.blk b hlt' (hI.ext.own b hlt hn)
    · exact hS.same s (hI.keep k hk.less s hs hr) (hnot k hk _ hr) b hbk
  obtain ⟨v, rfl⟩ := hv
  refine ⟨⟨?_, hR, hI.ext.trans hS.ext, hI.closed.add hr, fun k hk s hs hr => hS.keep s (hI.keep k hk.less s hs hr) (hnot k hk _ hr), fun k hk => hss k ((hI.closed.add hr).still hk) (hI.st k (pend_less hk))⟩, hss⟩
  have hb := hI.base
  have hbase : R c (σ1.filter fun p => !(o.dst == some p.1)) F1 (a.put o.dst v) w1 := by
   refine ⟨?_, ?_, hb.hoff, hb.kept, hb.fresh, hb.sat, fun k A hA => ?_⟩
   · cases o.dst <;> simp [Act.put, hb.len]
   · cases o.dst <;> exact hb.defers
   · have key : ∀ (l : Slots), (l.filter fun p => !(o.dst == some p.1)).lookup k = some A → l.lookup k = some A ∧ o.dst ≠ some k := by
       intro l
       induction l with
       | nil => intro h; cases h
       | cons p t ih =>
         obtain ⟨j, B⟩ := p
         intro h
         rw [List.filter_cons] at h
         split at h
         · rename_i hne
           rw [lookup_cons] at h ⊢
           split at h
           · rename_i e
             subst e
             cases h
             exact ⟨by simp, by simpa using hne⟩
           · rename_i e
             rw [if_neg e]
             exact ih h
         · rename_i heq
           have hkj : k ≠ j := by
             rintro rfl
             exact (ih h).2 (by simpa using heq)
           rw [lookup_cons, if_neg hkj]
           exact ih h
     obtain ⟨h1, h2⟩ := key σ1 hA
     have := hb.slots k A h1
     have hsame : (a.put o.dst v).tmps.getD k undef = a.tmps.getD k undef := by
       cases ho : o.dst with
       | none => rfl
       | some d =>
         have hne : d ≠ k := fun e => h2 (by rw [ho, e])
         simp [Act.put, Array.getD_eq_getD_getElem?, Array.getElem?_setIfInBounds_ne hne]
     rw [hsame]
     exact this
  unfold headW
  split
  case h_2 => exact hbase
  case h_1 d A t =>
    split
    case isFalse => exact hbase
    case isTrue hc =>
      simp only [Bool.and_eq_true, beq_iff_eq] at hc
      refine ⟨hbase.len, hbase.defers, hbase.hoff, hbase.kept, hbase.fresh, hbase.sat, fun k B hB => ?_⟩
      rw [lookup_cons] at hB
      split at hB
      · rename_i e
        subst e
        cases hB
        exact wfree_rep hc.2 (hR.slots k A (by rw [lookup_cons, if_pos rfl]))
      · exact hbase.slots k B hB

/-- One operation of those that may come up. -/
theorem H.run {ids : List Nat} {ι : Type} {sl : ι → Slots} {ro : ι → Rows} {j : Nat} (hj : ops[j]? = some o) (h : O P ops c o σ F Q ids ι sl ro) (ht : tch ops j = true ∨ ids = []) (hdis : apartOk ops rdf j ids = true)
    (next : ∀ k, H P ops c (headW o.dst (sl k) (σ1.filter fun p => !(o.dst == some p.1))) F1 rdf fuel (listed.setIfInBounds j true) (sl k) (ro k) Q) {w1 : World} {a : Act} {w : World} (hI : HI ops c σ1 F1 rdf listed σ F w1 a w) (hr : j ∈ Region.ready .any ops listed) :
    wpOp P ops Q j (fun a' w' => (∀ k, Still ops (listed.setIfInBounds j true) k → SS c F1 rdf w1 k w → SS c F1 rdf w1 k w') ∧ wpAnyG P ops Q (SS c F1 rdf w1) fuel (listed.setIfInBounds j true) a' w') a w := by
  have := h a w hI.now (fun a' w' => (∀ k, Still ops (listed.setIfInBounds j true) k → SS c F1 rdf w1 k w → SS c F1 rdf w1 k w') ∧ wpAnyG P ops Q (SS c F1 rdf w1) fuel (listed.setIfInBounds j true) a' w') fun k a' w' hR hS hv => by
    obtain ⟨hI', hst⟩ := hI.step hr hR hS hv ht hdis
    exact ⟨hst, next k w1 a' w' hI'⟩
  unfold wpOp
  unfold Op1 at this
  simp only [hj]
  split
  · rename_i hw; rw [if_pos hw] at this; exact .inl this
  · rename_i hw; rw [if_neg hw] at this; exact this

/-- Only one operation may come up. -/
theorem H.one {ids : List Nat} {ι : Type} {sl : ι → Slots} {ro : ι → Rows} (i : Nat) (hi : ops[i]? = some o) (hrd : Region.ready .any ops listed = [i]) (h : O P ops c o σ F Q ids ι sl ro) (ht : tch ops i = true ∨ ids = []) (hdis : apartOk ops rdf i ids = true)
    (next : ∀ k, H P ops c (headW o.dst (sl k) (σ1.filter fun p => !(o.dst == some p.1))) F1 rdf fuel (listed.setIfInBounds i true) (sl k) (ro k) Q) : H P ops c σ1 F1 rdf (fuel + 1) listed σ F Q := by
  intro w1 a w hI
  refine ⟨fun h0 => (by rw [hrd] at h0; cases h0), fun j hj => ?_⟩
  obtain rfl : j = i := by rw [hrd] at hj; simpa using hj
  exact H.run hi h ht hdis next hI hj

/-- Two operations may come up. -/
theorem H.two {o' : Oper} {ids ids' : List Nat} {ι ι' : Type} {sl : ι → Slots} {ro : ι → Rows} {sl' : ι' → Slots} {ro' : ι' → Rows} (i i' : Nat) (hi : ops[i]? = some o) (hi' : ops[i']? = some o') (hrd : Region.ready .any ops listed = [i, i']) (h : O P ops c o σ F Q ids ι sl ro) (h' : O P ops c o' σ F Q ids' ι' sl' ro')
    (ht : tch ops i = true ∨ ids = []) (ht' : tch ops i' = true ∨ ids' = []) (hdis : apartOk ops rdf i ids = true) (hdis' : apartOk ops rdf i' ids' = true)
    (next : ∀ k, H P ops c (headW o.dst (sl k) (σ1.filter fun p => !(o.dst == some p.1))) F1 rdf fuel (listed.setIfInBounds i true) (sl k) (ro k) Q) (next' : ∀ k, H P ops c (headW o'.dst (sl' k) (σ1.filter fun p => !(o'.dst == some p.1))) F1 rdf fuel (listed.setIfInBounds i' true) (sl' k) (ro' k) Q) :
    H P ops c σ1 F1 rdf (fuel + 1) listed σ F Q := by
  intro w1 a w hI
  refine ⟨fun h0 => (by rw [hrd] at h0; cases h0), fun j hj => ?_⟩
  have hj' := hj
  rw [hrd] at hj'
  rcases (by simpa using hj' : j = i ∨ j = i') with rfl | rfl
  · exact H.run hi h ht hdis next hI hj
  · exact H.run hi' h' ht' hdis' next' hI hj

theorem H.done (hrd : Region.ready .any ops listed = []) (h : E c .normal σ F Q) : H P ops c σ1 F1 rdf fuel listed σ F Q := fun w1 a w hI => by
  cases fuel with
  | zero => exact ⟨hrd, h a w hI.now⟩
  | succ n => exact ⟨fun _ => h a w hI.now, by rw [hrd]; simp⟩

/-- A region that draws its order. -/
theorem S.draw {id : Nat} (rdf : List (Nat × List Nat)) (hm : P.follows .mixedOrders = true) (h : H P ops c σ F rdf ops.size (Array.replicate ops.size false) σ F Q) : S P c (.region id ops true) σ F Q := by
  intro a w hR
  have hR1 := hR.drew 1
  refine wp_region_any hm (wpAny_of_G _ _ _ _ (h (w.drewN 1) a (w.drewN 1) ⟨hR1, hR1, Ext.refl _ _, fun j hj => ?_, fun i _ s hs _ => hs, fun i _ => ⟨Nat.le_refl _, fun _ _ _ => rfl⟩⟩))
  simp only [Array.getD_eq_getD_getElem?, Array.getElem?_replicate] at hj
  split at hj <;> simp at hj

theorem panic_no {fn : Func} {off : Nat → Prop} {F0 : Rows} {w0 : World} {Post : AV → Rows → Prop} (ch : List PanicEntry) (a a' : Act) (w : World) (h : bodyPost P fn (Ret off F0 w0 Post) (.panic ch) a' w) : bodyPost P fn (Ret off F0 w0 Post) (.panic ch) a w := by
  obtain ⟨_, _, _, _, _, h, _⟩ := h
  cases h

end

end Go.Proofs.YtlgdjmmjconbfaaDoor

/- Maps, on abstract values. -/
namespace Go.Proofs.YtlgdjmmjconbfaaDoor
set_option linter.unusedVariables false
set_option linter.unusedSimpArgs false
open Go.RowKit
open Go.Maps (Keyed)

theorem mget_cons_same (m : List (Value × AV)) (k : Value) (A : AV) : mget ((k, A) :: m) k = some A := by simp [mget]
theorem mget_cons_other (m : List (Value × AV)) {k k' : Value} (A : AV) (h : k ≠ k') : mget ((k, A) :: m) k' = mget m k' := by simp [mget, h]
theorem mget_cons (m : List (Value × AV)) (k k' : Value) (A : AV) [Decidable (k = k')] : mget ((k, A) :: m) k' = if k = k' then some A else mget m k' := by
  by_cases h : k = k'
  · subst h; rw [mget_cons_same, if_pos rfl]
  · rw [mget_cons_other m A h, if_neg h]

noncomputable def mdel (m : List (Value × AV)) (k : Value) : List (Value × AV) := open Classical in m.filter fun p => decide (p.1 ≠ k)
theorem mget_del_same (k : Value) : ∀ m : List (Value × AV), mget (mdel m k) k = none
  | [] => rfl
  | (x, A) :: t => by
    unfold mdel
    rw [List.filter_cons]
    split
    · rename_i h
      rw [mget_cons_other _ _ (by simpa using h)]
      exact mget_del_same k t
    · exact mget_del_same k t
theorem mget_del_other {k k' : Value} (h : k ≠ k') : ∀ m : List (Value × AV), mget (mdel m k) k' = mget m k'
  | [] => rfl
  | (x, A) :: t => by
    unfold mdel
    rw [List.filter_cons]
    split
    · by_cases hx : x = k'
      · subst hx; rw [mget_cons_same, mget_cons_same]
      · rw [mget_cons_other _ _ hx, mget_cons_other _ _ hx]; exact mget_del_other h t
    · rename_i hx
      have hx' : x = k := by simpa using hx
      rw [mget_cons_other _ _ (by rw [hx']; exact h)]
      exact mget_del_other h t

/-- The keys that may be. -/
def kOf (P : Program) (k : TypeId) (v : Value) : Bool := (keyOf P k v).isSome

/-- A value out of exact parts. -/
def flatV : List AV → Option (List Value)
  | [] => some []
  | .v x :: t => (flatV t).map (x :: ·)
  | _ :: _ => none
def keyV : AV → Option Value
  | .v x => some x
  | .agg cs => (flatV cs).map fun l => .agg l.toArray
  | _ => none
theorem flatV_rep {own : Nat → Prop} {w : World} : ∀ {cs : List AV} {l us : List Value}, flatV cs = some l → us.length = cs.length → (∀ (j : Nat) A u, cs[j]? = some A → us[j]? = some u → Rep own w A u) → us = l
  | [], l, us, h, hl, _ => by cases h; simpa using hl
  | A :: t, l, [], h, hl, _ => by simp at hl
  | A :: t, l, u :: us, h, hl, hr => by
    cases A <;> simp [flatV] at h
    obtain ⟨l', h1, rfl⟩ := h
    have h0 := hr 0 _ u rfl rfl
    cases h0
    exact congrArg (List.cons _) (flatV_rep h1 (by simpa using hl) fun j A u hA hu => hr (j + 1) A u (by simpa using hA) (by simpa using hu))
theorem keyV_rep {own : Nat → Prop} {w : World} {A : AV} {x u : Value} (h : keyV A = some x) (hr : Rep own w A u) : u = x := by
  cases A <;> simp [keyV] at h
  · subst h; cases hr; rfl
  · obtain ⟨l, h1, rfl⟩ := h
    cases hr with
    | agg hl _ h => rw [flatV_rep h1 hl h]

theorem same_entry : ∀ (l : List MapEntry), l.Pairwise (fun x y => x.key ≠ y.key) → ∀ x ∈ l, ∀ y ∈ l, x.key = y.key → x = y
  | [], _, x, hx, _, _, _ => by cases hx
  | a :: t, hp, x, hx, y, hy, hxy => by
    rw [List.pairwise_cons] at hp
    rcases List.mem_cons.1 hx with h | h
    · rcases List.mem_cons.1 hy with h' | h'
      · rw [h, h']
      · subst h; exact absurd hxy (hp.1 y h')
    · rcases List.mem_cons.1 hy with h' | h'
      · subst h'; exact absurd hxy.symm (hp.1 x h)
      · exact same_entry t hp.2 x h y h' hxy

theorem Stmp.push {es : Array MapEntry} {clock : Nat} (h : Stmp es clock) (k v : Value) : Stmp (es.push ⟨k, v, clock⟩) (clock + 1) := by
  refine ⟨fun e he => ?_, ?_⟩
  · simp only [Array.toList_push, List.mem_append, List.mem_singleton] at he
    rcases he with he | rfl
    · have := h.1 e he; omega
    · exact Nat.lt_succ_self _
  · simp only [Array.toList_push]
    refine List.pairwise_append.2 ⟨h.2, by simp, fun x hx y hy => ?_⟩
    rw [List.mem_singleton] at hy
    subst hy
    exact Nat.ne_of_lt (h.1 x hx)
theorem Stmp.mods {es es' : Array MapEntry} {clock j : Nat} {e2 e3 : MapEntry} (h : Stmp es clock) (f2 : es.toList[j]? = some e2) (hl : es'.toList = es.toList.set j { e3 with born := e2.born }) : Stmp es' clock := by
  have hb : es'.toList.map (·.born) = es.toList.map (·.born) := by
    rw [hl]
    apply List.ext_getElem?
    intro i
    simp only [List.getElem?_map, List.getElem?_set]
    by_cases hi : j = i
    · subst hi
      rw [if_pos rfl, f2]
      have := (List.getElem?_eq_some_iff.1 f2).1
      rw [if_pos this]
      rfl
    · rw [if_neg hi]
  refine ⟨fun e he => ?_, ?_⟩
  · have h1 : e.born ∈ es'.toList.map (·.born) := List.mem_map.2 ⟨e, he, rfl⟩
    rw [hb] at h1
    obtain ⟨x, hx, hxe⟩ := List.mem_map.1 h1
    have := h.1 x hx
    omega
  · have h1 : (es.toList.map (·.born)).Pairwise (· ≠ ·) := List.pairwise_map.2 h.2
    rw [← hb] at h1
    exact List.pairwise_map.1 h1

section
variable {P : Program} {T : Types} {c : Ctx} {σ σ1 : Slots} {F F1 : Rows} {rd : List Nat} {rdf : List (Nat × List Nat)} {Q : Exit → Act → World → Prop} {ops : Array Oper} {rest : List Oper} {o : Oper} {fuel : Nat} {listed : Array Bool}

/-- An operation gives one value, however the world goes on. -/
def Sure (P : Program) (c : Ctx) (σ : Slots) (F : Rows) (rd : List Nat) (o : Oper) (A : AV) : Prop :=
  ∀ a w1, R c σ F a w1 → ∃ u, Rep (Own c.off F) w1 A u ∧ ∀ w, St1 c F rd w1 w → (execOp a.eval o).run P w = .ok (.value u) w

theorem St1.refl (w : World) : St1 c F rd w w := ⟨Nat.le_refl _, fun _ _ _ => rfl⟩

theorem O.sure {A : AV} {d : Nat} (h : Sure P c σ F rd o A) (hg : o.guard = none) (hd : o.dst = some d) (hdN : Nat.blt d c.N = true) : O P ops c o σ F Q [] Unit (fun _ => (d, A) :: σ) (fun _ => F) := by
  intro a w hR K hK
  refine Op1.plain hg ?_
  obtain ⟨u, h1, h2⟩ := h a w hR
  simp only [Oper.wp]
  rw [h2 w (St1.refl w), Oper.upon_value, hd]
  exact hK () _ _ (hR.pure (of_blt hdN) h1) ⟨Ext.refl _ _, fun _ _ _ _ _ => rfl, fun s hs _ => hs⟩ ⟨u, by rw [hd]⟩

theorem O.sureG {A : AV} {d : Nat} {b t : Bool} (h : b = t → Sure P c σ F rd o A) (hg : guardA ops σ o = some (some (b, t))) (hd : o.dst = some d) (hdN : Nat.blt d c.N = true) : O P ops c o σ F Q [] Unit (fun _ => (d, .when b t A) :: σ) (fun _ => F) := by
  intro a w hR K hK
  unfold Op1
  have key := guard_iff hR hg
  by_cases hb : b = t
  · rw [if_pos (key.2 hb)]
    obtain ⟨u, h1, h2⟩ := h hb a w hR
    simp only [Oper.wp]
    rw [h2 w (St1.refl w), Oper.upon_value, hd]
    exact hK () _ _ (hR.pure (of_blt hdN) (.when (fun _ => h1) fun e => absurd hb e)) ⟨Ext.refl _ _, fun _ _ _ _ _ => rfl, fun s hs _ => hs⟩ ⟨u, by rw [hd]⟩
  · rw [if_neg (fun hw => hb (key.1 hw)), hd]
    exact hK () _ _ (hR.pure (of_blt hdN) (.when (fun e => absurd e hb) fun _ => rfl)) ⟨Ext.refl _ _, fun _ _ _ _ _ => rfl, fun s hs _ => hs⟩ ⟨undef, by rw [hd]⟩

theorem L.sure {A : AV} {d : Nat} (h : Sure P c σ F rd o A) (hg : o.guard = none) (hd : o.dst = some d) (hdN : Nat.blt d c.N = true) (next : L P ops c rest ((d, A) :: σ) F Q) : L P ops c (o :: rest) σ F Q := L.of (O.sure h hg hd hdN) fun _ => next
theorem L.sureG {A : AV} {d : Nat} {b t : Bool} (h : b = t → Sure P c σ F rd o A) (hg : guardA ops σ o = some (some (b, t))) (hd : o.dst = some d) (hdN : Nat.blt d c.N = true) (next : L P ops c rest ((d, .when b t A) :: σ) F Q) : L P ops c (o :: rest) σ F Q := L.of (O.sureG h hg hd hdN) fun _ => next

theorem H.sure {d : Nat} {A : AV} (i : Nat) (hi : ops[i]? = some o) (hsel : Region.noSelect ops = true) (hfr : Region.free .any ops listed i = true) (hrd : (Region.ready .any ops listed).contains i = true) (hti : tch ops i = false)
    (hQ : ∀ ch a a' w, Q (.panic ch) a' w → Q (.panic ch) a w) (hg : o.guard = none) (hd : o.dst = some d) (hdN : Nat.blt d c.N = true) (h : Sure P c σ1 F1 (rdOf rdf i) o A) (next : H P ops c ((d, A) :: σ1) F1 rdf fuel (listed.setIfInBounds i true) ((d, A) :: σ) F Q) :
    H P ops c σ1 F1 rdf (fuel + 1) listed σ F Q :=
  H.first i hi hsel hfr hrd hti hd (of_blt hdN) hQ (fun a w1 hR => by
    obtain ⟨u, h1, h2⟩ := h a w1 hR
    exact ⟨u, h1, .inl ⟨by simp [Region.wanted, hg], h2⟩⟩) next

theorem H.sureG {d : Nat} {A : AV} {b t : Bool} (i : Nat) (hi : ops[i]? = some o) (hsel : Region.noSelect ops = true) (hfr : Region.free .any ops listed i = true) (hrd : (Region.ready .any ops listed).contains i = true) (hti : tch ops i = false)
    (hQ : ∀ ch a a' w, Q (.panic ch) a' w → Q (.panic ch) a w) (hg : guardA ops σ1 o = some (some (b, t))) (hd : o.dst = some d) (hdN : Nat.blt d c.N = true) (h : b = t → Sure P c σ1 F1 (rdOf rdf i) o A) (next : H P ops c ((d, .when b t A) :: σ1) F1 rdf fuel (listed.setIfInBounds i true) ((d, .when b t A) :: σ) F Q) :
    H P ops c σ1 F1 rdf (fuel + 1) listed σ F Q :=
  H.first i hi hsel hfr hrd hti hd (of_blt hdN) hQ (fun a w1 hR => by
    have key := guard_iff hR hg
    by_cases hb : b = t
    · obtain ⟨u, h1, h2⟩ := h hb a w1 hR
      exact ⟨u, .when (fun _ => h1) fun e => absurd hb e, .inl ⟨key.2 hb, h2⟩⟩
    · exact ⟨undef, .when (fun e => absurd e hb) fun _ => rfl, .inr ⟨by simpa using fun hw => hb (key.1 hw), rfl⟩⟩) next

theorem find_at {k : TypeId} (K : Keyed P k) {es : Array MapEntry} (hes : ∀ e ∈ es.toList, kOf P k e.key = true) {x : Value} (hx : kOf P k x = true) (w : World) :
    ((Instr.findKey k x es.toList).run P w = .ok none w ∧ ∀ e ∈ es.toList, e.key ≠ x) ∨ ∃ j e, (Instr.findKey k x es.toList).run P w = .ok (some (j, e.val)) w ∧ es.toList[j]? = some e ∧ e.key = x := by
  obtain ⟨lx, hlx⟩ := Option.isSome_iff_exists.1 hx
  exact K.find w hlx es.toList fun e he => Option.isSome_iff_exists.1 (hes e he)

/-- What a look tells. -/
noncomputable def mlook (m : List (Value × AV)) (k z : Value) : AV := (mget m k).getD (.v z)

theorem zero_at {e : TypeId} {j : TypeInfo} {z : Value} (hj : P.info? e = some j) (hz : j.zero = some z) (w : World) : (zeroValue e).run P w = .ok z w := by simp [zeroValue, typeInfo, hj, hz]

/-- What a look finds. -/
theorem look_core {t k e : TypeId} {x y : Operand} {id b : Nat} {X z kv : Value} {B : AV} {p q : Prop} {m : List (Value × AV)} (hT : TOk P T) (K : Keyed P k) (ht : tdOf T t = some (.map k e)) (hz : (P.info? e).bind (·.zero) = some z)
    (hx : evalS σ x = some (.ref id X, p)) (hy : evalS σ y = some (B, q)) (hkv : keyV B = some kv) (hpq : p ∧ q) (hrow : F.lookup id = some (.map b (kOf P k) m)) (hX : p → q → X = .map (some b)) (hrd : rd.contains id = true) (hkey : kOf P k kv = true) (ok : Bool) {a : Act} {w1 : World} (hR : R c σ F a w1) :
    ∃ u, Rep (Own c.off F) w1 (mlook m kv z) u ∧ ∀ w, St1 c F rd w1 w → (Instr.lookup t (a.eval x) (a.eval y) ok).run P w = .ok (if ok then .tuple #[u, .bool (mget m kv).isSome] else u) w := by
  obtain ⟨ti, hti, htd⟩ := tdOf_some ht
  have hm := (hT.told hti).map htd
  have hxv : a.eval x = .map (some b) := by
    have h := hR.evals hx hpq.1
    generalize a.eval x = v at h
    cases h
    exact hX hpq.1 hpq.2
  have hyv : a.eval y = kv := keyV_rep hkv (hR.evals hy hpq.2)
  obtain ⟨j, hj, hjz⟩ := Option.bind_eq_some_iff.1 hz
  obtain ⟨es, clock, hh, h1, h2, h3, h4, -⟩ := hR.sat.at hrow
  obtain ⟨lx, hlx⟩ := Option.isSome_iff_exists.1 hkey
  have hmem := lookup_mem hrow
  have hlt := hR.sat.lt hmem (b := b) rfl
  have hheap : ∀ w, St1 c F rd w1 w → w.heap[b]? = some (.map es clock) := fun w hS => (hS.2 b hlt (.inr ⟨_, hmem, by simpa using hrd, rfl⟩)).trans hh
  rw [hxv, hyv]
  by_cases hex : ∀ e ∈ es.toList, e.key ≠ kv
  · refine ⟨z, by rw [mlook, h3 kv hex]; exact .v z, fun w hS => ?_⟩
    rcases find_at K h1 hkey w with ⟨f1, f2⟩ | ⟨j', e', f1, f2, f3⟩
    · simp [Instr.lookup, run_underlying hm, MapKept.run_getObj_map (hheap w hS), K.check w _ hlx, f1, zero_at hj hjz, Result.andThen, h3 kv hex]
    · exact absurd f3 (hex e' (List.mem_of_getElem? f2))
  · obtain ⟨e', he', hk'⟩ : ∃ e', e' ∈ es.toList ∧ e'.key = kv := by
      simp only [ne_eq, Classical.not_forall, Classical.not_not] at hex
      obtain ⟨e', h5, h6⟩ := hex
      exact ⟨e', h5, h6⟩
    obtain ⟨A, hA, hrep⟩ := h2 e' he'
    refine ⟨e'.val, by rw [mlook, ← hk', hA]; exact hrep, fun w hS => ?_⟩
    rcases find_at K h1 hkey w with ⟨f1, f2⟩ | ⟨j', e2, f1, f2, f3⟩
    · exact absurd hk' (f2 e' he')
    · have hm2 := List.mem_of_getElem? f2
      have : e2 = e' := same_entry _ h4 e2 hm2 e' he' (f3.trans hk'.symm)
      subst this
      rw [← hk'] at f1 ⊢
      simp [Instr.lookup, run_underlying hm, MapKept.run_getObj_map (hheap w hS), K.check w _ (hk' ▸ hlx), f1, Result.andThen, hA]

/-- 'm[k]'. -/
theorem look_sure {t k e : TypeId} {x y : Operand} {id b : Nat} {X z kv : Value} {B A : AV} {p q : Prop} {m : List (Value × AV)} (hT : TOk P T) (K : Keyed P k) (ho : o.op = .lookup t x y false) (ht : tdOf T t = some (.map k e)) (hz : (P.info? e).bind (·.zero) = some z)
    (hx : evalS σ x = some (.ref id X, p)) (hy : evalS σ y = some (B, q)) (hkv : keyV B = some kv) (hpq : p ∧ q) (hrow : F.lookup id = some (.map b (kOf P k) m)) (hX : p → q → X = .map (some b)) (hrd : rd.contains id = true) (hkey : kOf P k kv = true) (hA : mlook m kv z = A) : Sure P c σ F rd o A := by
  intro a w1 hR
  obtain ⟨u, h1, h2⟩ := look_core hT K ht hz hx hy hkv hpq hrow hX hrd hkey false hR
  exact ⟨u, hA ▸ h1, fun w hS => by simp [execOp, ho, h2 w hS]⟩

/-- 'v, ok := m[k]'. -/
theorem look2_sure {t k e : TypeId} {x y : Operand} {id b : Nat} {X z kv : Value} {B A : AV} {ok : Bool} {p q : Prop} {m : List (Value × AV)} (hT : TOk P T) (K : Keyed P k) (ho : o.op = .lookup t x y true) (ht : tdOf T t = some (.map k e)) (hz : (P.info? e).bind (·.zero) = some z)
    (hx : evalS σ x = some (.ref id X, p)) (hy : evalS σ y = some (B, q)) (hkv : keyV B = some kv) (hpq : p ∧ q) (hrow : F.lookup id = some (.map b (kOf P k) m)) (hX : p → q → X = .map (some b)) (hrd : rd.contains id = true) (hkey : kOf P k kv = true) (hA : mlook m kv z = A) (hok : (mget m kv).isSome = ok) : Sure P c σ F rd o (.tup [A, .v (.bool ok)]) := by
  intro a w1 hR
  obtain ⟨u, h1, h2⟩ := look_core hT K ht hz hx hy hkv hpq hrow hX hrd hkey true hR
  refine ⟨.tuple #[u, .bool (mget m kv).isSome], .tup (us := [u, .bool (mget m kv).isSome]) rfl fun j B v hB hv => ?_, fun w hS => by simp [execOp, ho, h2 w hS]⟩
  match j with
  | 0 => simp at hB hv; subst hB; subst hv; exact hA ▸ h1
  | 1 => simp at hB hv; subst hB; subst hv; rw [hok]; exact .v _
  | j + 2 => simp at hB

/-- 'make(map[K]V)'. -/
theorem O.makeMap {t : TypeId} {d : Nat} (i : Nat) (k : TypeId) (ho : o.op = .makeMap t none) (hg : o.guard = none) (hd : o.dst = some d) (hdN : Nat.blt d c.N = true) :
    O P ops c o σ F Q [] Nat (fun b => (d, .ref i (.map (some b))) :: σ) (fun b => (i, .map b (kOf P k) []) :: F) := by
  intro a w hR K hK
  refine Op1.plain hg ?_
  obtain ⟨k1, k2, k3, k4⟩ := hR.make (.map #[] 0) (i := i) (r := .map w.heap.size (kOf P k) []) (fun b hb => by cases hb; exact Nat.le_refl _) fun he => ⟨#[], 0, by simpa using heap_alloc_new w (.map #[] 0), by simp, by simp, fun _ _ => rfl, by simp, by simp, by simp⟩
  have hgive : (execOp a.eval o).run P w = .ok (.value (.map (some w.heap.size))) (w.alloc (.map #[] 0)) := by
    simp [execOp, ho, Instr.makeMap]
  simp only [Oper.wp]
  rw [hgive, Oper.upon_value, hd]
  exact hK _ _ _ (hR.step (of_blt hdN) k1 k2 k3 k4.ext (.ref _ _ rfl)) k4 ⟨_, by rw [hd]⟩
theorem L.makeMap {t : TypeId} {d : Nat} (i : Nat) (k : TypeId) (ho : o.op = .makeMap t none) (hg : o.guard = none) (hd : o.dst = some d) (hdN : Nat.blt d c.N = true)
    (next : ∀ b, L P ops c rest ((d, .ref i (.map (some b))) :: σ) ((i, .map b (kOf P k) []) :: F) Q) : L P ops c (o :: rest) σ F Q := L.of (O.makeMap i k ho hg hd hdN) next

theorem heap_setBlock_at (w : World) (b : Nat) (x : Obj) (h : b < w.heap.size) : (ChangeMaps.setBlock w b x).heap[b]? = some x := by simp [ChangeMaps.setBlock, h]
theorem heap_setBlock_ne (w : World) (b b' : Nat) (x : Obj) (h : b' ≠ b) : (ChangeMaps.setBlock w b x).heap[b']? = w.heap[b']? := by simp [ChangeMaps.setBlock, Array.getElem?_setIfInBounds_ne h.symm]

/-- 'm[k] = v'. -/
theorem O.mapSet {t k e : TypeId} {x y z : Operand} {id b : Nat} {X kv : Value} {B A : AV} {p q r : Prop} {m : List (Value × AV)} (hT : TOk P T) (K : Keyed P k) (ho : o.op = .mapUpdate t x y z) (hg : o.guard = none) (hd : o.dst = none) (ht : tdOf T t = some (.map k e))
    (hx : evalS σ x = some (.ref id X, p)) (hy : evalS σ y = some (B, q)) (hkv : keyV B = some kv) (hz : evalS σ z = some (A, r)) (hpq : p ∧ q ∧ r) (hrow : F.lookup id = some (.map b (kOf P k) m)) (hX : X = .map (some b)) (hkey : kOf P k kv = true) :
    O P ops c o σ F Q [id] Unit (fun _ => σ) (fun _ => setF id id (.map b (kOf P k) ((kv, A) :: m)) F) := by
  intro a w hR KK hK
  refine Op1.plain hg ?_
  obtain ⟨ti, hti, htd⟩ := tdOf_some ht
  have hm := (hT.told hti).map htd
  have hxv : a.eval x = .map (some b) := by
    have h := hR.evals hx hpq.1
    generalize a.eval x = v at h
    cases h
    exact hX
  have hyv : a.eval y = kv := keyV_rep hkv (hR.evals hy hpq.2.1)
  have hzr := hR.evals hz hpq.2.2
  obtain ⟨es, clock, hh, h1, h2, h3, h4, hst⟩ := hR.sat.at hrow
  obtain ⟨lx, hlx⟩ := Option.isSome_iff_exists.1 hkey
  have hlt := hR.sat.lt (lookup_mem hrow) (b := b) rfl
  obtain ⟨es', clock', hrun, q1, q2, q3, q4⟩ : ∃ es' clock', (execOp a.eval o).run P w = .ok .skip (ChangeMaps.setBlock w b (.map es' clock')) ∧ (∀ e ∈ es'.toList, (e ∈ es.toList ∧ e.key ≠ kv) ∨ (e.key = kv ∧ e.val = a.eval z)) ∧
      (∀ key, (∀ e ∈ es'.toList, e.key ≠ key) → key ≠ kv ∧ ∀ e ∈ es.toList, e.key ≠ key) ∧ (es'.toList.Pairwise fun x y => x.key ≠ y.key) ∧ Stmp es' clock' := by
    rcases find_at K h1 hkey w with ⟨f1, f2⟩ | ⟨j', e2, f1, f2, f3⟩
    · refine ⟨es.push ⟨kv, a.eval z, clock⟩, clock + 1, ?_, fun e he => ?_, fun key hne => ?_, ?_, hst.push _ _⟩
      · simp [execOp, ho, hxv, hyv, Instr.mapUpdate, run_underlying hm, MapKept.run_getObj_map hh, K.check w false hlx, f1, MapKept.run_setObj_map _ hh, Result.andThen, ChangeMaps.setBlock]
      · simp only [Array.toList_push, List.mem_append, List.mem_singleton] at he
        rcases he with he | rfl
        · exact .inl ⟨he, f2 e he⟩
        · exact .inr ⟨rfl, rfl⟩
      · simp only [Array.toList_push, List.mem_append, List.mem_singleton] at hne
        exact ⟨fun e => hne _ (.inr rfl) e.symm, fun e he => hne e (.inl he)⟩
      · simp only [Array.toList_push]
        refine List.pairwise_append.2 ⟨h4, by simp, fun x hx y hy => ?_⟩
        rw [List.mem_singleton] at hy
        subst hy
        exact f2 x hx
    · have hjl : j' < es.toList.length := (List.getElem?_eq_some_iff.1 f2).1
      have hjs : j' < es.size := by simpa using hjl
      have hget : es[j']? = some e2 := by simpa using f2
      have hlist : (es.modify j' fun e => { e with key := kv, val := a.eval z }).toList = es.toList.set j' { e2 with key := kv, val := a.eval z } := by
        apply List.ext_getElem?
        intro i
        simp only [Array.toList_modify, List.getElem?_modify, List.getElem?_set]
        by_cases hi : j' = i
        · subst hi
          rw [f2]; simp; exact hjs
        · simp [hi]
      have hsame : ∀ e ∈ es.toList, e.key = kv → e = e2 := by
        intro e he hek
        exact same_entry _ h4 e he e2 (List.mem_of_getElem? f2) (hek.trans f3.symm)
      refine ⟨es.modify j' fun e => { e with key := kv, val := a.eval z }, clock, ?_, fun e he => ?_, fun key hne => ?_, ?_, hst.mods (e3 := ⟨kv, a.eval z, 0⟩) f2 (by rw [hlist])⟩
      · simp [execOp, ho, hxv, hyv, Instr.mapUpdate, run_underlying hm, MapKept.run_getObj_map hh, K.check w false hlx, f1, hget, f3, K.stays w hlx, MapKept.run_setObj_map _ hh, Result.andThen, ChangeMaps.setBlock]
      · rw [hlist] at he
        obtain ⟨i, hi⟩ := List.getElem?_of_mem he
        rw [List.getElem?_set] at hi
        split at hi
        · first
          | (cases hi; exact .inr ⟨rfl, rfl⟩)
          | (split at hi
             · cases hi; exact .inr ⟨rfl, rfl⟩
             · cases hi)
        · rename_i hne
          refine .inl ⟨List.mem_of_getElem? hi, fun hek => ?_⟩
          have := List.pairwise_iff_getElem.1 h4
          have hil := (List.getElem?_eq_some_iff.1 hi).1
          have he1 : es.toList[i] = e := (List.getElem?_eq_some_iff.1 hi).2
          have he2 : es.toList[j'] = e2 := (List.getElem?_eq_some_iff.1 f2).2
          rcases Nat.lt_or_gt_of_ne hne with hlt | hgt
          · exact this j' i hjl hil hlt (by rw [he1, he2, hek, f3])
          · exact this i j' hil hjl hgt (by rw [he1, he2, hek, f3])
      · rw [hlist] at hne
        have hkn : key ≠ kv := fun e => hne _ (List.mem_iff_getElem?.2 ⟨j', by rw [List.getElem?_set, if_pos rfl]; first | rfl | (rw [if_pos hjl])⟩) e.symm
        refine ⟨hkn, fun e he hek => ?_⟩
        obtain ⟨i, hi⟩ := List.getElem?_of_mem he
        by_cases hij : j' = i
        · subst hij
          rw [f2] at hi
          cases hi
          exact hkn (hek.symm.trans f3)
        · exact hne e (List.mem_iff_getElem?.2 ⟨i, by rw [List.getElem?_set, if_neg hij]; exact hi⟩) hek
      · rw [hlist]
        rw [List.pairwise_iff_getElem] at h4 ⊢
        intro i1 i2 hi1 hi2 hlt
        simp only [List.length_set] at hi1 hi2
        have he2 : es.toList[j'] = e2 := (List.getElem?_eq_some_iff.1 f2).2
        have := h4 i1 i2 hi1 hi2 hlt
        rw [List.getElem_set, List.getElem_set]
        split
        · rename_i e1
          subst e1
          split
          · omega
          · show kv ≠ _
            rw [he2, f3] at this
            exact this
        · split
          · rename_i e1
            subst e1
            show _ ≠ kv
            rw [he2, f3] at this
            exact this
          · exact this
  obtain ⟨k1, k2, k3, k4⟩ := hR.write (i' := id) (r' := .map b (kOf P k) ((kv, A) :: m)) hrow (w' := ChangeMaps.setBlock w b (.map es' clock')) (by simp [ChangeMaps.setBlock]) rfl rfl rfl
    (fun b' hlt' hne => heap_setBlock_ne w b b' _ (fun e => hne (by rw [e]; rfl))) (fun b' hb' => .inl hb') (fun he => by
      refine ⟨es', clock', heap_setBlock_at w b _ hlt, fun e hm' => ?_, fun e hm' => ?_, fun key hne => ?_, q3, q4⟩
      · rcases q1 e hm' with ⟨g1, -⟩ | ⟨g1, -⟩
        · exact h1 e g1
        · rw [g1]; exact hkey
      · rcases q1 e hm' with ⟨g1, g2⟩ | ⟨g1, g2⟩
        · obtain ⟨A', hA', hr'⟩ := h2 e g1
          exact ⟨A', by rw [mget_cons_other _ _ (Ne.symm g2)]; exact hA', hr'.ext he⟩
        · exact ⟨A, by rw [g1, mget_cons_same], by rw [g2]; exact hzr.ext he⟩
      · obtain ⟨g1, g2⟩ := q2 key hne
        rw [mget_cons_other _ _ (Ne.symm g1)]
        exact h3 key g2)
  simp only [Oper.wp]
  rw [hrun, Oper.upon_skip, hd]
  exact hK () _ _ (hR.step_none k1 k2 k3 k4.ext) k4 ⟨undef, by rw [hd]⟩

theorem L.mapSet {t k e : TypeId} {x y z : Operand} {id b : Nat} {X kv : Value} {B A : AV} {p q r : Prop} {m : List (Value × AV)} (hT : TOk P T) (K : Keyed P k) (ho : o.op = .mapUpdate t x y z) (hg : o.guard = none) (hd : o.dst = none) (ht : tdOf T t = some (.map k e))
    (hx : evalS σ x = some (.ref id X, p)) (hy : evalS σ y = some (B, q)) (hkv : keyV B = some kv) (hz : evalS σ z = some (A, r)) (hpq : p ∧ q ∧ r) (hrow : F.lookup id = some (.map b (kOf P k) m)) (hX : X = .map (some b)) (hkey : kOf P k kv = true)
    (next : L P ops c rest σ (setF id id (.map b (kOf P k) ((kv, A) :: m)) F) Q) : L P ops c (o :: rest) σ F Q := L.of (O.mapSet hT K ho hg hd ht hx hy hkv hz hpq hrow hX hkey) fun _ => next

/-- A variable that nobody writes any more. -/
theorem freezeBlk {K : Act → World → Prop} (d id : Nat) {id' b b' : Nat} {T : TypeId} {cs : List AV} (hrow : F.lookup id = some (.blk b T cs)) (hd : σ.lookup d = some (.ptr id' b' 0)) (hb : b' = b)
    (next : ∀ a w, R c ((d, .pel cs.length cs) :: σ) (delF id F) a w → K a w) : ∀ a w, R c σ F a w → K a w := by
  intro a w hR
  subst hb
  obtain ⟨us, hh, hl, h1, hr⟩ := hR.sat.at hrow
  obtain ⟨L1, L2, e1, e2⟩ := delF_split hrow
  have hmem := lookup_mem hrow
  have hR' := hR.del id hrow
  have h0 := hR.slots d _ hd
  have hless : Ext (Own c.off F) (Own c.off (delF id F)) w w := Ext.less (fun b hb => Own.tail (fun r hr => by rw [e2] at hr; rw [e1]; rcases List.mem_append.1 hr with h | h <;> simp [h]) hb) w
  have hnot : ¬ Own c.off (delF id F) b' := by
    rintro (h | ⟨s, hs, hsb⟩)
    · exact hR.sat.off _ hmem b' rfl h
    · have hn := hR.sat.nodup
      rw [e1] at hn
      rw [e2] at hs
      obtain ⟨n1, n2, n3⟩ := List.pairwise_append.1 hn
      rcases List.mem_append.1 hs with h | h
      · exact n3 s h (id, .blk b' T cs) (by simp) b' hsb rfl
      · exact (List.pairwise_cons.1 n2).1 s h b' rfl hsb
  refine next a w ⟨hR'.len, hR'.defers, hR'.hoff, hR'.kept, hR'.fresh, hR'.sat, fun k A hA => ?_⟩
  rw [lookup_cons] at hA
  split at hA
  · rename_i e
    subst e
    cases hA
    generalize a.tmps.getD k undef = v at h0 ⊢
    cases h0
    refine .pel (fun j => us.getD j (.bool false)) rfl (fun j => ?_) (fun j hj => ?_) (fun _ => hnot) (fun j B hB => ?_)
    · rw [List.getD_eq_getElem?_getD]
      cases hq : us[j]? with
      | none => rfl
      | some u => exact h1 u (List.mem_of_getElem? hq)
    · rw [addr_add_lit, Nat.zero_add]
      have hlt : j < us.length := by omega
      rw [List.getD_eq_getElem?_getD, List.getElem?_eq_getElem hlt]
      simp [World.cell?, hh, hlt]
    · have hlt : j < us.length := by have := (List.getElem?_eq_some_iff.1 hB).1; omega
      rw [List.getD_eq_getElem?_getD, List.getElem?_eq_getElem hlt]
      exact (hr j B _ hB (List.getElem?_eq_getElem hlt)).ext hless
  · exact hR'.slots k A hA

end

end Go.Proofs.YtlgdjmmjconbfaaDoor

/- More rules, on abstract values: nil slices, lengths, weakening, other numbers for rows. -/
namespace Go.Proofs.YtlgdjmmjconbfaaDoor
set_option linter.unusedVariables false
set_option linter.unusedSimpArgs false
open Go.RowKit

theorem Imps.refl : ∀ l : List AV, Imps l l
  | [] => trivial
  | A :: l => ⟨Imp.refl A, Imps.refl l⟩

def WeakOk (σ : Slots) : Slots → Prop
  | [] => True
  | (k, B) :: t => (match σ.lookup k with | some A => Imp A B | none => False) ∧ WeakOk σ t
theorem WeakOk.mem {σ : Slots} : ∀ {σ' : Slots}, WeakOk σ σ' → ∀ p ∈ σ', ∃ A, σ.lookup p.1 = some A ∧ Imp A p.2
  | [], _, p, hp => by cases hp
  | (k, B) :: t, h, p, hp => by
    rcases List.mem_cons.1 hp with rfl | hp
    · have h1 := h.1
      split at h1
      · rename_i A hA; exact ⟨A, hA, h1⟩
      · exact h1.elim
    · exact WeakOk.mem h.2 p hp
theorem R.weak {c : Ctx} {σ σ' : Slots} {F G : Rows} {a : Act} {w : World} (hs : WeakOk σ σ') (hF : G.Sublist F) (h : R c σ F a w) : R c σ' G a w := h.weaken hs.mem hF

/-- A slice is not longer than may be. -/
theorem lenAt {c : Ctx} {σ : Slots} {F : Rows} {K : Act → World → Prop} (d : Nat) {sz n : Nat} {g : Nat → List AV} (h : σ.lookup d = some (.lst sz n g)) (next : n ≤ 9223372036854775807 → ∀ a w, R c σ F a w → K a w) : ∀ a w, R c σ F a w → K a w := by
  intro a w hR
  refine next ?_ a w hR
  have h1 := hR.slots d _ h
  generalize a.tmps.getD d undef = v at h1
  cases h1 with
  | lst u hn hm => simp only [maxLen] at hm; omega

theorem lenOwn {c : Ctx} {σ : Slots} {F : Rows} {K : Act → World → Prop} (id : Nat) {x : Value} {E sz n : Nat} {g : Nat → List AV} (h : F.lookup id = some (.own x E sz n g)) (next : n ≤ 9223372036854775807 → ∀ a w, R c σ F a w → K a w) : ∀ a w, R c σ F a w → K a w := by
  intro a w hR
  refine next ?_ a w hR
  obtain ⟨us, ho, -⟩ := hR.sat.at h
  obtain ⟨A, cap, rfl, h1, h2⟩ := own_form0 ho
  simp only [maxLen] at h2
  omega

/-- Other numbers. -/
theorem R.renum {c : Ctx} {σ : Slots} {F F' : Rows} {a : Act} {w : World} (h : R c σ F a w) (hF : F'.map (·.2) = F.map (·.2)) : R c σ F' a w := by
  have hmem : ∀ r : Row, (∃ i, (i, r) ∈ F') ↔ ∃ i, (i, r) ∈ F := fun r => by
    have h1 : r ∈ F'.map (·.2) ↔ r ∈ F.map (·.2) := by rw [hF]
    simpa using h1
  have hown : ∀ b, Own c.off F' b ↔ Own c.off F b := fun b => by
    unfold Own
    constructor
    · rintro (h | ⟨⟨i, r⟩, h1, h2⟩)
      · exact .inl h
      · obtain ⟨j, hj⟩ := (hmem r).1 ⟨i, h1⟩; exact .inr ⟨_, hj, h2⟩
    · rintro (h | ⟨⟨i, r⟩, h1, h2⟩)
      · exact .inl h
      · obtain ⟨j, hj⟩ := (hmem r).2 ⟨i, h1⟩; exact .inr ⟨_, hj, h2⟩
  have hless : Ext (Own c.off F) (Own c.off F') w w := Ext.less (fun b hb => (hown b).1 hb) w
  refine ⟨h.len, h.defers, h.hoff, h.kept, fun ⟨i, r⟩ hr b hb => ?_, ⟨fun ⟨i, r⟩ hr => ?_, ?_, fun ⟨i, r⟩ hr b hb => ?_⟩, fun k A hA => (h.slots k A hA).ext hless⟩
  · obtain ⟨j, hj⟩ := (hmem r).1 ⟨i, hr⟩; exact h.fresh _ hj b hb
  · obtain ⟨j, hj⟩ := (hmem r).1 ⟨i, hr⟩; exact (h.sat.rows _ hj).ext hless fun _ _ => rfl
  · have h1 : (F'.map (·.2)).Pairwise fun r s : Row => ∀ b, r.block = some b → s.block ≠ some b := by
      rw [hF]; exact List.pairwise_map.2 h.sat.nodup
    exact List.pairwise_map.1 h1
  · obtain ⟨j, hj⟩ := (hmem r).1 ⟨i, hr⟩; exact h.sat.off _ hj b hb

/-- Another view of one slot, and other numbers. -/
theorem renum {c : Ctx} {σ : Slots} {F : Rows} {K : Act → World → Prop} (F' : Rows) (d : Nat) {A : AV} (B : AV) (hF : F'.map (·.2) = F.map (·.2)) (hd : σ.lookup d = some A) (hi : Imp A B) (next : ∀ a w, R c ((d, B) :: σ) F' a w → K a w) : ∀ a w, R c σ F a w → K a w := by
  intro a w hR
  have hR' := hR.renum hF
  refine next a w ⟨hR'.len, hR'.defers, hR'.hoff, hR'.kept, hR'.fresh, hR'.sat, fun k C hC => ?_⟩
  rw [lookup_cons] at hC
  split at hC
  · rename_i e; subst e; cases hC; exact hi _ _ _ (hR'.slots k A hd)
  · exact hR'.slots k C hC

/-- A nil slice as a row of one's own. -/
theorem nilRow {c : Ctx} {σ : Slots} {F : Rows} {K : Act → World → Prop} (id : Nat) (E sz : Nat) (g : Nat → List AV) (next : ∀ a w, R c σ ((id, .own (.slice none 0 0) E sz 0 g) :: F) a w → K a w) : ∀ a w, R c σ F a w → K a w := by
  intro a w hR
  obtain ⟨g1, g2⟩ := hR.sat.add hR.off (i := id) (r := .own (.slice none 0 0) E sz 0 g) (w' := w) (Nat.le_refl _) (fun _ _ => rfl) (fun b hb => by cases hb) fun _ =>
    ⟨[], World.ownsRow_nil w 0 E sz, fun i hi => absurd hi (by omega), by simp, fun i hi => absurd hi (by omega)⟩
  refine next a w ⟨hR.len, hR.defers, hR.hoff, hR.kept, fun s hs b hb => ?_, g1, fun k A hA => (hR.slots k A hA).ext g2⟩
  rcases List.mem_cons.1 hs with rfl | h
  · cases hb
  · exact hR.fresh s h b hb
theorem rowsEq {c : Ctx} {σ : Slots} {F : Rows} {K : Act → World → Prop} (F' : Rows) (h : F = F') (next : ∀ a w, R c σ F' a w → K a w) : ∀ a w, R c σ F a w → K a w := h ▸ next
theorem joinG_zero (g h : Nat → List AV) : joinG 0 g h = h := by funext i; simp [joinG]
theorem Imp.vref {id : Nat} {x : Value} (h : x.oneCell' = true) : Imp (.v x) (.ref id x) := fun own w u hu => by cases hu; exact .ref _ _ h

theorem Imp.ref {id id' : Nat} {x : Value} : Imp (.ref id x) (.ref id' x) := fun own w u h => by cases h; exact .ref _ _ ‹_›
theorem Imp.agg {l m : List AV} (h : Imps l m) : Imp (.agg l) (.agg m) := fun own w u hu => by
  cases hu with
  | agg hl h1 hr =>
    obtain ⟨h2, h3⟩ := h.get
    refine .agg (hl.trans h2) h1 fun j A u hA hu => ?_
    obtain ⟨B, hB, hi⟩ := h3 j A hA
    exact hi _ _ _ (hr j B u hB hu)
theorem Imp.tup {l m : List AV} (h : Imps l m) : Imp (.tup l) (.tup m) := fun own w u hu => by
  cases hu with
  | tup hl hr =>
    obtain ⟨h2, h3⟩ := h.get
    refine .tup (hl.trans h2) fun j A u hA hu => ?_
    obtain ⟨B, hB, hi⟩ := h3 j A hA
    exact hi _ _ _ (hr j B u hB hu)
theorem Imp.trans {A B C : AV} (h : Imp A B) (k : Imp B C) : Imp A C := fun own w u hu => k _ _ _ (h _ _ _ hu)
/-- Rows of the same elements. -/
theorem Imp.lst {sz n n' : Nat} {g h : Nat → List AV} (hn : n = n') (hh : ∀ i, i < n → g i = h i) : Imp (.lst sz n g) (.lst sz n' h) := fun own w u hu => by
  subst hn
  cases hu with
  | lst u hn hm hnil hlen h1 hc hb hr =>
    exact .lst u hn hm hnil (fun i hi => by rw [← hh i hi]; exact hlen i hi) h1 hc hb (fun i hi j B hB => hr i hi j B (by rw [hh i hi]; exact hB))

section
variable {P : Program} {T : Types} {c : Ctx} {σ : Slots} {F : Rows} {Q : Exit → Act → World → Prop} {ops : Array Oper} {rest : List Oper} {o : Oper}

/-- 's == nil'. -/
theorem O.isNil {t t' e : TypeId} {x : Operand} {d sz n : Nat} {g : Nat → List AV} {p : Prop} (hT : TOk P T) (ho : o.op = .binOp .eql t x (.const (.slice none 0 0)) t') (hg : o.guard = none) (hd : o.dst = some d) (hdN : Nat.blt d c.N = true) (ht : tdOf T t = some (.slice e))
    (hx : evalS σ x = some (.lst sz n g, p)) (hp : p) : O P ops c o σ F Q [] { b : Bool // b = true → n = 0 } (fun b => (d, .v (.bool b.1)) :: σ) (fun _ => F) := by
  intro a w hR K hK
  refine Op1.plain hg ?_
  obtain ⟨ti, hti, htd⟩ := tdOf_some ht
  have hu := (hT.told hti).slice htd
  have h1 := hR.evals hx hp
  generalize hv : a.eval x = v at h1
  cases h1 with
  | @lst _ _ cap _ A u hn hm hnil =>
    have hgive : (execOp a.eval o).run P w = .ok (.value (.bool A.isNone)) w := by
      have h2 := Lib.run_eql_slice_nil (P := P) w t e A n cap 0 0 hu
      have hc : a.eval (.const (.slice none 0 0)) = .slice none 0 0 := rfl
      have hgd := run_eqGuard_none (P := P) .eql t x (.const (.slice none 0 0)) (.slice A n cap) (.slice none 0 0) (w := w) (fun _ _ h => by cases h) (by simp)
      simp [execOp, ho, hv, hc, hgd, h2]
    simp only [Oper.wp]
    rw [hgive, Oper.upon_value, hd]
    exact hK ⟨A.isNone, fun h => (hnil (by simpa using h)).1⟩ _ _ (hR.pure (of_blt hdN) (.v _)) ⟨Ext.refl _ _, fun _ _ _ _ _ => rfl, fun s hs _ => hs⟩ ⟨_, by rw [hd]⟩
theorem L.isNil {t t' e : TypeId} {x : Operand} {d sz n : Nat} {g : Nat → List AV} {p : Prop} (hT : TOk P T) (ho : o.op = .binOp .eql t x (.const (.slice none 0 0)) t') (hg : o.guard = none) (hd : o.dst = some d) (hdN : Nat.blt d c.N = true) (ht : tdOf T t = some (.slice e))
    (hx : evalS σ x = some (.lst sz n g, p)) (hp : p) (next : ∀ b : Bool, (b = true → n = 0) → L P ops c rest ((d, .v (.bool b)) :: σ) F Q) : L P ops c (o :: rest) σ F Q := L.of (O.isNil hT ho hg hd hdN ht hx hp) fun b => next b.1 b.2

variable {F1 : Rows} {σ1 : Slots} {rdf : List (Nat × List Nat)} {listed : Array Bool}
theorem H.ts (is : List Nat) {n : Nat} {σ1' σ' : Slots} {C : Prop} (hT : TOk P T) (hn : Nat.ble is.length n = true) (hsel : Region.noSelect ops = true) (hok : takesOk P ops is listed = true) (hQ : ∀ ch a a' w, Q (.panic ch) a' w → Q (.panic ch) a w)
    (h : takesA T c.N ops F1 rdf is σ1 σ = some (σ1', σ', C)) (hC : C) (next : H P ops c σ1' F1 rdf (n - is.length) (setAll is listed) σ' F Q) : H P ops c σ1 F1 rdf n listed σ F Q := by
  have h1 := Nat.le_of_ble_eq_true hn
  have h2 := H.takes (fuel := n - is.length) is hT hsel hok hQ h hC next
  rwa [Nat.sub_add_cancel h1] at h2
theorem H.o1 {ids : List Nat} {ι : Type} {sl : ι → Slots} {ro : ι → Rows} (i : Nat) {n : Nat} (hi : ops[i]? = some o) (hn : Nat.blt 0 n = true) (hrd : Region.ready .any ops listed = [i]) (h : O P ops c o σ F Q ids ι sl ro) (ht : tch ops i = true ∨ ids = []) (hdis : apartOk ops rdf i ids = true)
    (next : ∀ k, H P ops c (headW o.dst (sl k) (σ1.filter fun p => !(o.dst == some p.1))) F1 rdf (n - 1) (listed.setIfInBounds i true) (sl k) (ro k) Q) : H P ops c σ1 F1 rdf n listed σ F Q := by
  have h1 := of_blt hn
  have h2 := H.one (fuel := n - 1) i hi hrd h ht hdis next
  rwa [Nat.sub_add_cancel h1] at h2
theorem H.o2 {o' : Oper} {ids ids' : List Nat} {ι ι' : Type} {sl : ι → Slots} {ro : ι → Rows} {sl' : ι' → Slots} {ro' : ι' → Rows} (i i' : Nat) {n : Nat} (hi : ops[i]? = some o) (hi' : ops[i']? = some o') (hn : Nat.blt 0 n = true) (hrd : Region.ready .any ops listed = [i, i']) (h : O P ops c o σ F Q ids ι sl ro) (h' : O P ops c o' σ F Q ids' ι' sl' ro')
    (ht : tch ops i = true ∨ ids = []) (ht' : tch ops i' = true ∨ ids' = []) (hdis : apartOk ops rdf i ids = true) (hdis' : apartOk ops rdf i' ids' = true)
    (next : ∀ k, H P ops c (headW o.dst (sl k) (σ1.filter fun p => !(o.dst == some p.1))) F1 rdf (n - 1) (listed.setIfInBounds i true) (sl k) (ro k) Q) (next' : ∀ k, H P ops c (headW o'.dst (sl' k) (σ1.filter fun p => !(o'.dst == some p.1))) F1 rdf (n - 1) (listed.setIfInBounds i' true) (sl' k) (ro' k) Q) :
    H P ops c σ1 F1 rdf n listed σ F Q := by
  have h1 := of_blt hn
  have h2 := H.two (fuel := n - 1) i i' hi hi' hrd h h' ht ht' hdis hdis' next next'
  rwa [Nat.sub_add_cancel h1] at h2

theorem H.call {cl : Call} {x : Operand} {f d n : Nat} {caps As Bs : List AV} {p q : Prop} {Post : AV → Rows → Prop} (i : Nat) (G H' : Rows) (hi : ops[i]? = some o) (hn : Nat.blt 0 n = true) (hrd : Region.ready .any ops listed = [i]) (ho : o.op = .call cl) (hcl : cl.callee = .value x) (hg : o.guard = none) (hd : o.dst = some d) (hdN : Nat.blt d c.N = true) (hx : evalS σ x = some (.fn (.func f) caps, p)) (ha : argsA σ cl.args.toList = some (As, q))
    (hpq : p ∧ q) (hf : callable P f = true) (himp : Imps (As ++ caps) Bs) (hp : F.Perm (G ++ H')) (h : FnC P f Bs G Post) (ht : tch ops i = true) (hdis : apartOk ops rdf i (G.map (·.1)) = true)
    (next : ∀ r G', Post r G' → H P ops c (headW o.dst ((d, r) :: σ) (σ1.filter fun p => !(o.dst == some p.1))) F1 rdf (n - 1) (listed.setIfInBounds i true) ((d, r) :: σ) (G' ++ H') Q) : H P ops c σ1 F1 rdf n listed σ F Q :=
  H.o1 i hi hn hrd (O.call ho hcl hg hd hdN hx ha hpq hf himp hp h) (.inl ht) hdis fun k => next k.1.1 k.1.2 k.2

theorem H.callP {cl : Call} {x : Operand} {f d n : Nat} {caps As Bs : List AV} {p q : Prop} {r : AV} (i : Nat) (hi : ops[i]? = some o) (hn : Nat.blt 0 n = true) (hrd : Region.ready .any ops listed = [i]) (ho : o.op = .call cl) (hcl : cl.callee = .value x) (hg : o.guard = none) (hd : o.dst = some d) (hdN : Nat.blt d c.N = true) (hx : evalS σ x = some (.fn (.func f) caps, p)) (ha : argsA σ cl.args.toList = some (As, q))
    (hpq : p ∧ q) (hf : callable P f = true) (himp : Imps (As ++ caps) Bs) (h : PFn P f Bs r)
    (next : H P ops c (headW o.dst ((d, r) :: σ) (σ1.filter fun p => !(o.dst == some p.1))) F1 rdf (n - 1) (listed.setIfInBounds i true) ((d, r) :: σ) F Q) : H P ops c σ1 F1 rdf n listed σ F Q :=
  H.o1 i hi hn hrd (O.callP ho hcl hg hd hdN hx ha hpq hf himp h) (.inr rfl) rfl fun _ => next

theorem H.callG {cl : Call} {x : Operand} {f d n : Nat} {b t : Bool} {caps As Bs : List AV} {p q : Prop} {r : AV} (i : Nat) (hi : ops[i]? = some o) (hn : Nat.blt 0 n = true) (hrd : Region.ready .any ops listed = [i]) (ho : o.op = .call cl) (hcl : cl.callee = .value x) (hg : guardA ops σ o = some (some (b, t))) (hd : o.dst = some d) (hdN : Nat.blt d c.N = true) (hx : evalS σ x = some (.fn (.func f) caps, p)) (ha : argsA σ cl.args.toList = some (As, q))
    (hpq : b = t → p ∧ q) (hf : callable P f = true) (himp : Imps (As ++ caps) Bs) (h : b = t → PFn P f Bs r)
    (next : H P ops c (headW o.dst ((d, .when b t r) :: σ) (σ1.filter fun p => !(o.dst == some p.1))) F1 rdf (n - 1) (listed.setIfInBounds i true) ((d, .when b t r) :: σ) F Q) : H P ops c σ1 F1 rdf n listed σ F Q :=
  H.o1 i hi hn hrd (O.callG ho hcl hg hd hdN hx ha hpq hf himp h) (.inr rfl) rfl fun _ => next

theorem H.store {t : TypeId} {x y : Operand} {A B : AV} {p q C : Prop} {F' : Rows} {k n : Nat} (i : Nat) (hi : ops[i]? = some o) (hn : Nat.blt 0 n = true) (hrd : Region.ready .any ops listed = [i]) (hT : TOk P T) (ho : o.op = .store t x y) (hg : o.guard = none) (hd : o.dst = none) (hx : evalS σ x = some (A, p)) (hy : evalS σ y = some (B, q)) (hs : storeA T F t A B = some (k, F', C))
    (hC : p ∧ q ∧ C) (ht : tch ops i = true) (hdis : apartOk ops rdf i [k] = true) (next : H P ops c (headW o.dst σ (σ1.filter fun p => !(o.dst == some p.1))) F1 rdf (n - 1) (listed.setIfInBounds i true) σ F' Q) : H P ops c σ1 F1 rdf n listed σ F Q :=
  H.o1 i hi hn hrd (O.store hT ho hg hd hx hy hs hC) (.inl ht) hdis fun _ => next

/-- A step that only computes or reads, at its place. -/
theorem H.step {σ' : Slots} {C : Prop} {n : Nat} (i : Nat) (hi : ops[i]? = some o) (hn : Nat.blt 0 n = true) (hrd : Region.ready .any ops listed = [i]) (hT : TOk P T) (hcv : convOk P o = true) (h : stepA T c.N ops σ F o = some (σ', C)) (hC : C)
    (next : H P ops c (headW o.dst σ' (σ1.filter fun p => !(o.dst == some p.1))) F1 rdf (n - 1) (listed.setIfInBounds i true) σ' F Q) : H P ops c σ1 F1 rdf n listed σ F Q :=
  H.o1 i hi hn hrd (O.step hT hcv h hC) (.inr rfl) rfl fun _ => next

theorem H.sG {d n : Nat} {A : AV} {b t : Bool} (i : Nat) (hi : ops[i]? = some o) (hn : Nat.blt 0 n = true) (hsel : Region.noSelect ops = true) (hfr : Region.free .any ops listed i = true) (hrd : (Region.ready .any ops listed).contains i = true) (hti : tch ops i = false)
    (hQ : ∀ ch a a' w, Q (.panic ch) a' w → Q (.panic ch) a w) (hg : guardA ops σ1 o = some (some (b, t))) (hd : o.dst = some d) (hdN : Nat.blt d c.N = true) (h : b = t → Sure P c σ1 F1 (rdOf rdf i) o A) (next : H P ops c ((d, .when b t A) :: σ1) F1 rdf (n - 1) (listed.setIfInBounds i true) ((d, .when b t A) :: σ) F Q) :
    H P ops c σ1 F1 rdf n listed σ F Q := by
  have h1 := of_blt hn
  have h2 := H.sureG (fuel := n - 1) i hi hsel hfr hrd hti hQ hg hd hdN h next
  rwa [Nat.sub_add_cancel h1] at h2
theorem H.s1 {d n : Nat} {A : AV} (i : Nat) (hi : ops[i]? = some o) (hn : Nat.blt 0 n = true) (hsel : Region.noSelect ops = true) (hfr : Region.free .any ops listed i = true) (hrd : (Region.ready .any ops listed).contains i = true) (hti : tch ops i = false)
    (hQ : ∀ ch a a' w, Q (.panic ch) a' w → Q (.panic ch) a w) (hg : o.guard = none) (hd : o.dst = some d) (hdN : Nat.blt d c.N = true) (h : Sure P c σ1 F1 (rdOf rdf i) o A) (next : H P ops c ((d, A) :: σ1) F1 rdf (n - 1) (listed.setIfInBounds i true) ((d, A) :: σ) F Q) :
    H P ops c σ1 F1 rdf n listed σ F Q := by
  have h1 := of_blt hn
  have h2 := H.sure (fuel := n - 1) i hi hsel hfr hrd hti hQ hg hd hdN h next
  rwa [Nat.sub_add_cancel h1] at h2

end

end Go.Proofs.YtlgdjmmjconbfaaDoor

/- A slice literal whose block is known. -/
namespace Go.Proofs.YtlgdjmmjconbfaaDoor
set_option linter.unusedVariables false
set_option linter.unusedSimpArgs false
set_option maxHeartbeats 8000000
open Go.RowKit

section
variable {P : Program} {T : Types} {c : Ctx} {σ : Slots} {F : Rows} {Q : Exit → Act → World → Prop} {ops : Array Oper} {rest : List Oper} {o : Oper}

theorem O.buildSliceB {t e : TypeId} {len : Nat} {parts : Array (Nat × Operand)} {n : TI} {d : Nat} {m : List (Nat × AV)} {p C : Prop} {cs : List AV} (i : Nat) (hT : TOk P T) (ho : o.op = .buildSlice t len parts) (hg : o.guard = none) (hd : o.dst = some d) (hdN : Nat.blt d c.N = true)
    (ht : tdOf T t = some (.slice e)) (he : T.lookup e = some n) (hsmall : len * n.size ≤ 16777216) (hsmall' : len ≤ 16777216) (hm : partsA σ parts.toList = some (m, p))
    (hf : fillA (fun k => some (k * n.size, n.size)) m ((List.range (len * n.size)).map fun j => .v (n.zero.getD (j % n.size) undef)) = some (cs, C)) (hC : p ∧ C)
    : O P ops c o σ F Q [] Nat (fun b => (d, .v (.slice (some ⟨b, 0, none⟩) len len)) :: σ) (fun b => (i, .blk b e cs) :: F) := by
  intro a w hR K hK
  refine Op1.plain hg ?_
  obtain ⟨ti, hti, htd⟩ := tdOf_some ht
  have told := hT.told he
  obtain ⟨z, hz, hzr⟩ := told.run_zero
  obtain ⟨hp, hC⟩ := hC
  obtain ⟨g1, g2⟩ := parts_sound hR hm hp
  have hzl : z.cells.toList.length = n.size := by rw [hz, told.zsize]
  have hzs : z.cells.size = n.size := by rw [← Array.length_toList, hzl]
  have hpl : (parts.map fun (i, x) => (i, a.eval x)).toList = parts.toList.map fun p => (p.1, a.eval p.2) := by simp
  have tile : ∀ (zero : Array Value), (len * n.size = 0 ∨ zero = z.cells) → ((Array.range (len * n.size)).map fun j => zero[j % zero.size]!).toList = (List.range (len * n.size)).map fun j => n.zero.getD (j % n.size) undef := by
    intro zero h
    rcases h with h | h
    · simp [h]
    · subst h
      simp only [Array.toList_map, Array.toList_range]
      apply List.map_congr_left
      intro j hj
      have hpos : 0 < n.size := by
        rcases Nat.eq_zero_or_pos n.size with h | h
        · rw [h] at hj; simp at hj
        · exact h
      have hlt : j % n.size < n.zero.length := by rw [told.zsize]; exact Nat.mod_lt _ hpos
      rw [hzs, ← hz]
      have hlt' : j % n.size < z.cells.size := by rw [hzs]; exact Nat.mod_lt _ hpos
      rw [getElem!_pos z.cells _ hlt', List.getD_eq_getElem?_getD]
      simp [hlt']
  obtain ⟨zero, hzero, hzrun⟩ : ∃ zero : Array Value, (len * n.size = 0 ∨ zero = z.cells) ∧ ((if len * n.size = 0 then pure #[] else do pure (← zeroValue e).cells) : Sem (Array Value)).run P w = .ok zero w := by
    by_cases h0 : len * n.size = 0
    · exact ⟨#[], .inl h0, by simp [h0]⟩
    · exact ⟨z.cells, .inr rfl, by rw [if_neg h0]; simp [hzr]⟩
  obtain ⟨us', h2, h3, h4, h5⟩ := fill_sound (own := Own c.off F) (w := w) (us := (Array.range (len * n.size)).map fun j => zero[j % zero.size]!) hf hC g1 g2 (by rw [tile zero hzero]; simp)
    (fun u hu => by
      rw [tile zero hzero] at hu
      obtain ⟨j, hj, rfl⟩ := List.mem_map.1 hu
      have hpos : 0 < n.size := by
        rcases Nat.eq_zero_or_pos n.size with h | h
        · rw [h] at hj; simp at hj
        · exact h
      have hlt : j % n.size < n.zero.length := by rw [told.zsize]; exact Nat.mod_lt _ hpos
      rw [List.getD_eq_getElem?_getD, List.getElem?_eq_getElem hlt]
      exact told.zone _ (List.getElem_mem hlt))
    (fun j A u hA hu => by
      rw [tile zero hzero] at hu
      rw [List.getElem?_map] at hA hu
      cases hq : (List.range (len * n.size))[j]? with
      | none => simp [hq] at hA
      | some y => simp only [hq, Option.map_some, Option.some.injEq] at hA hu; subst hA; subst hu; exact .v _)
  have hlen : us'.toList.length = len * n.size := by
    rw [h3]
    have : ∀ {parts : List (Nat × AV)} {cs r : List AV} {C : Prop}, fillA (fun k => some (k * n.size, n.size)) parts cs = some (r, C) → C → r.length = cs.length := by
      intro parts
      induction parts with
      | nil => intro cs r C h _; cases h; rfl
      | cons q l ih =>
        intro cs r C h hC
        obtain ⟨k, A⟩ := q
        unfold fillA at h
        split at h
        case h_2 => cases h
        case h_1 o n' ds hp hd =>
          cases hp
          split at h
          case h_2 => cases h
          case h_1 r' C' hf' =>
            cases h
            obtain ⟨⟨q1, q2⟩, q3⟩ := hC
            rw [ih hf' q3, splice_length (by omega)]
    rw [this hf hC]; simp
  obtain ⟨k1, k2, k3, k4⟩ := new_blk hR i e (us := us') (cs := cs) h3 h4 fun j A u hA hu => h5 j A u hA hu
  have hgive : (execOp a.eval o).run P w = .ok (.value (.slice (some ⟨w.heap.size, 0, none⟩) len len)) (w.alloc (.cells us' e)) := by
    have hns : ¬ (len * n.size > 2 ^ 24) := by omega
    simp only [execOp, ho, Instr.buildSlice, Sem.run_bind, run_underlying ((hT.told hti).slice htd), Result.andThen_ok, told.size, if_neg hns]
    have hz2 := hzrun
    by_cases h0 : len * n.size = 0
    · rw [if_pos h0] at hz2 ⊢
      simp at hz2
      subst hz2
      simp [h0] at h2 ⊢
      simp [h2, newRow]
    · rw [if_neg h0] at hz2 ⊢
      simp [hzr] at hz2
      subst hz2
      rw [← hpl] at h2
      simp only [Sem.run_bind, hzr, Result.andThen_ok, Sem.run_pure]
      rw [h2]
      simp [newRow]
  simp only [Oper.wp]
  rw [hgive, Oper.upon_value, hd]
  exact hK _ _ _ (hR.step (of_blt hdN) k1 k2 k3 k4.ext (.v _)) k4 ⟨_, by rw [hd]⟩

theorem L.buildSliceB {t e : TypeId} {len : Nat} {parts : Array (Nat × Operand)} {n : TI} {d : Nat} {m : List (Nat × AV)} {p C : Prop} {cs : List AV} (i : Nat) (hT : TOk P T) (ho : o.op = .buildSlice t len parts) (hg : o.guard = none) (hd : o.dst = some d) (hdN : Nat.blt d c.N = true)
    (ht : tdOf T t = some (.slice e)) (he : T.lookup e = some n) (hsmall : len * n.size ≤ 16777216) (hsmall' : len ≤ 16777216) (hm : partsA σ parts.toList = some (m, p))
    (hf : fillA (fun k => some (k * n.size, n.size)) m ((List.range (len * n.size)).map fun j => .v (n.zero.getD (j % n.size) undef)) = some (cs, C)) (hC : p ∧ C)
    (next : ∀ b, L P ops c rest ((d, .v (.slice (some ⟨b, 0, none⟩) len len)) :: σ) ((i, .blk b e cs) :: F) Q) : L P ops c (o :: rest) σ F Q := L.of (O.buildSliceB i hT ho hg hd hdN ht he hsmall hsmall' hm hf hC) next

end

end Go.Proofs.YtlgdjmmjconbfaaDoor
