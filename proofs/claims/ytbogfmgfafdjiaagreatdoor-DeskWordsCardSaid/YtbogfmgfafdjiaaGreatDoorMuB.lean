/- Texts of this proof, laid together: SymDraw, SymMap, SymMore, SymTab, SymTac, SymCut, SymLen, SymReb, SymW, SymBlk, SymFrz, SymArr, SymSlc, SymExt, SymByt, SymMks, SymRow, SymRd, NumT, RgP, RgA, RgL. -/
import Derived.Test.YtbogfmgfafdjiaaGreatDoorMuA
import Derived.OrdersHeld
import Derived.Maps.Own
import Derived.Lib.SliceRun
import Derived.Test.YtbogfmgfafdjiaaGreatDoorProg
import Derived.KernelRfl
import Derived.Lib.AppendStr
import Derived.Laws.BytesString
import Derived.Laws.MakeOwn
import Derived.ChangeArms
import Derived.DataReads
import Derived.Lib.ItoaLen
/- Regions that draw their order, on abstract values. -/
namespace Go.Proofs.YtbogfmgfafdjiaaGreatDoor
set_option linter.unusedVariables false
set_option linter.unusedSimpArgs false
open Go.RowKit

/-- What stands as long as the region runs: what is not one's own, and some rows. -/
def St1 (c : Ctx) (F1 : Rows) (rd : List Nat) (w1 w : World) : Prop := w1.heap.size ≤ w.heap.size ∧ ∀ b, b < w1.heap.size → (¬ Own c.off F1 b ∨ ∃ s ∈ F1, s.1 ∈ rd ∧ s.2.block = some b) → w.heap[b]? = w1.heap[b]?

/-- The rows that an operation reads. -/
def rdOf (rdf : List (Nat × List Nat)) (i : Nat) : List Nat := (rdf.lookup i).getD []

/-- One operation waits for another. -/
def preds (ops : Array Oper) (j : Nat) : List Nat := match ops[j]? with
  | some o => (o.after.toList.filter (Region.binds .any)).map (·.on)
  | none => []
inductive Anc (ops : Array Oper) : Nat → Nat → Prop
  | one {j i : Nat} (h : i ∈ preds ops j) : Anc ops j i
  | more {j k i : Nat} (h : k ∈ preds ops j) (h' : Anc ops k i) : Anc ops j i

/-- For whom each one waits. -/
def closGo (ops : Array Oper) : Nat → List (List Nat) → List (List Nat)
  | 0, acc => acc
  | n + 1, acc => closGo ops n (acc ++ [((preds ops acc.length).flatMap fun k => k :: acc.getD k []).eraseDups])
def clos (ops : Array Oper) : List (List Nat) := closGo ops ops.size []

theorem closGo_ok (ops : Array Oper) : ∀ (n : Nat) (acc : List (List Nat)), (∀ j i, i ∈ acc.getD j [] → Anc ops j i) → ∀ j i, i ∈ (closGo ops n acc).getD j [] → Anc ops j i
  | 0, acc, h => h
  | n + 1, acc, h => by
    refine closGo_ok ops n _ fun j i hi => ?_
    rw [List.getD_eq_getElem?_getD, List.getElem?_append] at hi
    split at hi
    · exact h j i (by rw [List.getD_eq_getElem?_getD]; exact hi)
    · rename_i hlt
      rw [List.getElem?_singleton] at hi
      split at hi
      · rename_i h0
        have hj : j = acc.length := by omega
        simp only [Option.getD_some, List.mem_eraseDups, List.mem_flatMap, List.mem_cons] at hi
        obtain ⟨k, hk, hki⟩ := hi
        rw [← hj] at hk
        rcases hki with rfl | hki
        · exact .one hk
        · exact .more hk (h k i hki)
      · simp at hi
theorem clos_ok (ops : Array Oper) {j i : Nat} (h : ((clos ops).getD j []).contains i = true) : Anc ops j i := closGo_ok ops ops.size [] (by simp) j i (List.contains_iff_mem.1 h)

/-- Who has run, for whom that one waited has run. -/
def Closed (ops : Array Oper) (listed : Array Bool) : Prop := ∀ j, listed.getD j false = true → ∀ i ∈ preds ops j, listed.getD i false = true
theorem Closed.anc {ops : Array Oper} {listed : Array Bool} (hc : Closed ops listed) {j i : Nat} (h : Anc ops j i) (hp : ∀ k ∈ preds ops j, listed.getD k false = true) : listed.getD i false = true := by
  induction h with
  | one h => exact hp _ h
  | more h _ ih => exact ih fun k hk => hc _ (hp _ h) k hk
theorem ready_preds {ops : Array Oper} {listed : Array Bool} {j : Nat} (h : j ∈ Region.ready .any ops listed) : ∀ k ∈ preds ops j, listed.getD k false = true := by
  obtain ⟨-, o, ho, hall⟩ := mem_ready.1 h
  intro k hk
  unfold preds at hk
  rw [ho] at hk
  simp only [List.mem_map, List.mem_filter, Array.mem_toList_iff] at hk
  obtain ⟨e, ⟨he, hb⟩, rfl⟩ := hk
  exact hall e he hb
theorem Closed.add {ops : Array Oper} {listed : Array Bool} (hc : Closed ops listed) {j : Nat} (h : j ∈ Region.ready .any ops listed) : Closed ops (listed.setIfInBounds j true) := by
  intro k hk i hi
  by_cases e : k = j
  · subst e; exact getD_set_true (ready_preds h i hi)
  · rw [getD_set_ne false (Ne.symm e)] at hk
    exact getD_set_true (hc k hk i hi)
theorem not_both {listed : Array Bool} {i : Nat} (h : listed.getD i true = false) (h' : listed.getD i false = true) : False := by
  simp only [Array.getD_eq_getD_getElem?] at h h'
  cases hq : listed[i]? with
  | none => simp [hq] at h
  | some b => simp [hq] at h h'; rw [h] at h'; cases h'

/-- An operation that may turn memory. -/
def tch (ops : Array Oper) (j : Nat) : Bool := match ops[j]? with
  | some o => (match o.op with
    | .store _ _ _ | .mapUpdate _ _ _ _ | .mapEntry _ _ _ | .entryStore _ _ _ _ => true
    | .call cl => (match cl.callee with | .builtin .len | .builtin .cap | .builtin .min | .builtin .max => false | _ => true)
    | _ => false)
  | none => false
/-- Nobody who may turn memory, and waits for it, has run. -/
def Still (ops : Array Oper) (listed : Array Bool) (k : Nat) : Prop := ∀ j, listed.getD j false = true → tch ops j = true → ¬ Anc ops j k
theorem Closed.still {ops : Array Oper} {listed : Array Bool} (hc : Closed ops listed) {k : Nat} (h : listed.getD k true = false) : Still ops listed k := fun j hj _ ha => not_both h (hc.anc ha (hc j hj))
theorem getD_set_cases {listed : Array Bool} {i j : Nat} (h : (listed.setIfInBounds i true).getD j false = true) : j = i ∨ listed.getD j false = true := by
  by_cases e : j = i
  · exact .inl e
  · rw [getD_set_ne false (Ne.symm e)] at h; exact .inr h
theorem Still.less {ops : Array Oper} {listed : Array Bool} {i k : Nat} (h : Still ops (listed.setIfInBounds i true) k) : Still ops listed k := fun j hj ht => h j (getD_set_true hj) ht
theorem Still.more {ops : Array Oper} {listed : Array Bool} {i k : Nat} (h : Still ops listed k) (ht : tch ops i = false) : Still ops (listed.setIfInBounds i true) k := fun j hj ht' => by
  rcases getD_set_cases hj with rfl | hj
  · rw [ht] at ht'; cases ht'
  · exact h j hj ht'

/-- Whatever order is picked; each operation keeps what those need that it does not wait for. -/
def wpAnyG (P : Program) (ops : Array Oper) (Q : Exit → Act → World → Prop) (S : Nat → World → Prop) : Nat → Array Bool → Act → World → Prop
  | 0, listed, a, w => Region.ready .any ops listed = [] ∧ Q .normal a w
  | n + 1, listed, a, w => (Region.ready .any ops listed = [] → Q .normal a w) ∧
      ∀ j ∈ Region.ready .any ops listed, wpOp P ops Q j (fun a' w' => (∀ k, Still ops (listed.setIfInBounds j true) k → S k w → S k w') ∧ wpAnyG P ops Q S n (listed.setIfInBounds j true) a' w') a w

theorem wpAny_of_G {P : Program} {ops : Array Oper} {Q : Exit → Act → World → Prop} {S : Nat → World → Prop} : ∀ (n : Nat) (listed : Array Bool) (a : Act) (w : World), wpAnyG P ops Q S n listed a w → wpAny P .any ops Q n listed a w
  | 0, _, _, _, h => h
  | n + 1, _, _, _, h => ⟨h.1, fun i hi => wpOp_mono (fun a' w' h' => wpAny_of_G n _ a' w' h'.2) (h.2 i hi)⟩

theorem wpAnyG_first {P : Program} {ops : Array Oper} {Q : Exit → Act → World → Prop} {S : Nat → World → Prop} {i : Nat} {oi : Oper} {v : Value} (hi : ops[i]? = some oi) (hsel : ∀ (j : Nat) (o : Oper) cs b, ops[j]? = some o → o.op ≠ .select cs b)
    (hQ : ∀ c a w, Q (.panic c) (a.put oi.dst v) w → Q (.panic c) a w) (hti : tch ops i = false) : ∀ (n : Nat) (listed : Array Bool) (a : Act) (w : World), Closed ops listed →
      (∀ j oj, ops[j]? = some oj → j ≠ i → listed.getD j true = false → (∀ e ∈ oj.after, Region.binds .any e = true → e.on ≠ i) → oi.apart ops oj = true) →
      i ∈ Region.ready .any ops listed → YieldsIf P ops (S i) oi v a → S i w →
      wpAnyG P ops Q S n (listed.setIfInBounds i true) (a.put oi.dst v) w → wpAnyG P ops Q S (n + 1) listed a w := by
  intro n
  induction n with
  | zero =>
    intro listed a w _ _ hr hy hS G
    refine ⟨fun h => (by rw [h] at hr; cases hr), fun j hj => ?_⟩
    by_cases hji : j = i
    · subst hji; exact hy.wpOp hi hS ⟨fun _ _ h => h, G⟩
    · have := ready_mono hj hji
      rw [G.1] at this
      cases this
  | succ n ih =>
    intro listed a w hc hfree hr hy hS G
    refine ⟨fun h => (by rw [h] at hr; cases hr), fun j hj => ?_⟩
    by_cases hji : j = i
    · subst hji; exact hy.wpOp hi hS ⟨fun _ _ h => h, G⟩
    · have h1 := G.2 j (ready_mono hj hji)
      have hpend := (mem_ready.1 hr).1
      obtain ⟨hjun, oj, hoj, hall⟩ := mem_ready.1 hj
      have hnot : ∀ e ∈ oj.after, Region.binds .any e = true → e.on ≠ i := fun e he hb heq => not_both hpend (by rw [← heq]; exact hall e he hb)
      have h2 := wpOp_putIf hoj (hfree j oj hoj hji hjun hnot) (fun cs b => hsel i oi cs b hi) (fun cs b => hsel j oj cs b hoj) hQ hy h1
      have hpend' : (listed.setIfInBounds j true).getD i true = false := by rw [getD_set_ne true hji]; exact hpend
      have hcom : ∀ k, Still ops (listed.setIfInBounds j true) k → Still ops ((listed.setIfInBounds i true).setIfInBounds j true) k := fun k hk => by
        rw [Array.setIfInBounds_comm _ _ (Ne.symm hji)]; exact hk.more hti
      refine wpOp_mono (fun a' w' h3 => ⟨fun k hk => h3.2.1 k (hcom k hk), ih (listed.setIfInBounds j true) a' w' (hc.add hj) (fun k ok hko hki hun hno => ?_) (ready_mono hr (Ne.symm hji)) h3.1 (h3.2.1 i (hcom i ((hc.add hj).still hpend')) hS) ?_⟩) h2
      · refine hfree k ok hko hki ?_ hno
        by_cases hjk : j = k
        · subst hjk; exact hjun
        · rw [getD_set_ne true hjk] at hun; exact hun
      · rw [Array.setIfInBounds_comm _ _ hji]
        exact h3.2.2

/-- The rows that each operation reads, as to blocks. -/
def SS (c : Ctx) (F1 : Rows) (rdf : List (Nat × List Nat)) (w1 : World) (i : Nat) (w : World) : Prop := St1 c F1 (rdOf rdf i) w1 w

structure HI (ops : Array Oper) (c : Ctx) (σ1 : Slots) (F1 : Rows) (rdf : List (Nat × List Nat)) (listed : Array Bool) (σ : Slots) (F : Rows) (w1 : World) (a : Act) (w : World) : Prop where
  base : R c σ1 F1 a w1
  now : R c σ F a w
  ext : Ext (Own c.off F1) (Own c.off F) w1 w
  closed : Closed ops listed
  keep : ∀ i, Still ops listed i → ∀ s ∈ F1, s.1 ∈ rdOf rdf i → s ∈ F
  st : ∀ i, listed.getD i true = false → SS c F1 rdf w1 i w

/-- A region some of whose operations have run. -/
def H (P : Program) (ops : Array Oper) (c : Ctx) (σ1 : Slots) (F1 : Rows) (rdf : List (Nat × List Nat)) (fuel : Nat) (listed : Array Bool) (σ : Slots) (F : Rows) (Q : Exit → Act → World → Prop) : Prop :=
  ∀ w1 a w, HI ops c σ1 F1 rdf listed σ F w1 a w → wpAnyG P ops Q (SS c F1 rdf w1) fuel listed a w

/-- What is known holds in whatever world. -/
def wfree : Nat → AV → Bool
  | 0, _ => false
  | _ + 1, .v _ => true
  | _ + 1, .any => true
  | _ + 1, .ref _ _ => true
  | _ + 1, .ptr _ _ _ => true
  | _ + 1, .eptr _ _ _ _ _ => true
  | n + 1, .agg cs => cs.all (wfree n)
  | n + 1, .tup cs => cs.all (wfree n)
  | n + 1, .fn _ cs => cs.all (wfree n)
  | n + 1, .when _ _ A => wfree n A
  | _ + 1, _ => false
theorem wfree_rep : ∀ {n : Nat} {A : AV}, wfree n A = true → ∀ {own own' : Nat → Prop} {w w' : World} {x : Value}, Rep own w A x → Rep own' w' A x
  | 0, A, h, _, _, _, _, _, _ => by cases h
  | n + 1, A, h, own, own', w, w', x, hr => by
    have all : ∀ {cs : List AV}, cs.all (wfree n) = true → ∀ {j : Nat} {B : AV}, cs[j]? = some B → wfree n B = true := fun hc j B hB => List.all_eq_true.1 hc _ (List.mem_of_getElem? hB)
    cases hr with
    | v x => exact .v x
    | any x => exact .any x
    | agg hl h1 hh => exact .agg hl h1 fun j B u hB hu => wfree_rep (all h hB) (hh j B u hB hu)
    | tup hl hh => exact .tup hl fun j B u hB hu => wfree_rep (all h hB) (hh j B u hB hu)
    | lst => cases h
    | pel => cases h
    | when h1 h2 => exact .when (fun e => wfree_rep (n := n) (by simpa only [wfree] using h) (h1 e)) h2
    | fn hl hh => exact .fn hl fun j B u hB hu => wfree_rep (all h hB) (hh j B u hB hu)
    | ref id x h1 => exact .ref id x h1
    | ptr id b off => exact .ptr id b off
    | eptr id x sz k off => exact .eptr id x sz k off
/-- What a step yields, where it holds in whatever world. -/
def headW (dst : Option Nat) (σ' σ1 : Slots) : Slots := match σ' with
  | (d, A) :: _ => if (dst == some d) && wfree 6 A then (d, A) :: σ1 else σ1
  | [] => σ1

/-- An operation reads of such rows alone. -/
def readOk (rd : List Nat) (σ1 : Slots) (o : Oper) : Bool :=
  match o.op with
  | .load _ x => match evalS σ1 x with
    | some (.ptr id _ _, _) => rd.contains id
    | some (.eptr id _ _ _ _, _) => rd.contains id
    | some (.pel _ _, _) => true
    | _ => false
  | _ => true

section
variable {P : Program} {T : Types} {c : Ctx} {σ σ1 : Slots} {F F1 : Rows} {rd : List Nat} {rdf : List (Nat × List Nat)} {Q : Exit → Act → World → Prop} {ops : Array Oper} {o : Oper} {fuel : Nat} {listed : Array Bool}

theorem load_block (hT : TOk P T) {a : Act} {w : World} (hR : R c σ1 F1 a w) (hro : readOk rd σ1 o = true) {A : AV} {C : Prop} (h : pureB T σ1 F1 o.op = some (A, C)) (hC : C) {b : Nat} (hb : loadsAt a o = some b) :
    b < w.heap.size ∧ (¬ Own c.off F1 b ∨ ∃ s ∈ F1, s.1 ∈ rd ∧ s.2.block = some b) := by
  unfold loadsAt at hb
  split at hb
  case h_2 => cases hb
  case h_1 t x ho =>
    unfold readOk at hro
    rw [ho] at h hro
    simp only at hro
    simp only [pureB, pureA] at h
    split at h
    case h_2 => cases h
    case h_1 B p hB =>
      rw [hB] at hro
      simp only [Option.map_eq_some_iff] at h
      obtain ⟨⟨D, E⟩, hD, he⟩ := h
      cases he
      have hX := hR.evals hB hC.1
      unfold loadA at hD
      split at hD
      case h_2 => cases hD
      case h_1 i cs C' hi hcs =>
        have hC' : C' := by
          split at hD
          · split at hD
            · cases hD; exact hC.2.1
            · cases hD; exact hC.2.1
          · split at hD
            · cases hD; exact hC.2
            · cases hD
        unfold cellsA at hcs
        split at hcs
        · rename_i id b' off
          simp only at hro
          split at hcs
          case h_2 => cases hcs
          case h_1 b'' T' cs' hrow =>
            cases hcs
            subst hC'
            generalize a.eval x = v at hX hb
            cases hX
            cases hb
            have hm := lookup_mem hrow
            exact ⟨hR.sat.lt hm rfl, .inr ⟨_, hm, by simpa using hro, rfl⟩⟩
        · rename_i id x' sz k off
          simp only at hro
          split at hcs
          case h_2 => cases hcs
          case h_1 x0 E' sz' n g hrow =>
            cases hcs
            obtain ⟨rfl, rfl, hk⟩ := hC'
            generalize a.eval x = v at hX hb
            cases hX
            cases hb
            have hm := lookup_mem hrow
            obtain ⟨us, ho', -⟩ := hR.sat.at hrow
            obtain ⟨g', cap, rfl, -⟩ := own_form ho' (by omega)
            rw [add_block]
            exact ⟨hR.sat.lt hm rfl, .inr ⟨_, hm, by simpa using hro, rfl⟩⟩
        · rename_i n' cs'
          cases hcs
          generalize a.eval x = v at hX hb
          cases hX with
          | pel u hl h1 hc hbk hr =>
            cases hb
            have hpos : 0 < cs.length := by
              have hp := (hT.told hi).pos
              split at hD
              · split at hD
                · cases hD; have := hC.2.2; omega
                · cases hD; have := hC.2.2; omega
              · split at hD
                · simp
                · cases hD
            have := World.block_lt_of_cell? w _ (hc 0 hpos)
            rw [add_block] at this
            exact ⟨this, .inl (hbk hpos)⟩
        · cases hcs

theorem pend_less {listed : Array Bool} {i k : Nat} (hk : (listed.setIfInBounds i true).getD k true = false) : listed.getD k true = false := by
  by_cases e : i = k
  · subst e
    simp only [Array.getD_eq_getD_getElem?, Array.getElem?_setIfInBounds] at hk
    split at hk
    · split at hk <;> simp_all
    · simp_all
  · rwa [getD_set_ne true e] at hk

/-- What is taken first leaves the rest as it is. -/
theorem HI.take {w1 w : World} {a : Act} (hI : HI ops c σ1 F1 rdf listed σ F w1 a w) {i : Nat} (hr : i ∈ Region.ready .any ops listed) {d : Nat} {A : AV} {u : Value} (hd : d < c.N) (h : Rep (Own c.off F1) w1 A u) : HI ops c ((d, A) :: σ1) F1 rdf (listed.setIfInBounds i true) ((d, A) :: σ) F w1 (a.put (some d) u) w :=
  ⟨hI.base.pure hd h, hI.now.pure hd (h.ext hI.ext), hI.ext, hI.closed.add hr, fun k hk => hI.keep k hk.less, fun k hk => hI.st k (pend_less hk)⟩

theorem pend_of_ready {i : Nat} (h : i ∈ Region.ready .any ops listed) : listed.getD i true = false := (mem_ready.1 h).1

/-- What yields in all worlds that may come is taken first. -/
theorem H.first {d : Nat} {A : AV} (i : Nat) (hi : ops[i]? = some o) (hsel : Region.noSelect ops = true) (hfr : Region.free .any ops listed i = true) (hrd : (Region.ready .any ops listed).contains i = true) (hti : tch ops i = false) (hd : o.dst = some d) (hdN : d < c.N)
    (hQ : ∀ ch a a' w, Q (.panic ch) a' w → Q (.panic ch) a w) (h : ∀ a w1, R c σ1 F1 a w1 → ∃ u, Rep (Own c.off F1) w1 A u ∧ YieldsIf P ops (SS c F1 rdf w1 i) o u a)
    (next : H P ops c ((d, A) :: σ1) F1 rdf fuel (listed.setIfInBounds i true) ((d, A) :: σ) F Q) : H P ops c σ1 F1 rdf (fuel + 1) listed σ F Q := by
  intro w1 a w hI
  have hr : i ∈ Region.ready .any ops listed := by simpa using hrd
  obtain ⟨u, h1, h2⟩ := h a w1 hI.base
  refine wpAnyG_first hi (Region.noSelect_spec hsel) (fun ch a w h => hQ ch _ _ w h) hti fuel listed a w hI.closed (Region.free_spec hi hfr) hr h2 (hI.st i (pend_of_ready hr)) ?_
  rw [hd]
  exact next w1 _ w (hI.take hr hdN h1)

/-- An operation that only computes or reads is taken first. -/
theorem H.take {d : Nat} {A : AV} {C : Prop} (i : Nat) (hT : TOk P T) (hi : ops[i]? = some o) (hcv : convOk P o = true) (hsel : Region.noSelect ops = true) (hfr : Region.free .any ops listed i = true) (hrd : (Region.ready .any ops listed).contains i = true) (hti : tch ops i = false) (hro : readOk (rdOf rdf i) σ1 o = true)
    (hQ : ∀ ch a a' w, Q (.panic ch) a' w → Q (.panic ch) a w) (h : stepA T c.N ops σ1 F1 o = some ((d, A) :: σ1, C)) (hC : C) (next : H P ops c ((d, A) :: σ1) F1 rdf fuel (listed.setIfInBounds i true) ((d, A) :: σ) F Q) :
    H P ops c σ1 F1 rdf (fuel + 1) listed σ F Q := by
  have hdd : o.dst = some d ∧ d < c.N := by
    unfold stepA at h
    split at h
    case h_2 => cases h
    case h_1 d' hd' =>
      split at h
      case isFalse => cases h
      case isTrue hdN =>
        have : d' = d := by
          split at h
          · simp only [Option.map_eq_some_iff] at h
            obtain ⟨⟨D, E⟩, -, he⟩ := h
            cases he; rfl
          · simp only [Option.map_eq_some_iff] at h
            obtain ⟨⟨D, E⟩, -, he⟩ := h
            cases he; rfl
          · cases h
        subst this
        exact ⟨hd', hdN⟩
  refine H.first i hi hsel hfr hrd hti hdd.1 hdd.2 hQ (fun a w1 hR => ?_) next
  obtain ⟨d', A', u, hd, hdN, he, hrep, hy⟩ := step_sound hT hcv hR h hC
  simp only [List.cons.injEq, Prod.mk.injEq, and_true] at he
  obtain ⟨rfl, rfl⟩ := he
  refine ⟨u, hrep, ?_⟩
  rcases hy with ⟨hw, hg⟩ | ⟨hw, rfl⟩
  · refine .inl ⟨hw, fun w'' hS => hg w'' fun b hb => ?_⟩
    have hlb : b < w1.heap.size ∧ (¬ Own c.off F1 b ∨ ∃ s ∈ F1, s.1 ∈ rdOf rdf i ∧ s.2.block = some b) := by
      unfold stepA at h
      rw [hd] at h
      simp only [if_pos hdN] at h
      split at h
      · simp only [Option.map_eq_some_iff] at h
        obtain ⟨⟨D, E⟩, hD, he⟩ := h
        cases he
        exact load_block hT hR hro hD hC hb
      · rename_i b' t hg'
        simp only [Option.map_eq_some_iff] at h
        obtain ⟨⟨D, E⟩, hD, he⟩ := h
        cases he
        exact load_block hT hR hro hD (hC ((guard_iff hR hg').1 hw)) hb
      · cases h
    exact hS.2 b hlb.1 hlb.2
  · exact .inr ⟨hw, rfl⟩

/-- Some operations may be taken first, one behind the other. -/
def takesOk (P : Program) (ops : Array Oper) : List Nat → Array Bool → Bool
  | [], _ => true
  | i :: l, listed => (match ops[i]? with | some o => convOk P o | none => false) && Region.free .any ops listed i && (Region.ready .any ops listed).contains i && !tch ops i && takesOk P ops l (listed.setIfInBounds i true)

def setAll : List Nat → Array Bool → Array Bool
  | [], a => a
  | i :: l, a => setAll l (a.setIfInBounds i true)

def takesA (T : Types) (N : Nat) (ops : Array Oper) (F1 : Rows) (rdf : List (Nat × List Nat)) : List Nat → Slots → Slots → Option (Slots × Slots × Prop)
  | [], σ1, σ => some (σ1, σ, True)
  | i :: l, σ1, σ =>
    match ops[i]? with
    | some o =>
      match readOk (rdOf rdf i) σ1 o, stepA T N ops σ1 F1 o with
      | true, some ((d, A) :: _, C) => match takesA T N ops F1 rdf l ((d, A) :: σ1) ((d, A) :: σ) with
        | some (r, q, C') => some (r, q, C ∧ C')
        | none => none
      | _, _ => none
    | none => none

theorem stepA_tail {T : Types} {N : Nat} {d : Nat} {A : AV} {l : Slots} {C : Prop} (h : stepA T N ops σ F o = some ((d, A) :: l, C)) : l = σ := by
  unfold stepA at h
  split at h
  case h_2 => cases h
  case h_1 =>
    split at h
    case isFalse => cases h
    case isTrue =>
      split at h
      · simp only [Option.map_eq_some_iff] at h
        obtain ⟨⟨D, E⟩, -, he⟩ := h
        cases he; rfl
      · simp only [Option.map_eq_some_iff] at h
        obtain ⟨⟨D, E⟩, -, he⟩ := h
        cases he; rfl
      · cases h

theorem H.takes : ∀ (is : List Nat) {fuel : Nat} {listed : Array Bool} {σ1 σ σ1' σ' : Slots} {C : Prop}, TOk P T → Region.noSelect ops = true → takesOk P ops is listed = true → (∀ ch a a' w, Q (.panic ch) a' w → Q (.panic ch) a w) →
    takesA T c.N ops F1 rdf is σ1 σ = some (σ1', σ', C) → C → H P ops c σ1' F1 rdf fuel (setAll is listed) σ' F Q → H P ops c σ1 F1 rdf (fuel + is.length) listed σ F Q
  | [], fuel, listed, σ1, σ, σ1', σ', C, hT, hsel, hok, hQ, h, hC, next => by cases h; exact next
  | i :: l, fuel, listed, σ1, σ, σ1', σ', C, hT, hsel, hok, hQ, h, hC, next => by
    unfold takesA at h
    split at h
    case h_2 => cases h
    case h_1 o ho =>
      split at h
      case h_2 => cases h
      case h_1 d A tl C1 hro hst =>
        split at h
        case h_2 => cases h
        case h_1 r q C2 hr =>
          cases h
          have htl := stepA_tail hst
          subst htl
          unfold takesOk at hok
          simp only [ho, Bool.and_eq_true] at hok
          obtain ⟨⟨⟨⟨h1, h2⟩, h3⟩, h5⟩, h4⟩ := hok
          exact H.take i hT ho h1 hsel h2 h3 (by simpa using h5) hro hQ hst hC.1 (H.takes l hT hsel h4 hQ hr hC.2 next)

/-- It touches no row that somebody needs for whom it does not wait. -/
def apartOk (ops : Array Oper) (rdf : List (Nat × List Nat)) (j : Nat) (ids : List Nat) : Bool := ids.isEmpty || rdf.all fun p => ((clos ops).getD j []).contains p.1 || ids.all fun x => !p.2.contains x

theorem apartOk.not {rdf : List (Nat × List Nat)} {j : Nat} {ids : List Nat} (h : apartOk ops rdf j ids = true) {i : Nat} (hn : ¬ Anc ops j i) : ∀ x ∈ rdOf rdf i, x ∉ ids := by
  intro x hx hxi
  unfold apartOk at h
  simp only [Bool.or_eq_true] at h
  rcases h with h | h
  · cases ids with
    | nil => cases hxi
    | cons a t => simp at h
  · unfold rdOf at hx
    cases hl : rdf.lookup i with
    | none => simp [hl] at hx
    | some l =>
      simp only [hl, Option.getD_some] at hx
      have h1 := List.all_eq_true.1 h _ (lookup_mem hl)
      simp only [Bool.or_eq_true] at h1
      rcases h1 with h1 | h1
      · exact hn (clos_ok ops h1)
      · have h2 := List.all_eq_true.1 h1 x hxi
        simp at h2
        exact h2 hx

theorem HI.step {a : Act} {w : World} {w1 : World} {j : Nat} (hI : HI ops c σ1 F1 rdf listed σ F w1 a w) (hr : j ∈ Region.ready .any ops listed) {ids : List Nat} {σ' : Slots} {F' : Rows} {a' : Act} {w' : World} (hR : R c σ' F' a' w') (hS : Stp c F F' w w' ids) (hv : ∃ v, a' = a.put o.dst v) (ht : tch ops j = true ∨ ids = []) (hdis : apartOk ops rdf j ids = true) :
    HI ops c (headW o.dst σ' (σ1.filter fun p => !(o.dst == some p.1))) F1 rdf (listed.setIfInBounds j true) σ' F' w1 a' w' ∧ ∀ k, Still ops (listed.setIfInBounds j true) k → SS c F1 rdf w1 k w → SS c F1 rdf w1 k w' := by
  have hpj : j < listed.size := by
    have := pend_of_ready hr
    rcases Nat.lt_or_ge j listed.size with h | h
    · exact h
    · simp [Array.getD_eq_getD_getElem?, Array.getElem?_eq_none h] at this
  have hnot : ∀ k, Still ops (listed.setIfInBounds j true) k → ∀ x ∈ rdOf rdf k, x ∉ ids := fun k hk x hx hxi => by
    rcases ht with ht | ht
    · exact apartOk.not hdis (hk j (by simp [Array.getD_eq_getD_getElem?, Array.getElem?_setIfInBounds, hpj]) ht) x hx hxi
    · subst ht; cases hxi
  have hss : ∀ k, Still ops (listed.setIfInBounds j true) k → SS c F1 rdf w1 k w → SS c F1 rdf w1 k w' := fun k hk hst => by
    refine ⟨Nat.le_trans hst.1 hS.ext.size, fun b hlt hb => ?_⟩
    rw [← hst.2 b hlt hb]
    have hlt' : b < w.heap.size := Nat.lt_of_lt_of_le hlt hst.1
    rcases hb with hn | ⟨s, hs, hr, hbk⟩
    · exact hS.ext.blk b hlt' (hI.ext.own b hlt hn)
    · exact hS.same s (hI.keep k hk.less s hs hr) (hnot k hk _ hr) b hbk
  obtain ⟨v, rfl⟩ := hv
  refine ⟨⟨?_, hR, hI.ext.trans hS.ext, hI.closed.add hr, fun k hk s hs hr => hS.keep s (hI.keep k hk.less s hs hr) (hnot k hk _ hr), fun k hk => hss k ((hI.closed.add hr).still hk) (hI.st k (pend_less hk))⟩, hss⟩
  have hb := hI.base
  have hbase : R c (σ1.filter fun p => !(o.dst == some p.1)) F1 (a.put o.dst v) w1 := by
   refine ⟨?_, ?_, hb.hoff, hb.kept, hb.fresh, hb.sat, fun k A hA => ?_⟩
   · cases o.dst <;> simp [Act.put, hb.len]
   · cases o.dst <;> exact hb.defers
   · have key : ∀ (l : Slots), (l.filter fun p => !(o.dst == some p.1)).lookup k = some A → l.lookup k = some A ∧ o.dst ≠ some k := by
       intro l
       induction l with
       | nil => intro h; cases h
       | cons p t ih =>
         obtain ⟨j, B⟩ := p
         intro h
         rw [List.filter_cons] at h
         split at h
         · rename_i hne
           rw [lookup_cons] at h ⊢
           split at h
           · rename_i e
             subst e
             cases h
             exact ⟨by simp, by simpa using hne⟩
           · rename_i e
             rw [if_neg e]
             exact ih h
         · rename_i heq
           have hkj : k ≠ j := by
             rintro rfl
             exact (ih h).2 (by simpa using heq)
           rw [lookup_cons, if_neg hkj]
           exact ih h
     obtain ⟨h1, h2⟩ := key σ1 hA
     have := hb.slots k A h1
     have hsame : (a.put o.dst v).tmps.getD k undef = a.tmps.getD k undef := by
       cases ho : o.dst with
       | none => rfl
       | some d =>
         have hne : d ≠ k := fun e => h2 (by rw [ho, e])
         simp [Act.put, Array.getD_eq_getD_getElem?, Array.getElem?_setIfInBounds_ne hne]
     rw [hsame]
     exact this
  unfold headW
  split
  case h_2 => exact hbase
  case h_1 d A t =>
    split
    case isFalse => exact hbase
    case isTrue hc =>
      simp only [Bool.and_eq_true, beq_iff_eq] at hc
      refine ⟨hbase.len, hbase.defers, hbase.hoff, hbase.kept, hbase.fresh, hbase.sat, fun k B hB => ?_⟩
      rw [lookup_cons] at hB
      split at hB
      · rename_i e
        subst e
        cases hB
        exact wfree_rep hc.2 (hR.slots k A (by rw [lookup_cons, if_pos rfl]))
      · exact hbase.slots k B hB

/-- One operation of those that may come up. -/
theorem H.run {ids : List Nat} {ι : Type} {sl : ι → Slots} {ro : ι → Rows} {j : Nat} (hj : ops[j]? = some o) (h : O P ops c o σ F Q ids ι sl ro) (ht : tch ops j = true ∨ ids = []) (hdis : apartOk ops rdf j ids = true)
    (next : ∀ k, H P ops c (headW o.dst (sl k) (σ1.filter fun p => !(o.dst == some p.1))) F1 rdf fuel (listed.setIfInBounds j true) (sl k) (ro k) Q) {w1 : World} {a : Act} {w : World} (hI : HI ops c σ1 F1 rdf listed σ F w1 a w) (hr : j ∈ Region.ready .any ops listed) :
    wpOp P ops Q j (fun a' w' => (∀ k, Still ops (listed.setIfInBounds j true) k → SS c F1 rdf w1 k w → SS c F1 rdf w1 k w') ∧ wpAnyG P ops Q (SS c F1 rdf w1) fuel (listed.setIfInBounds j true) a' w') a w := by
  have := h a w hI.now (fun a' w' => (∀ k, Still ops (listed.setIfInBounds j true) k → SS c F1 rdf w1 k w → SS c F1 rdf w1 k w') ∧ wpAnyG P ops Q (SS c F1 rdf w1) fuel (listed.setIfInBounds j true) a' w') fun k a' w' hR hS hv => by
    obtain ⟨hI', hst⟩ := hI.step hr hR hS hv ht hdis
    exact ⟨hst, next k w1 a' w' hI'⟩
  unfold wpOp
  unfold Op1 at this
  simp only [hj]
  split
  · rename_i hw; rw [if_pos hw] at this; exact .inl this
  · rename_i hw; rw [if_neg hw] at this; exact this

/-- Only one operation may come up. -/
theorem H.one {ids : List Nat} {ι : Type} {sl : ι → Slots} {ro : ι → Rows} (i : Nat) (hi : ops[i]? = some o) (hrd : Region.ready .any ops listed = [i]) (h : O P ops c o σ F Q ids ι sl ro) (ht : tch ops i = true ∨ ids = []) (hdis : apartOk ops rdf i ids = true)
    (next : ∀ k, H P ops c (headW o.dst (sl k) (σ1.filter fun p => !(o.dst == some p.1))) F1 rdf fuel (listed.setIfInBounds i true) (sl k) (ro k) Q) : H P ops c σ1 F1 rdf (fuel + 1) listed σ F Q := by
  intro w1 a w hI
  refine ⟨fun h0 => (by rw [hrd] at h0; cases h0), fun j hj => ?_⟩
  obtain rfl : j = i := by rw [hrd] at hj; simpa using hj
  exact H.run hi h ht hdis next hI hj

/-- Two operations may come up. -/
theorem H.two {o' : Oper} {ids ids' : List Nat} {ι ι' : Type} {sl : ι → Slots} {ro : ι → Rows} {sl' : ι' → Slots} {ro' : ι' → Rows} (i i' : Nat) (hi : ops[i]? = some o) (hi' : ops[i']? = some o') (hrd : Region.ready .any ops listed = [i, i']) (h : O P ops c o σ F Q ids ι sl ro) (h' : O P ops c o' σ F Q ids' ι' sl' ro')
    (ht : tch ops i = true ∨ ids = []) (ht' : tch ops i' = true ∨ ids' = []) (hdis : apartOk ops rdf i ids = true) (hdis' : apartOk ops rdf i' ids' = true)
    (next : ∀ k, H P ops c (headW o.dst (sl k) (σ1.filter fun p => !(o.dst == some p.1))) F1 rdf fuel (listed.setIfInBounds i true) (sl k) (ro k) Q) (next' : ∀ k, H P ops c (headW o'.dst (sl' k) (σ1.filter fun p => !(o'.dst == some p.1))) F1 rdf fuel (listed.setIfInBounds i' true) (sl' k) (ro' k) Q) :
    H P ops c σ1 F1 rdf (fuel + 1) listed σ F Q := by
  intro w1 a w hI
  refine ⟨fun h0 => (by rw [hrd] at h0; cases h0), fun j hj => ?_⟩
  have hj' := hj
  rw [hrd] at hj'
  rcases (by simpa using hj' : j = i ∨ j = i') with rfl | rfl
  · exact H.run hi h ht hdis next hI hj
  · exact H.run hi' h' ht' hdis' next' hI hj

theorem H.done (hrd : Region.ready .any ops listed = []) (h : E c .normal σ F Q) : H P ops c σ1 F1 rdf fuel listed σ F Q := fun w1 a w hI => by
  cases fuel with
  | zero => exact ⟨hrd, h a w hI.now⟩
  | succ n => exact ⟨fun _ => h a w hI.now, by rw [hrd]; simp⟩

/-- A region that draws its order. -/
theorem S.draw {id : Nat} (rdf : List (Nat × List Nat)) (hm : P.follows .mixedOrders = true) (h : H P ops c σ F rdf ops.size (Array.replicate ops.size false) σ F Q) : S P c (.region id ops true) σ F Q := by
  intro a w hR
  have hR1 := hR.drew 1
  refine wp_region_any hm (wpAny_of_G _ _ _ _ (h (w.drewN 1) a (w.drewN 1) ⟨hR1, hR1, Ext.refl _ _, fun j hj => ?_, fun i _ s hs _ => hs, fun i _ => ⟨Nat.le_refl _, fun _ _ _ => rfl⟩⟩))
  simp only [Array.getD_eq_getD_getElem?, Array.getElem?_replicate] at hj
  split at hj <;> simp at hj

theorem panic_no {fn : Func} {off : Nat → Prop} {F0 : Rows} {w0 : World} {Post : AV → Rows → Prop} (ch : List PanicEntry) (a a' : Act) (w : World) (h : bodyPost P fn (Ret off F0 w0 Post) (.panic ch) a' w) : bodyPost P fn (Ret off F0 w0 Post) (.panic ch) a w := by
  obtain ⟨_, _, _, _, _, h, _⟩ := h
  cases h

end

end Go.Proofs.YtbogfmgfafdjiaaGreatDoor

/- Maps, on abstract values. -/
namespace Go.Proofs.YtbogfmgfafdjiaaGreatDoor
set_option linter.unusedVariables false
set_option linter.unusedSimpArgs false
open Go.RowKit
open Go.Maps (Keyed)

theorem mget_cons_same (m : List (Value × AV)) (k : Value) (A : AV) : mget ((k, A) :: m) k = some A := by simp [mget]
theorem mget_cons_other (m : List (Value × AV)) {k k' : Value} (A : AV) (h : k ≠ k') : mget ((k, A) :: m) k' = mget m k' := by simp [mget, h]
theorem mget_cons (m : List (Value × AV)) (k k' : Value) (A : AV) [Decidable (k = k')] : mget ((k, A) :: m) k' = if k = k' then some A else mget m k' := by
  by_cases h : k = k'
  · subst h; rw [mget_cons_same, if_pos rfl]
  · rw [mget_cons_other m A h, if_neg h]

noncomputable def mdel (m : List (Value × AV)) (k : Value) : List (Value × AV) := open Classical in m.filter fun p => decide (p.1 ≠ k)
theorem mget_del_same (k : Value) : ∀ m : List (Value × AV), mget (mdel m k) k = none
  | [] => rfl
  | (x, A) :: t => by
    unfold mdel
    rw [List.filter_cons]
    split
    · rename_i h
      rw [mget_cons_other _ _ (by simpa using h)]
      exact mget_del_same k t
    · exact mget_del_same k t
theorem mget_del_other {k k' : Value} (h : k ≠ k') : ∀ m : List (Value × AV), mget (mdel m k) k' = mget m k'
  | [] => rfl
  | (x, A) :: t => by
    unfold mdel
    rw [List.filter_cons]
    split
    · by_cases hx : x = k'
      · subst hx; rw [mget_cons_same, mget_cons_same]
      · rw [mget_cons_other _ _ hx, mget_cons_other _ _ hx]; exact mget_del_other h t
    · rename_i hx
      have hx' : x = k := by simpa using hx
      rw [mget_cons_other _ _ (by rw [hx']; exact h)]
      exact mget_del_other h t

/-- The keys that may be. -/
def kOf (P : Program) (k : TypeId) (v : Value) : Bool := (keyOf P k v).isSome

/-- A value out of exact parts. -/
def flatV : List AV → Option (List Value)
  | [] => some []
  | .v x :: t => (flatV t).map (x :: ·)
  | _ :: _ => none
def keyV : AV → Option Value
  | .v x => some x
  | .agg cs => (flatV cs).map fun l => .agg l.toArray
  | _ => none
theorem flatV_rep {own : Nat → Prop} {w : World} : ∀ {cs : List AV} {l us : List Value}, flatV cs = some l → us.length = cs.length → (∀ (j : Nat) A u, cs[j]? = some A → us[j]? = some u → Rep own w A u) → us = l
  | [], l, us, h, hl, _ => by cases h; simpa using hl
  | A :: t, l, [], h, hl, _ => by simp at hl
  | A :: t, l, u :: us, h, hl, hr => by
    cases A <;> simp [flatV] at h
    obtain ⟨l', h1, rfl⟩ := h
    have h0 := hr 0 _ u rfl rfl
    cases h0
    exact congrArg (List.cons _) (flatV_rep h1 (by simpa using hl) fun j A u hA hu => hr (j + 1) A u (by simpa using hA) (by simpa using hu))
theorem keyV_rep {own : Nat → Prop} {w : World} {A : AV} {x u : Value} (h : keyV A = some x) (hr : Rep own w A u) : u = x := by
  cases A <;> simp [keyV] at h
  · subst h; cases hr; rfl
  · obtain ⟨l, h1, rfl⟩ := h
    cases hr with
    | agg hl _ h => rw [flatV_rep h1 hl h]

theorem same_entry : ∀ (l : List MapEntry), l.Pairwise (fun x y => x.key ≠ y.key) → ∀ x ∈ l, ∀ y ∈ l, x.key = y.key → x = y
  | [], _, x, hx, _, _, _ => by cases hx
  | a :: t, hp, x, hx, y, hy, hxy => by
    rw [List.pairwise_cons] at hp
    rcases List.mem_cons.1 hx with h | h
    · rcases List.mem_cons.1 hy with h' | h'
      · rw [h, h']
      · subst h; exact absurd hxy (hp.1 y h')
    · rcases List.mem_cons.1 hy with h' | h'
      · subst h'; exact absurd hxy.symm (hp.1 x h)
      · exact same_entry t hp.2 x h y h' hxy

theorem Stmp.push {es : Array MapEntry} {clock : Nat} (h : Stmp es clock) (k v : Value) : Stmp (es.push ⟨k, v, clock⟩) (clock + 1) := by
  refine ⟨fun e he => ?_, ?_⟩
  · simp only [Array.toList_push, List.mem_append, List.mem_singleton] at he
    rcases he with he | rfl
    · have := h.1 e he; omega
    · exact Nat.lt_succ_self _
  · simp only [Array.toList_push]
    refine List.pairwise_append.2 ⟨h.2, by simp, fun x hx y hy => ?_⟩
    rw [List.mem_singleton] at hy
    subst hy
    exact Nat.ne_of_lt (h.1 x hx)
theorem Stmp.mods {es es' : Array MapEntry} {clock j : Nat} {e2 e3 : MapEntry} (h : Stmp es clock) (f2 : es.toList[j]? = some e2) (hl : es'.toList = es.toList.set j { e3 with born := e2.born }) : Stmp es' clock := by
  have hb : es'.toList.map (·.born) = es.toList.map (·.born) := by
    rw [hl]
    apply List.ext_getElem?
    intro i
    simp only [List.getElem?_map, List.getElem?_set]
    by_cases hi : j = i
    · subst hi
      rw [if_pos rfl, f2]
      have := (List.getElem?_eq_some_iff.1 f2).1
      rw [if_pos this]
      rfl
    · rw [if_neg hi]
  refine ⟨fun e he => ?_, ?_⟩
  · have h1 : e.born ∈ es'.toList.map (·.born) := List.mem_map.2 ⟨e, he, rfl⟩
    rw [hb] at h1
    obtain ⟨x, hx, hxe⟩ := List.mem_map.1 h1
    have := h.1 x hx
    omega
  · have h1 : (es.toList.map (·.born)).Pairwise (· ≠ ·) := List.pairwise_map.2 h.2
    rw [← hb] at h1
    exact List.pairwise_map.1 h1

section
variable {P : Program} {T : Types} {c : Ctx} {σ σ1 : Slots} {F F1 : Rows} {rd : List Nat} {rdf : List (Nat × List Nat)} {Q : Exit → Act → World → Prop} {ops : Array Oper} {rest : List Oper} {o : Oper} {fuel : Nat} {listed : Array Bool}

/-- An operation gives one value, however the world goes on. -/
def Sure (P : Program) (c : Ctx) (σ : Slots) (F : Rows) (rd : List Nat) (o : Oper) (A : AV) : Prop :=
  ∀ a w1, R c σ F a w1 → ∃ u, Rep (Own c.off F) w1 A u ∧ ∀ w, St1 c F rd w1 w → (execOp a.eval o).run P w = .ok (.value u) w

theorem St1.refl (w : World) : St1 c F rd w w := ⟨Nat.le_refl _, fun _ _ _ => rfl⟩

theorem O.sure {A : AV} {d : Nat} (h : Sure P c σ F rd o A) (hg : o.guard = none) (hd : o.dst = some d) (hdN : Nat.blt d c.N = true) : O P ops c o σ F Q [] Unit (fun _ => (d, A) :: σ) (fun _ => F) := by
  intro a w hR K hK
  refine Op1.plain hg ?_
  obtain ⟨u, h1, h2⟩ := h a w hR
  simp only [Oper.wp]
  rw [h2 w (St1.refl w), Oper.upon_value, hd]
  exact hK () _ _ (hR.pure (of_blt hdN) h1) ⟨Ext.refl _ _, fun _ _ _ _ _ => rfl, fun s hs _ => hs⟩ ⟨u, by rw [hd]⟩

theorem O.sureG {A : AV} {d : Nat} {b t : Bool} (h : b = t → Sure P c σ F rd o A) (hg : guardA ops σ o = some (some (b, t))) (hd : o.dst = some d) (hdN : Nat.blt d c.N = true) : O P ops c o σ F Q [] Unit (fun _ => (d, .when b t A) :: σ) (fun _ => F) := by
  intro a w hR K hK
  unfold Op1
  have key := guard_iff hR hg
  by_cases hb : b = t
  · rw [if_pos (key.2 hb)]
    obtain ⟨u, h1, h2⟩ := h hb a w hR
    simp only [Oper.wp]
    rw [h2 w (St1.refl w), Oper.upon_value, hd]
    exact hK () _ _ (hR.pure (of_blt hdN) (.when (fun _ => h1) fun e => absurd hb e)) ⟨Ext.refl _ _, fun _ _ _ _ _ => rfl, fun s hs _ => hs⟩ ⟨u, by rw [hd]⟩
  · rw [if_neg (fun hw => hb (key.1 hw)), hd]
    exact hK () _ _ (hR.pure (of_blt hdN) (.when (fun e => absurd e hb) fun _ => rfl)) ⟨Ext.refl _ _, fun _ _ _ _ _ => rfl, fun s hs _ => hs⟩ ⟨undef, by rw [hd]⟩

theorem L.sure {A : AV} {d : Nat} (h : Sure P c σ F rd o A) (hg : o.guard = none) (hd : o.dst = some d) (hdN : Nat.blt d c.N = true) (next : L P ops c rest ((d, A) :: σ) F Q) : L P ops c (o :: rest) σ F Q := L.of (O.sure h hg hd hdN) fun _ => next
theorem L.sureG {A : AV} {d : Nat} {b t : Bool} (h : b = t → Sure P c σ F rd o A) (hg : guardA ops σ o = some (some (b, t))) (hd : o.dst = some d) (hdN : Nat.blt d c.N = true) (next : L P ops c rest ((d, .when b t A) :: σ) F Q) : L P ops c (o :: rest) σ F Q := L.of (O.sureG h hg hd hdN) fun _ => next

theorem H.sure {d : Nat} {A : AV} (i : Nat) (hi : ops[i]? = some o) (hsel : Region.noSelect ops = true) (hfr : Region.free .any ops listed i = true) (hrd : (Region.ready .any ops listed).contains i = true) (hti : tch ops i = false)
    (hQ : ∀ ch a a' w, Q (.panic ch) a' w → Q (.panic ch) a w) (hg : o.guard = none) (hd : o.dst = some d) (hdN : Nat.blt d c.N = true) (h : Sure P c σ1 F1 (rdOf rdf i) o A) (next : H P ops c ((d, A) :: σ1) F1 rdf fuel (listed.setIfInBounds i true) ((d, A) :: σ) F Q) :
    H P ops c σ1 F1 rdf (fuel + 1) listed σ F Q :=
  H.first i hi hsel hfr hrd hti hd (of_blt hdN) hQ (fun a w1 hR => by
    obtain ⟨u, h1, h2⟩ := h a w1 hR
    exact ⟨u, h1, .inl ⟨by simp [Region.wanted, hg], h2⟩⟩) next

theorem H.sureG {d : Nat} {A : AV} {b t : Bool} (i : Nat) (hi : ops[i]? = some o) (hsel : Region.noSelect ops = true) (hfr : Region.free .any ops listed i = true) (hrd : (Region.ready .any ops listed).contains i = true) (hti : tch ops i = false)
    (hQ : ∀ ch a a' w, Q (.panic ch) a' w → Q (.panic ch) a w) (hg : guardA ops σ1 o = some (some (b, t))) (hd : o.dst = some d) (hdN : Nat.blt d c.N = true) (h : b = t → Sure P c σ1 F1 (rdOf rdf i) o A) (next : H P ops c ((d, .when b t A) :: σ1) F1 rdf fuel (listed.setIfInBounds i true) ((d, .when b t A) :: σ) F Q) :
    H P ops c σ1 F1 rdf (fuel + 1) listed σ F Q :=
  H.first i hi hsel hfr hrd hti hd (of_blt hdN) hQ (fun a w1 hR => by
    have key := guard_iff hR hg
    by_cases hb : b = t
    · obtain ⟨u, h1, h2⟩ := h hb a w1 hR
      exact ⟨u, .when (fun _ => h1) fun e => absurd hb e, .inl ⟨key.2 hb, h2⟩⟩
    · exact ⟨undef, .when (fun e => absurd e hb) fun _ => rfl, .inr ⟨by simpa using fun hw => hb (key.1 hw), rfl⟩⟩) next

theorem find_at {k : TypeId} (K : Keyed P k) {es : Array MapEntry} (hes : ∀ e ∈ es.toList, kOf P k e.key = true) {x : Value} (hx : kOf P k x = true) (w : World) :
    ((Instr.findKey k x es.toList).run P w = .ok none w ∧ ∀ e ∈ es.toList, e.key ≠ x) ∨ ∃ j e, (Instr.findKey k x es.toList).run P w = .ok (some (j, e.val)) w ∧ es.toList[j]? = some e ∧ e.key = x := by
  obtain ⟨lx, hlx⟩ := Option.isSome_iff_exists.1 hx
  exact K.find w hlx es.toList fun e he => Option.isSome_iff_exists.1 (hes e he)

/-- What a look tells. -/
noncomputable def mlook (m : List (Value × AV)) (k z : Value) : AV := (mget m k).getD (.v z)

theorem zero_at {e : TypeId} {j : TypeInfo} {z : Value} (hj : P.info? e = some j) (hz : j.zero = some z) (w : World) : (zeroValue e).run P w = .ok z w := by simp [zeroValue, typeInfo, hj, hz]

/-- What a look finds. -/
theorem look_core {t k e : TypeId} {x y : Operand} {id b : Nat} {X z kv : Value} {B : AV} {p q : Prop} {m : List (Value × AV)} (hT : TOk P T) (K : Keyed P k) (ht : tdOf T t = some (.map k e)) (hz : (P.info? e).bind (·.zero) = some z)
    (hx : evalS σ x = some (.ref id X, p)) (hy : evalS σ y = some (B, q)) (hkv : keyV B = some kv) (hpq : p ∧ q) (hrow : F.lookup id = some (.map b (kOf P k) m)) (hX : p → q → X = .map (some b)) (hrd : rd.contains id = true) (hkey : kOf P k kv = true) (ok : Bool) {a : Act} {w1 : World} (hR : R c σ F a w1) :
    ∃ u, Rep (Own c.off F) w1 (mlook m kv z) u ∧ ∀ w, St1 c F rd w1 w → (Instr.lookup t (a.eval x) (a.eval y) ok).run P w = .ok (if ok then .tuple #[u, .bool (mget m kv).isSome] else u) w := by
  obtain ⟨ti, hti, htd⟩ := tdOf_some ht
  have hm := (hT.told hti).map htd
  have hxv : a.eval x = .map (some b) := by
    have h := hR.evals hx hpq.1
    generalize a.eval x = v at h
    cases h
    exact hX hpq.1 hpq.2
  have hyv : a.eval y = kv := keyV_rep hkv (hR.evals hy hpq.2)
  obtain ⟨j, hj, hjz⟩ := Option.bind_eq_some_iff.1 hz
  obtain ⟨es, clock, hh, h1, h2, h3, h4, -⟩ := hR.sat.at hrow
  obtain ⟨lx, hlx⟩ := Option.isSome_iff_exists.1 hkey
  have hmem := lookup_mem hrow
  have hlt := hR.sat.lt hmem (b := b) rfl
  have hheap : ∀ w, St1 c F rd w1 w → w.heap[b]? = some (.map es clock) := fun w hS => (hS.2 b hlt (.inr ⟨_, hmem, by simpa using hrd, rfl⟩)).trans hh
  rw [hxv, hyv]
  by_cases hex : ∀ e ∈ es.toList, e.key ≠ kv
  · refine ⟨z, by rw [mlook, h3 kv hex]; exact .v z, fun w hS => ?_⟩
    rcases find_at K h1 hkey w with ⟨f1, f2⟩ | ⟨j', e', f1, f2, f3⟩
    · simp [Instr.lookup, run_underlying hm, MapKept.run_getObj_map (hheap w hS), K.check w _ hlx, f1, zero_at hj hjz, Result.andThen, h3 kv hex]
    · exact absurd f3 (hex e' (List.mem_of_getElem? f2))
  · obtain ⟨e', he', hk'⟩ : ∃ e', e' ∈ es.toList ∧ e'.key = kv := by
      simp only [ne_eq, Classical.not_forall, Classical.not_not] at hex
      obtain ⟨e', h5, h6⟩ := hex
      exact ⟨e', h5, h6⟩
    obtain ⟨A, hA, hrep⟩ := h2 e' he'
    refine ⟨e'.val, by rw [mlook, ← hk', hA]; exact hrep, fun w hS => ?_⟩
    rcases find_at K h1 hkey w with ⟨f1, f2⟩ | ⟨j', e2, f1, f2, f3⟩
    · exact absurd hk' (f2 e' he')
    · have hm2 := List.mem_of_getElem? f2
      have : e2 = e' := same_entry _ h4 e2 hm2 e' he' (f3.trans hk'.symm)
      subst this
      rw [← hk'] at f1 ⊢
      simp [Instr.lookup, run_underlying hm, MapKept.run_getObj_map (hheap w hS), K.check w _ (hk' ▸ hlx), f1, Result.andThen, hA]

/-- 'm[k]'. -/
theorem look_sure {t k e : TypeId} {x y : Operand} {id b : Nat} {X z kv : Value} {B A : AV} {p q : Prop} {m : List (Value × AV)} (hT : TOk P T) (K : Keyed P k) (ho : o.op = .lookup t x y false) (ht : tdOf T t = some (.map k e)) (hz : (P.info? e).bind (·.zero) = some z)
    (hx : evalS σ x = some (.ref id X, p)) (hy : evalS σ y = some (B, q)) (hkv : keyV B = some kv) (hpq : p ∧ q) (hrow : F.lookup id = some (.map b (kOf P k) m)) (hX : p → q → X = .map (some b)) (hrd : rd.contains id = true) (hkey : kOf P k kv = true) (hA : mlook m kv z = A) : Sure P c σ F rd o A := by
  intro a w1 hR
  obtain ⟨u, h1, h2⟩ := look_core hT K ht hz hx hy hkv hpq hrow hX hrd hkey false hR
  exact ⟨u, hA ▸ h1, fun w hS => by simp [execOp, ho, h2 w hS]⟩

/-- 'v, ok := m[k]'. -/
theorem look2_sure {t k e : TypeId} {x y : Operand} {id b : Nat} {X z kv : Value} {B A : AV} {ok : Bool} {p q : Prop} {m : List (Value × AV)} (hT : TOk P T) (K : Keyed P k) (ho : o.op = .lookup t x y true) (ht : tdOf T t = some (.map k e)) (hz : (P.info? e).bind (·.zero) = some z)
    (hx : evalS σ x = some (.ref id X, p)) (hy : evalS σ y = some (B, q)) (hkv : keyV B = some kv) (hpq : p ∧ q) (hrow : F.lookup id = some (.map b (kOf P k) m)) (hX : p → q → X = .map (some b)) (hrd : rd.contains id = true) (hkey : kOf P k kv = true) (hA : mlook m kv z = A) (hok : (mget m kv).isSome = ok) : Sure P c σ F rd o (.tup [A, .v (.bool ok)]) := by
  intro a w1 hR
  obtain ⟨u, h1, h2⟩ := look_core hT K ht hz hx hy hkv hpq hrow hX hrd hkey true hR
  refine ⟨.tuple #[u, .bool (mget m kv).isSome], .tup (us := [u, .bool (mget m kv).isSome]) rfl fun j B v hB hv => ?_, fun w hS => by simp [execOp, ho, h2 w hS]⟩
  match j with
  | 0 => simp at hB hv; subst hB; subst hv; exact hA ▸ h1
  | 1 => simp at hB hv; subst hB; subst hv; rw [hok]; exact .v _
  | j + 2 => simp at hB

/-- 'make(map[K]V)'. -/
theorem O.makeMap {t : TypeId} {d : Nat} (i : Nat) (k : TypeId) (ho : o.op = .makeMap t none) (hg : o.guard = none) (hd : o.dst = some d) (hdN : Nat.blt d c.N = true) :
    O P ops c o σ F Q [] Nat (fun b => (d, .ref i (.map (some b))) :: σ) (fun b => (i, .map b (kOf P k) []) :: F) := by
  intro a w hR K hK
  refine Op1.plain hg ?_
  obtain ⟨k1, k2, k3, k4⟩ := hR.make (.map #[] 0) (i := i) (r := .map w.heap.size (kOf P k) []) (fun b hb => by cases hb; exact Nat.le_refl _) fun he => ⟨#[], 0, by simpa using heap_alloc_new w (.map #[] 0), by simp, by simp, fun _ _ => rfl, by simp, by simp, by simp⟩
  have hgive : (execOp a.eval o).run P w = .ok (.value (.map (some w.heap.size))) (w.alloc (.map #[] 0)) := by
    simp [execOp, ho, Instr.makeMap]
  simp only [Oper.wp]
  rw [hgive, Oper.upon_value, hd]
  exact hK _ _ _ (hR.step (of_blt hdN) k1 k2 k3 k4.ext (.ref _ _ rfl)) k4 ⟨_, by rw [hd]⟩
theorem L.makeMap {t : TypeId} {d : Nat} (i : Nat) (k : TypeId) (ho : o.op = .makeMap t none) (hg : o.guard = none) (hd : o.dst = some d) (hdN : Nat.blt d c.N = true)
    (next : ∀ b, L P ops c rest ((d, .ref i (.map (some b))) :: σ) ((i, .map b (kOf P k) []) :: F) Q) : L P ops c (o :: rest) σ F Q := L.of (O.makeMap i k ho hg hd hdN) next

theorem heap_setBlock_at (w : World) (b : Nat) (x : Obj) (h : b < w.heap.size) : (ChangeMaps.setBlock w b x).heap[b]? = some x := by simp [ChangeMaps.setBlock, h]
theorem heap_setBlock_ne (w : World) (b b' : Nat) (x : Obj) (h : b' ≠ b) : (ChangeMaps.setBlock w b x).heap[b']? = w.heap[b']? := by simp [ChangeMaps.setBlock, Array.getElem?_setIfInBounds_ne h.symm]

/-- 'm[k] = v'. -/
theorem O.mapSet {t k e : TypeId} {x y z : Operand} {id b : Nat} {X kv : Value} {B A : AV} {p q r : Prop} {m : List (Value × AV)} (hT : TOk P T) (K : Keyed P k) (ho : o.op = .mapUpdate t x y z) (hg : o.guard = none) (hd : o.dst = none) (ht : tdOf T t = some (.map k e))
    (hx : evalS σ x = some (.ref id X, p)) (hy : evalS σ y = some (B, q)) (hkv : keyV B = some kv) (hz : evalS σ z = some (A, r)) (hpq : p ∧ q ∧ r) (hrow : F.lookup id = some (.map b (kOf P k) m)) (hX : X = .map (some b)) (hkey : kOf P k kv = true) :
    O P ops c o σ F Q [id] Unit (fun _ => σ) (fun _ => setF id id (.map b (kOf P k) ((kv, A) :: m)) F) := by
  intro a w hR KK hK
  refine Op1.plain hg ?_
  obtain ⟨ti, hti, htd⟩ := tdOf_some ht
  have hm := (hT.told hti).map htd
  have hxv : a.eval x = .map (some b) := by
    have h := hR.evals hx hpq.1
    generalize a.eval x = v at h
    cases h
    exact hX
  have hyv : a.eval y = kv := keyV_rep hkv (hR.evals hy hpq.2.1)
  have hzr := hR.evals hz hpq.2.2
  obtain ⟨es, clock, hh, h1, h2, h3, h4, hst⟩ := hR.sat.at hrow
  obtain ⟨lx, hlx⟩ := Option.isSome_iff_exists.1 hkey
  have hlt := hR.sat.lt (lookup_mem hrow) (b := b) rfl
  obtain ⟨es', clock', hrun, q1, q2, q3, q4⟩ : ∃ es' clock', (execOp a.eval o).run P w = .ok .skip (ChangeMaps.setBlock w b (.map es' clock')) ∧ (∀ e ∈ es'.toList, (e ∈ es.toList ∧ e.key ≠ kv) ∨ (e.key = kv ∧ e.val = a.eval z)) ∧
      (∀ key, (∀ e ∈ es'.toList, e.key ≠ key) → key ≠ kv ∧ ∀ e ∈ es.toList, e.key ≠ key) ∧ (es'.toList.Pairwise fun x y => x.key ≠ y.key) ∧ Stmp es' clock' := by
    rcases find_at K h1 hkey w with ⟨f1, f2⟩ | ⟨j', e2, f1, f2, f3⟩
    · refine ⟨es.push ⟨kv, a.eval z, clock⟩, clock + 1, ?_, fun e he => ?_, fun key hne => ?_, ?_, hst.push _ _⟩
      · simp [execOp, ho, hxv, hyv, Instr.mapUpdate, run_underlying hm, MapKept.run_getObj_map hh, K.check w false hlx, f1, MapKept.run_setObj_map _ hh, Result.andThen, ChangeMaps.setBlock]
      · simp only [Array.toList_push, List.mem_append, List.mem_singleton] at he
        rcases he with he | rfl
        · exact .inl ⟨he, f2 e he⟩
        · exact .inr ⟨rfl, rfl⟩
      · simp only [Array.toList_push, List.mem_append, List.mem_singleton] at hne
        exact ⟨fun e => hne _ (.inr rfl) e.symm, fun e he => hne e (.inl he)⟩
      · simp only [Array.toList_push]
        refine List.pairwise_append.2 ⟨h4, by simp, fun x hx y hy => ?_⟩
        rw [List.mem_singleton] at hy
        subst hy
        exact f2 x hx
    · have hjl : j' < es.toList.length := (List.getElem?_eq_some_iff.1 f2).1
      have hjs : j' < es.size := by simpa using hjl
      have hget : es[j']? = some e2 := by simpa using f2
      have hlist : (es.modify j' fun e => { e with key := kv, val := a.eval z }).toList = es.toList.set j' { e2 with key := kv, val := a.eval z } := by
        apply List.ext_getElem?
        intro i
        simp only [Array.toList_modify, List.getElem?_modify, List.getElem?_set]
        by_cases hi : j' = i
        · subst hi
          rw [f2]; simp; exact hjs
        · simp [hi]
      have hsame : ∀ e ∈ es.toList, e.key = kv → e = e2 := by
        intro e he hek
        exact same_entry _ h4 e he e2 (List.mem_of_getElem? f2) (hek.trans f3.symm)
      refine ⟨es.modify j' fun e => { e with key := kv, val := a.eval z }, clock, ?_, fun e he => ?_, fun key hne => ?_, ?_, hst.mods (e3 := ⟨kv, a.eval z, 0⟩) f2 (by rw [hlist])⟩
      · simp [execOp, ho, hxv, hyv, Instr.mapUpdate, run_underlying hm, MapKept.run_getObj_map hh, K.check w false hlx, f1, hget, f3, K.stays w hlx, MapKept.run_setObj_map _ hh, Result.andThen, ChangeMaps.setBlock]
      · rw [hlist] at he
        obtain ⟨i, hi⟩ := List.getElem?_of_mem he
        rw [List.getElem?_set] at hi
        split at hi
        · first
          | (cases hi; exact .inr ⟨rfl, rfl⟩)
          | (split at hi
             · cases hi; exact .inr ⟨rfl, rfl⟩
             · cases hi)
        · rename_i hne
          refine .inl ⟨List.mem_of_getElem? hi, fun hek => ?_⟩
          have := List.pairwise_iff_getElem.1 h4
          have hil := (List.getElem?_eq_some_iff.1 hi).1
          have he1 : es.toList[i] = e := (List.getElem?_eq_some_iff.1 hi).2
          have he2 : es.toList[j'] = e2 := (List.getElem?_eq_some_iff.1 f2).2
          rcases Nat.lt_or_gt_of_ne hne with hlt | hgt
          · exact this j' i hjl hil hlt (by rw [he1, he2, hek, f3])
          · exact this i j' hil hjl hgt (by rw [he1, he2, hek, f3])
      · rw [hlist] at hne
        have hkn : key ≠ kv := fun e => hne _ (List.mem_iff_getElem?.2 ⟨j', by rw [List.getElem?_set, if_pos rfl]; first | rfl | (rw [if_pos hjl])⟩) e.symm
        refine ⟨hkn, fun e he hek => ?_⟩
        obtain ⟨i, hi⟩ := List.getElem?_of_mem he
        by_cases hij : j' = i
        · subst hij
          rw [f2] at hi
          cases hi
          exact hkn (hek.symm.trans f3)
        · exact hne e (List.mem_iff_getElem?.2 ⟨i, by rw [List.getElem?_set, if_neg hij]; exact hi⟩) hek
      · rw [hlist]
        rw [List.pairwise_iff_getElem] at h4 ⊢
        intro i1 i2 hi1 hi2 hlt
        simp only [List.length_set] at hi1 hi2
        have he2 : es.toList[j'] = e2 := (List.getElem?_eq_some_iff.1 f2).2
        have := h4 i1 i2 hi1 hi2 hlt
        rw [List.getElem_set, List.getElem_set]
        split
        · rename_i e1
          subst e1
          split
          · omega
          · show kv ≠ _
            rw [he2, f3] at this
            exact this
        · split
          · rename_i e1
            subst e1
            show _ ≠ kv
            rw [he2, f3] at this
            exact this
          · exact this
  obtain ⟨k1, k2, k3, k4⟩ := hR.write (i' := id) (r' := .map b (kOf P k) ((kv, A) :: m)) hrow (w' := ChangeMaps.setBlock w b (.map es' clock')) (by simp [ChangeMaps.setBlock]) rfl rfl rfl
    (fun b' hlt' hne => heap_setBlock_ne w b b' _ (fun e => hne (by rw [e]; rfl))) (fun b' hb' => .inl hb') (fun he => by
      refine ⟨es', clock', heap_setBlock_at w b _ hlt, fun e hm' => ?_, fun e hm' => ?_, fun key hne => ?_, q3, q4⟩
      · rcases q1 e hm' with ⟨g1, -⟩ | ⟨g1, -⟩
        · exact h1 e g1
        · rw [g1]; exact hkey
      · rcases q1 e hm' with ⟨g1, g2⟩ | ⟨g1, g2⟩
        · obtain ⟨A', hA', hr'⟩ := h2 e g1
          exact ⟨A', by rw [mget_cons_other _ _ (Ne.symm g2)]; exact hA', hr'.ext he⟩
        · exact ⟨A, by rw [g1, mget_cons_same], by rw [g2]; exact hzr.ext he⟩
      · obtain ⟨g1, g2⟩ := q2 key hne
        rw [mget_cons_other _ _ (Ne.symm g1)]
        exact h3 key g2)
  simp only [Oper.wp]
  rw [hrun, Oper.upon_skip, hd]
  exact hK () _ _ (hR.step_none k1 k2 k3 k4.ext) k4 ⟨undef, by rw [hd]⟩

theorem L.mapSet {t k e : TypeId} {x y z : Operand} {id b : Nat} {X kv : Value} {B A : AV} {p q r : Prop} {m : List (Value × AV)} (hT : TOk P T) (K : Keyed P k) (ho : o.op = .mapUpdate t x y z) (hg : o.guard = none) (hd : o.dst = none) (ht : tdOf T t = some (.map k e))
    (hx : evalS σ x = some (.ref id X, p)) (hy : evalS σ y = some (B, q)) (hkv : keyV B = some kv) (hz : evalS σ z = some (A, r)) (hpq : p ∧ q ∧ r) (hrow : F.lookup id = some (.map b (kOf P k) m)) (hX : X = .map (some b)) (hkey : kOf P k kv = true)
    (next : L P ops c rest σ (setF id id (.map b (kOf P k) ((kv, A) :: m)) F) Q) : L P ops c (o :: rest) σ F Q := L.of (O.mapSet hT K ho hg hd ht hx hy hkv hz hpq hrow hX hkey) fun _ => next

/-- A variable that nobody writes any more. -/
theorem freezeBlk {K : Act → World → Prop} (d id : Nat) {id' b b' : Nat} {T : TypeId} {cs : List AV} (hrow : F.lookup id = some (.blk b T cs)) (hd : σ.lookup d = some (.ptr id' b' 0)) (hb : b' = b)
    (next : ∀ a w, R c ((d, .pel cs.length cs) :: σ) (delF id F) a w → K a w) : ∀ a w, R c σ F a w → K a w := by
  intro a w hR
  subst hb
  obtain ⟨us, hh, hl, h1, hr⟩ := hR.sat.at hrow
  obtain ⟨L1, L2, e1, e2⟩ := delF_split hrow
  have hmem := lookup_mem hrow
  have hR' := hR.del id hrow
  have h0 := hR.slots d _ hd
  have hless : Ext (Own c.off F) (Own c.off (delF id F)) w w := Ext.less (fun b hb => Own.tail (fun r hr => by rw [e2] at hr; rw [e1]; rcases List.mem_append.1 hr with h | h <;> simp [h]) hb) w
  have hnot : ¬ Own c.off (delF id F) b' := by
    rintro (h | ⟨s, hs, hsb⟩)
    · exact hR.sat.off _ hmem b' rfl h
    · have hn := hR.sat.nodup
      rw [e1] at hn
      rw [e2] at hs
      obtain ⟨n1, n2, n3⟩ := List.pairwise_append.1 hn
      rcases List.mem_append.1 hs with h | h
      · exact n3 s h (id, .blk b' T cs) (by simp) b' hsb rfl
      · exact (List.pairwise_cons.1 n2).1 s h b' rfl hsb
  refine next a w ⟨hR'.len, hR'.defers, hR'.hoff, hR'.kept, hR'.fresh, hR'.sat, fun k A hA => ?_⟩
  rw [lookup_cons] at hA
  split at hA
  · rename_i e
    subst e
    cases hA
    generalize a.tmps.getD k undef = v at h0 ⊢
    cases h0
    refine .pel (fun j => us.getD j (.bool false)) rfl (fun j => ?_) (fun j hj => ?_) (fun _ => hnot) (fun j B hB => ?_)
    · rw [List.getD_eq_getElem?_getD]
      cases hq : us[j]? with
      | none => rfl
      | some u => exact h1 u (List.mem_of_getElem? hq)
    · rw [addr_add_lit, Nat.zero_add]
      have hlt : j < us.length := by omega
      rw [List.getD_eq_getElem?_getD, List.getElem?_eq_getElem hlt]
      simp [World.cell?, hh, hlt]
    · have hlt : j < us.length := by have := (List.getElem?_eq_some_iff.1 hB).1; omega
      rw [List.getD_eq_getElem?_getD, List.getElem?_eq_getElem hlt]
      exact (hr j B _ hB (List.getElem?_eq_getElem hlt)).ext hless
  · exact hR'.slots k A hA

end

end Go.Proofs.YtbogfmgfafdjiaaGreatDoor

/- More rules, on abstract values: nil slices, lengths, weakening, other numbers for rows. -/
namespace Go.Proofs.YtbogfmgfafdjiaaGreatDoor
set_option linter.unusedVariables false
set_option linter.unusedSimpArgs false
open Go.RowKit

theorem Imps.refl : ∀ l : List AV, Imps l l
  | [] => trivial
  | A :: l => ⟨Imp.refl A, Imps.refl l⟩

def WeakOk (σ : Slots) : Slots → Prop
  | [] => True
  | (k, B) :: t => (match σ.lookup k with | some A => Imp A B | none => False) ∧ WeakOk σ t
theorem WeakOk.mem {σ : Slots} : ∀ {σ' : Slots}, WeakOk σ σ' → ∀ p ∈ σ', ∃ A, σ.lookup p.1 = some A ∧ Imp A p.2
  | [], _, p, hp => by cases hp
  | (k, B) :: t, h, p, hp => by
    rcases List.mem_cons.1 hp with rfl | hp
    · have h1 := h.1
      split at h1
      · rename_i A hA; exact ⟨A, hA, h1⟩
      · exact h1.elim
    · exact WeakOk.mem h.2 p hp
theorem R.weak {c : Ctx} {σ σ' : Slots} {F G : Rows} {a : Act} {w : World} (hs : WeakOk σ σ') (hF : G.Sublist F) (h : R c σ F a w) : R c σ' G a w := h.weaken hs.mem hF

/-- A slice is not longer than may be. -/
theorem lenAt {c : Ctx} {σ : Slots} {F : Rows} {K : Act → World → Prop} (d : Nat) {sz n : Nat} {g : Nat → List AV} (h : σ.lookup d = some (.lst sz n g)) (next : n ≤ 9223372036854775807 → ∀ a w, R c σ F a w → K a w) : ∀ a w, R c σ F a w → K a w := by
  intro a w hR
  refine next ?_ a w hR
  have h1 := hR.slots d _ h
  generalize a.tmps.getD d undef = v at h1
  cases h1 with
  | lst u hn hm => simp only [maxLen] at hm; omega

theorem lenOwn {c : Ctx} {σ : Slots} {F : Rows} {K : Act → World → Prop} (id : Nat) {x : Value} {E sz n : Nat} {g : Nat → List AV} (h : F.lookup id = some (.own x E sz n g)) (next : n ≤ 9223372036854775807 → ∀ a w, R c σ F a w → K a w) : ∀ a w, R c σ F a w → K a w := by
  intro a w hR
  refine next ?_ a w hR
  obtain ⟨us, ho, -⟩ := hR.sat.at h
  obtain ⟨A, cap, rfl, h1, h2⟩ := own_form0 ho
  simp only [maxLen] at h2
  omega

/-- Other numbers. -/
theorem R.renum {c : Ctx} {σ : Slots} {F F' : Rows} {a : Act} {w : World} (h : R c σ F a w) (hF : F'.map (·.2) = F.map (·.2)) : R c σ F' a w := by
  have hmem : ∀ r : Row, (∃ i, (i, r) ∈ F') ↔ ∃ i, (i, r) ∈ F := fun r => by
    have h1 : r ∈ F'.map (·.2) ↔ r ∈ F.map (·.2) := by rw [hF]
    simpa using h1
  have hown : ∀ b, Own c.off F' b ↔ Own c.off F b := fun b => by
    unfold Own
    constructor
    · rintro (h | ⟨⟨i, r⟩, h1, h2⟩)
      · exact .inl h
      · obtain ⟨j, hj⟩ := (hmem r).1 ⟨i, h1⟩; exact .inr ⟨_, hj, h2⟩
    · rintro (h | ⟨⟨i, r⟩, h1, h2⟩)
      · exact .inl h
      · obtain ⟨j, hj⟩ := (hmem r).2 ⟨i, h1⟩; exact .inr ⟨_, hj, h2⟩
  have hless : Ext (Own c.off F) (Own c.off F') w w := Ext.less (fun b hb => (hown b).1 hb) w
  refine ⟨h.len, h.defers, h.hoff, h.kept, fun ⟨i, r⟩ hr b hb => ?_, ⟨fun ⟨i, r⟩ hr => ?_, ?_, fun ⟨i, r⟩ hr b hb => ?_⟩, fun k A hA => (h.slots k A hA).ext hless⟩
  · obtain ⟨j, hj⟩ := (hmem r).1 ⟨i, hr⟩; exact h.fresh _ hj b hb
  · obtain ⟨j, hj⟩ := (hmem r).1 ⟨i, hr⟩; exact (h.sat.rows _ hj).ext hless fun _ _ => rfl
  · have h1 : (F'.map (·.2)).Pairwise fun r s : Row => ∀ b, r.block = some b → s.block ≠ some b := by
      rw [hF]; exact List.pairwise_map.2 h.sat.nodup
    exact List.pairwise_map.1 h1
  · obtain ⟨j, hj⟩ := (hmem r).1 ⟨i, hr⟩; exact h.sat.off _ hj b hb

/-- Another view of one slot, and other numbers. -/
theorem renum {c : Ctx} {σ : Slots} {F : Rows} {K : Act → World → Prop} (F' : Rows) (d : Nat) {A : AV} (B : AV) (hF : F'.map (·.2) = F.map (·.2)) (hd : σ.lookup d = some A) (hi : Imp A B) (next : ∀ a w, R c ((d, B) :: σ) F' a w → K a w) : ∀ a w, R c σ F a w → K a w := by
  intro a w hR
  have hR' := hR.renum hF
  refine next a w ⟨hR'.len, hR'.defers, hR'.hoff, hR'.kept, hR'.fresh, hR'.sat, fun k C hC => ?_⟩
  rw [lookup_cons] at hC
  split at hC
  · rename_i e; subst e; cases hC; exact hi _ _ _ (hR'.slots k A hd)
  · exact hR'.slots k C hC

/-- A nil slice as a row of one's own. -/
theorem nilRow {c : Ctx} {σ : Slots} {F : Rows} {K : Act → World → Prop} (id : Nat) (E sz : Nat) (g : Nat → List AV) (next : ∀ a w, R c σ ((id, .own (.slice none 0 0) E sz 0 g) :: F) a w → K a w) : ∀ a w, R c σ F a w → K a w := by
  intro a w hR
  obtain ⟨g1, g2⟩ := hR.sat.add hR.off (i := id) (r := .own (.slice none 0 0) E sz 0 g) (w' := w) (Nat.le_refl _) (fun _ _ => rfl) (fun b hb => by cases hb) fun _ =>
    ⟨[], World.ownsRow_nil w 0 E sz, fun i hi => absurd hi (by omega), by simp, fun i hi => absurd hi (by omega)⟩
  refine next a w ⟨hR.len, hR.defers, hR.hoff, hR.kept, fun s hs b hb => ?_, g1, fun k A hA => (hR.slots k A hA).ext g2⟩
  rcases List.mem_cons.1 hs with rfl | h
  · cases hb
  · exact hR.fresh s h b hb
theorem rowsEq {c : Ctx} {σ : Slots} {F : Rows} {K : Act → World → Prop} (F' : Rows) (h : F = F') (next : ∀ a w, R c σ F' a w → K a w) : ∀ a w, R c σ F a w → K a w := h ▸ next
theorem joinG_zero (g h : Nat → List AV) : joinG 0 g h = h := by funext i; simp [joinG]
theorem Imp.vref {id : Nat} {x : Value} (h : x.oneCell' = true) : Imp (.v x) (.ref id x) := fun own w u hu => by cases hu; exact .ref _ _ h

theorem Imp.ref {id id' : Nat} {x : Value} : Imp (.ref id x) (.ref id' x) := fun own w u h => by cases h; exact .ref _ _ ‹_›
theorem Imp.agg {l m : List AV} (h : Imps l m) : Imp (.agg l) (.agg m) := fun own w u hu => by
  cases hu with
  | agg hl h1 hr =>
    obtain ⟨h2, h3⟩ := h.get
    refine .agg (hl.trans h2) h1 fun j A u hA hu => ?_
    obtain ⟨B, hB, hi⟩ := h3 j A hA
    exact hi _ _ _ (hr j B u hB hu)
theorem Imp.tup {l m : List AV} (h : Imps l m) : Imp (.tup l) (.tup m) := fun own w u hu => by
  cases hu with
  | tup hl hr =>
    obtain ⟨h2, h3⟩ := h.get
    refine .tup (hl.trans h2) fun j A u hA hu => ?_
    obtain ⟨B, hB, hi⟩ := h3 j A hA
    exact hi _ _ _ (hr j B u hB hu)
theorem Imp.trans {A B C : AV} (h : Imp A B) (k : Imp B C) : Imp A C := fun own w u hu => k _ _ _ (h _ _ _ hu)
/-- Rows of the same elements. -/
theorem Imp.lst {sz n n' : Nat} {g h : Nat → List AV} (hn : n = n') (hh : ∀ i, i < n → g i = h i) : Imp (.lst sz n g) (.lst sz n' h) := fun own w u hu => by
  subst hn
  cases hu with
  | lst u hn hm hnil hlen h1 hc hb hr =>
    exact .lst u hn hm hnil (fun i hi => by rw [← hh i hi]; exact hlen i hi) h1 hc hb (fun i hi j B hB => hr i hi j B (by rw [hh i hi]; exact hB))

section
variable {P : Program} {T : Types} {c : Ctx} {σ : Slots} {F : Rows} {Q : Exit → Act → World → Prop} {ops : Array Oper} {rest : List Oper} {o : Oper}

/-- 's == nil'. -/
theorem O.isNil {t t' e : TypeId} {x : Operand} {d sz n : Nat} {g : Nat → List AV} {p : Prop} (hT : TOk P T) (ho : o.op = .binOp .eql t x (.const (.slice none 0 0)) t') (hg : o.guard = none) (hd : o.dst = some d) (hdN : Nat.blt d c.N = true) (ht : tdOf T t = some (.slice e))
    (hx : evalS σ x = some (.lst sz n g, p)) (hp : p) : O P ops c o σ F Q [] { b : Bool // b = true → n = 0 } (fun b => (d, .v (.bool b.1)) :: σ) (fun _ => F) := by
  intro a w hR K hK
  refine Op1.plain hg ?_
  obtain ⟨ti, hti, htd⟩ := tdOf_some ht
  have hu := (hT.told hti).slice htd
  have h1 := hR.evals hx hp
  generalize hv : a.eval x = v at h1
  cases h1 with
  | @lst _ _ cap _ A u hn hm hnil =>
    have hgive : (execOp a.eval o).run P w = .ok (.value (.bool A.isNone)) w := by
      have h2 := Lib.run_eql_slice_nil (P := P) w t e A n cap 0 0 hu
      have hc : a.eval (.const (.slice none 0 0)) = .slice none 0 0 := rfl
      have hgd := run_eqGuard_none (P := P) .eql t x (.const (.slice none 0 0)) (.slice A n cap) (.slice none 0 0) (w := w) (fun _ _ h => by cases h) (by simp)
      simp [execOp, ho, hv, hc, hgd, h2]
    simp only [Oper.wp]
    rw [hgive, Oper.upon_value, hd]
    exact hK ⟨A.isNone, fun h => (hnil (by simpa using h)).1⟩ _ _ (hR.pure (of_blt hdN) (.v _)) ⟨Ext.refl _ _, fun _ _ _ _ _ => rfl, fun s hs _ => hs⟩ ⟨_, by rw [hd]⟩
theorem L.isNil {t t' e : TypeId} {x : Operand} {d sz n : Nat} {g : Nat → List AV} {p : Prop} (hT : TOk P T) (ho : o.op = .binOp .eql t x (.const (.slice none 0 0)) t') (hg : o.guard = none) (hd : o.dst = some d) (hdN : Nat.blt d c.N = true) (ht : tdOf T t = some (.slice e))
    (hx : evalS σ x = some (.lst sz n g, p)) (hp : p) (next : ∀ b : Bool, (b = true → n = 0) → L P ops c rest ((d, .v (.bool b)) :: σ) F Q) : L P ops c (o :: rest) σ F Q := L.of (O.isNil hT ho hg hd hdN ht hx hp) fun b => next b.1 b.2

variable {F1 : Rows} {σ1 : Slots} {rdf : List (Nat × List Nat)} {listed : Array Bool}
theorem H.ts (is : List Nat) {n : Nat} {σ1' σ' : Slots} {C : Prop} (hT : TOk P T) (hn : Nat.ble is.length n = true) (hsel : Region.noSelect ops = true) (hok : takesOk P ops is listed = true) (hQ : ∀ ch a a' w, Q (.panic ch) a' w → Q (.panic ch) a w)
    (h : takesA T c.N ops F1 rdf is σ1 σ = some (σ1', σ', C)) (hC : C) (next : H P ops c σ1' F1 rdf (n - is.length) (setAll is listed) σ' F Q) : H P ops c σ1 F1 rdf n listed σ F Q := by
  have h1 := Nat.le_of_ble_eq_true hn
  have h2 := H.takes (fuel := n - is.length) is hT hsel hok hQ h hC next
  rwa [Nat.sub_add_cancel h1] at h2
theorem H.o1 {ids : List Nat} {ι : Type} {sl : ι → Slots} {ro : ι → Rows} (i : Nat) {n : Nat} (hi : ops[i]? = some o) (hn : Nat.blt 0 n = true) (hrd : Region.ready .any ops listed = [i]) (h : O P ops c o σ F Q ids ι sl ro) (ht : tch ops i = true ∨ ids = []) (hdis : apartOk ops rdf i ids = true)
    (next : ∀ k, H P ops c (headW o.dst (sl k) (σ1.filter fun p => !(o.dst == some p.1))) F1 rdf (n - 1) (listed.setIfInBounds i true) (sl k) (ro k) Q) : H P ops c σ1 F1 rdf n listed σ F Q := by
  have h1 := of_blt hn
  have h2 := H.one (fuel := n - 1) i hi hrd h ht hdis next
  rwa [Nat.sub_add_cancel h1] at h2
theorem H.o2 {o' : Oper} {ids ids' : List Nat} {ι ι' : Type} {sl : ι → Slots} {ro : ι → Rows} {sl' : ι' → Slots} {ro' : ι' → Rows} (i i' : Nat) {n : Nat} (hi : ops[i]? = some o) (hi' : ops[i']? = some o') (hn : Nat.blt 0 n = true) (hrd : Region.ready .any ops listed = [i, i']) (h : O P ops c o σ F Q ids ι sl ro) (h' : O P ops c o' σ F Q ids' ι' sl' ro')
    (ht : tch ops i = true ∨ ids = []) (ht' : tch ops i' = true ∨ ids' = []) (hdis : apartOk ops rdf i ids = true) (hdis' : apartOk ops rdf i' ids' = true)
    (next : ∀ k, H P ops c (headW o.dst (sl k) (σ1.filter fun p => !(o.dst == some p.1))) F1 rdf (n - 1) (listed.setIfInBounds i true) (sl k) (ro k) Q) (next' : ∀ k, H P ops c (headW o'.dst (sl' k) (σ1.filter fun p => !(o'.dst == some p.1))) F1 rdf (n - 1) (listed.setIfInBounds i' true) (sl' k) (ro' k) Q) :
    H P ops c σ1 F1 rdf n listed σ F Q := by
  have h1 := of_blt hn
  have h2 := H.two (fuel := n - 1) i i' hi hi' hrd h h' ht ht' hdis hdis' next next'
  rwa [Nat.sub_add_cancel h1] at h2

theorem H.call {cl : Call} {x : Operand} {f d n : Nat} {caps As Bs : List AV} {p q : Prop} {Post : AV → Rows → Prop} (i : Nat) (G H' : Rows) (hi : ops[i]? = some o) (hn : Nat.blt 0 n = true) (hrd : Region.ready .any ops listed = [i]) (ho : o.op = .call cl) (hcl : cl.callee = .value x) (hg : o.guard = none) (hd : o.dst = some d) (hdN : Nat.blt d c.N = true) (hx : evalS σ x = some (.fn (.func f) caps, p)) (ha : argsA σ cl.args.toList = some (As, q))
    (hpq : p ∧ q) (hf : callable P f = true) (himp : Imps (As ++ caps) Bs) (hp : F.Perm (G ++ H')) (h : FnC P f Bs G Post) (ht : tch ops i = true) (hdis : apartOk ops rdf i (G.map (·.1)) = true)
    (next : ∀ r G', Post r G' → H P ops c (headW o.dst ((d, r) :: σ) (σ1.filter fun p => !(o.dst == some p.1))) F1 rdf (n - 1) (listed.setIfInBounds i true) ((d, r) :: σ) (G' ++ H') Q) : H P ops c σ1 F1 rdf n listed σ F Q :=
  H.o1 i hi hn hrd (O.call ho hcl hg hd hdN hx ha hpq hf himp hp h) (.inl ht) hdis fun k => next k.1.1 k.1.2 k.2

theorem H.callP {cl : Call} {x : Operand} {f d n : Nat} {caps As Bs : List AV} {p q : Prop} {r : AV} (i : Nat) (hi : ops[i]? = some o) (hn : Nat.blt 0 n = true) (hrd : Region.ready .any ops listed = [i]) (ho : o.op = .call cl) (hcl : cl.callee = .value x) (hg : o.guard = none) (hd : o.dst = some d) (hdN : Nat.blt d c.N = true) (hx : evalS σ x = some (.fn (.func f) caps, p)) (ha : argsA σ cl.args.toList = some (As, q))
    (hpq : p ∧ q) (hf : callable P f = true) (himp : Imps (As ++ caps) Bs) (h : PFn P f Bs r)
    (next : H P ops c (headW o.dst ((d, r) :: σ) (σ1.filter fun p => !(o.dst == some p.1))) F1 rdf (n - 1) (listed.setIfInBounds i true) ((d, r) :: σ) F Q) : H P ops c σ1 F1 rdf n listed σ F Q :=
  H.o1 i hi hn hrd (O.callP ho hcl hg hd hdN hx ha hpq hf himp h) (.inr rfl) rfl fun _ => next

theorem H.callG {cl : Call} {x : Operand} {f d n : Nat} {b t : Bool} {caps As Bs : List AV} {p q : Prop} {r : AV} (i : Nat) (hi : ops[i]? = some o) (hn : Nat.blt 0 n = true) (hrd : Region.ready .any ops listed = [i]) (ho : o.op = .call cl) (hcl : cl.callee = .value x) (hg : guardA ops σ o = some (some (b, t))) (hd : o.dst = some d) (hdN : Nat.blt d c.N = true) (hx : evalS σ x = some (.fn (.func f) caps, p)) (ha : argsA σ cl.args.toList = some (As, q))
    (hpq : b = t → p ∧ q) (hf : callable P f = true) (himp : Imps (As ++ caps) Bs) (h : b = t → PFn P f Bs r)
    (next : H P ops c (headW o.dst ((d, .when b t r) :: σ) (σ1.filter fun p => !(o.dst == some p.1))) F1 rdf (n - 1) (listed.setIfInBounds i true) ((d, .when b t r) :: σ) F Q) : H P ops c σ1 F1 rdf n listed σ F Q :=
  H.o1 i hi hn hrd (O.callG ho hcl hg hd hdN hx ha hpq hf himp h) (.inr rfl) rfl fun _ => next

theorem H.store {t : TypeId} {x y : Operand} {A B : AV} {p q C : Prop} {F' : Rows} {k n : Nat} (i : Nat) (hi : ops[i]? = some o) (hn : Nat.blt 0 n = true) (hrd : Region.ready .any ops listed = [i]) (hT : TOk P T) (ho : o.op = .store t x y) (hg : o.guard = none) (hd : o.dst = none) (hx : evalS σ x = some (A, p)) (hy : evalS σ y = some (B, q)) (hs : storeA T F t A B = some (k, F', C))
    (hC : p ∧ q ∧ C) (ht : tch ops i = true) (hdis : apartOk ops rdf i [k] = true) (next : H P ops c (headW o.dst σ (σ1.filter fun p => !(o.dst == some p.1))) F1 rdf (n - 1) (listed.setIfInBounds i true) σ F' Q) : H P ops c σ1 F1 rdf n listed σ F Q :=
  H.o1 i hi hn hrd (O.store hT ho hg hd hx hy hs hC) (.inl ht) hdis fun _ => next

/-- A step that only computes or reads, at its place. -/
theorem H.step {σ' : Slots} {C : Prop} {n : Nat} (i : Nat) (hi : ops[i]? = some o) (hn : Nat.blt 0 n = true) (hrd : Region.ready .any ops listed = [i]) (hT : TOk P T) (hcv : convOk P o = true) (h : stepA T c.N ops σ F o = some (σ', C)) (hC : C)
    (next : H P ops c (headW o.dst σ' (σ1.filter fun p => !(o.dst == some p.1))) F1 rdf (n - 1) (listed.setIfInBounds i true) σ' F Q) : H P ops c σ1 F1 rdf n listed σ F Q :=
  H.o1 i hi hn hrd (O.step hT hcv h hC) (.inr rfl) rfl fun _ => next

theorem H.sG {d n : Nat} {A : AV} {b t : Bool} (i : Nat) (hi : ops[i]? = some o) (hn : Nat.blt 0 n = true) (hsel : Region.noSelect ops = true) (hfr : Region.free .any ops listed i = true) (hrd : (Region.ready .any ops listed).contains i = true) (hti : tch ops i = false)
    (hQ : ∀ ch a a' w, Q (.panic ch) a' w → Q (.panic ch) a w) (hg : guardA ops σ1 o = some (some (b, t))) (hd : o.dst = some d) (hdN : Nat.blt d c.N = true) (h : b = t → Sure P c σ1 F1 (rdOf rdf i) o A) (next : H P ops c ((d, .when b t A) :: σ1) F1 rdf (n - 1) (listed.setIfInBounds i true) ((d, .when b t A) :: σ) F Q) :
    H P ops c σ1 F1 rdf n listed σ F Q := by
  have h1 := of_blt hn
  have h2 := H.sureG (fuel := n - 1) i hi hsel hfr hrd hti hQ hg hd hdN h next
  rwa [Nat.sub_add_cancel h1] at h2
theorem H.s1 {d n : Nat} {A : AV} (i : Nat) (hi : ops[i]? = some o) (hn : Nat.blt 0 n = true) (hsel : Region.noSelect ops = true) (hfr : Region.free .any ops listed i = true) (hrd : (Region.ready .any ops listed).contains i = true) (hti : tch ops i = false)
    (hQ : ∀ ch a a' w, Q (.panic ch) a' w → Q (.panic ch) a w) (hg : o.guard = none) (hd : o.dst = some d) (hdN : Nat.blt d c.N = true) (h : Sure P c σ1 F1 (rdOf rdf i) o A) (next : H P ops c ((d, A) :: σ1) F1 rdf (n - 1) (listed.setIfInBounds i true) ((d, A) :: σ) F Q) :
    H P ops c σ1 F1 rdf n listed σ F Q := by
  have h1 := of_blt hn
  have h2 := H.sure (fuel := n - 1) i hi hsel hfr hrd hti hQ hg hd hdN h next
  rwa [Nat.sub_add_cancel h1] at h2

end

end Go.Proofs.YtbogfmgfafdjiaaGreatDoor

/- The types of the program, as a short table. -/
namespace Go.Proofs.YtbogfmgfafdjiaaGreatDoor

def tt : Types := [
  (1, ⟨.func, 1, 8, [.nilFunc], false⟩),
  (2, ⟨.int .i64, 1, 8, [.int .i64 0], false⟩),
  (3, ⟨.int .i64, 1, 8, [.int .i64 0], false⟩),
  (4, ⟨.bool, 1, 1, [.bool false], false⟩),
  (5, ⟨.int .u8, 1, 1, [.int .u8 0], false⟩),
  (6, ⟨.int .u8, 1, 1, [.int .u8 0], false⟩),
  (7, ⟨.struct [(0, 2, 1), (1, 3, 1), (2, 4, 1), (3, 6, 1)], 4, 24, [.int .i64 0, .int .i64 0, .bool false, .int .u8 0], false⟩),
  (8, ⟨.struct [(0, 2, 1), (1, 3, 1), (2, 4, 1), (3, 6, 1)], 4, 24, [.int .i64 0, .int .i64 0, .bool false, .int .u8 0], false⟩),
  (9, ⟨.str, 1, 16, [.string ByteArray.empty], false⟩),
  (10, ⟨.str, 1, 16, [.string ByteArray.empty], false⟩),
  (11, ⟨.str, 1, 16, [.string ByteArray.empty], false⟩),
  (12, ⟨.int .u64, 1, 8, [.int .u64 0], false⟩),
  (13, ⟨.struct [(0, 9, 1), (1, 12, 1)], 2, 24, [.string ByteArray.empty, .int .u64 0], false⟩),
  (14, ⟨.struct [(0, 9, 1), (1, 12, 1)], 2, 24, [.string ByteArray.empty, .int .u64 0], false⟩),
  (15, ⟨.ptr 479, 1, 8, [.pointer none], false⟩),
  (16, ⟨.ptr 482, 1, 8, [.pointer none], false⟩),
  (17, ⟨.ptr 489, 1, 8, [.pointer none], false⟩),
  (18, ⟨.struct [(0, 17, 1)], 1, 8, [.pointer none], false⟩),
  (19, ⟨.struct [(0, 17, 1)], 1, 8, [.pointer none], false⟩),
  (21, ⟨.int .i32, 1, 4, [.int .i32 0], false⟩),
  (22, ⟨.int .u64, 1, 8, [.int .u64 0], false⟩),
  (23, ⟨.func, 1, 8, [.nilFunc], false⟩),
  (24, ⟨.func, 1, 8, [.nilFunc], false⟩),
  (25, ⟨.slice 45, 1, 24, [.slice none 0 0], false⟩),
  (26, ⟨.struct [(0, 3, 1), (1, 3, 1), (2, 25, 1)], 3, 40, [.int .i64 0, .int .i64 0, .slice none 0 0], false⟩),
  (27, ⟨.struct [(0, 3, 1), (1, 3, 1), (2, 25, 1)], 3, 40, [.int .i64 0, .int .i64 0, .slice none 0 0], false⟩),
  (28, ⟨.func, 1, 8, [.nilFunc], false⟩),
  (29, ⟨.func, 1, 8, [.nilFunc], false⟩),
  (30, ⟨.slice 9, 1, 24, [.slice none 0 0], false⟩),
  (31, ⟨.func, 1, 8, [.nilFunc], false⟩),
  (32, ⟨.struct [(0, 3, 1), (1, 3, 1), (2, 3, 1), (3, 3, 1), (4, 3, 1), (5, 3, 1), (6, 3, 1), (7, 3, 1), (8, 9, 1), (9, 9, 1)], 10, 96, [.int .i64 0, .int .i64 0, .int .i64 0, .int .i64 0, .int .i64 0, .int .i64 0, .int .i64 0, .int .i64 0, .string ByteArray.empty, .string ByteArray.empty], true⟩),
  (33, ⟨.struct [(0, 3, 1), (1, 3, 1), (2, 3, 1), (3, 3, 1), (4, 3, 1), (5, 3, 1), (6, 3, 1), (7, 3, 1), (8, 9, 1), (9, 9, 1)], 10, 96, [.int .i64 0, .int .i64 0, .int .i64 0, .int .i64 0, .int .i64 0, .int .i64 0, .int .i64 0, .int .i64 0, .string ByteArray.empty, .string ByteArray.empty], true⟩),
  (34, ⟨.ptr 78, 1, 8, [.pointer none], false⟩),
  (35, ⟨.func, 1, 8, [.nilFunc], false⟩),
  (36, ⟨.slice 72, 1, 24, [.slice none 0 0], false⟩),
  (37, ⟨.func, 1, 8, [.nilFunc], false⟩),
  (38, ⟨.slice 82, 1, 24, [.slice none 0 0], false⟩),
  (39, ⟨.func, 1, 8, [.nilFunc], false⟩),
  (40, ⟨.slice 125, 1, 24, [.slice none 0 0], false⟩),
  (41, ⟨.func, 1, 8, [.nilFunc], false⟩),
  (42, ⟨.func, 1, 8, [.nilFunc], false⟩),
  (43, ⟨.func, 1, 8, [.nilFunc], false⟩),
  (44, ⟨.func, 1, 8, [.nilFunc], false⟩),
  (45, ⟨.slice 3, 1, 24, [.slice none 0 0], false⟩),
  (46, ⟨.func, 1, 8, [.nilFunc], false⟩),
  (48, ⟨.func, 1, 8, [.nilFunc], false⟩),
  (49, ⟨.func, 1, 8, [.nilFunc], false⟩),
  (50, ⟨.ptr 52, 1, 8, [.pointer none], false⟩),
  (51, ⟨.struct [(0, 27, 3), (3, 34, 1)], 4, 48, [.int .i64 0, .int .i64 0, .slice none 0 0, .pointer none], false⟩),
  (52, ⟨.struct [(0, 27, 3), (3, 34, 1)], 4, 48, [.int .i64 0, .int .i64 0, .slice none 0 0, .pointer none], false⟩),
  (53, ⟨.ptr 56, 1, 8, [.pointer none], false⟩),
  (54, ⟨.slice 5, 1, 24, [.slice none 0 0], false⟩),
  (55, ⟨.struct [(0, 53, 1), (1, 54, 1)], 2, 32, [.pointer none, .slice none 0 0], false⟩),
  (56, ⟨.struct [(0, 53, 1), (1, 54, 1)], 2, 32, [.pointer none, .slice none 0 0], false⟩),
  (60, ⟨.func, 1, 8, [.nilFunc], false⟩),
  (61, ⟨.func, 1, 8, [.nilFunc], false⟩),
  (62, ⟨.func, 1, 8, [.nilFunc], false⟩),
  (63, ⟨.ptr 67, 1, 8, [.pointer none], false⟩),
  (64, ⟨.func, 1, 8, [.nilFunc], false⟩),
  (65, ⟨.ptr 166, 1, 8, [.pointer none], false⟩),
  (66, ⟨.struct [(0, 34, 1), (1, 27, 3), (4, 65, 1), (5, 3, 1), (6, 38, 1), (7, 3, 1)], 8, 96, [.pointer none, .int .i64 0, .int .i64 0, .slice none 0 0, .pointer none, .int .i64 0, .slice none 0 0, .int .i64 0], false⟩),
  (67, ⟨.struct [(0, 34, 1), (1, 27, 3), (4, 65, 1), (5, 3, 1), (6, 38, 1), (7, 3, 1)], 8, 96, [.pointer none, .int .i64 0, .int .i64 0, .slice none 0 0, .pointer none, .int .i64 0, .slice none 0 0, .int .i64 0], false⟩),
  (68, ⟨.func, 1, 8, [.nilFunc], false⟩),
  (69, ⟨.struct [(0, 3, 1), (1, 3, 1), (2, 9, 1), (3, 9, 1), (4, 4, 1)], 5, 56, [.int .i64 0, .int .i64 0, .string ByteArray.empty, .string ByteArray.empty, .bool false], true⟩),
  (70, ⟨.struct [(0, 3, 1), (1, 3, 1), (2, 9, 1), (3, 9, 1), (4, 4, 1)], 5, 56, [.int .i64 0, .int .i64 0, .string ByteArray.empty, .string ByteArray.empty, .bool false], true⟩),
  (71, ⟨.struct [(0, 3, 1), (1, 3, 1), (2, 3, 1), (3, 3, 1), (4, 3, 1), (5, 3, 1), (6, 9, 1), (7, 9, 1), (8, 3, 1), (9, 70, 5)], 14, 144, [.int .i64 0, .int .i64 0, .int .i64 0, .int .i64 0, .int .i64 0, .int .i64 0, .string ByteArray.empty, .string ByteArray.empty, .int .i64 0, .int .i64 0, .int .i64 0, .string ByteArray.empty, .string ByteArray.empty, .bool false], true⟩),
  (72, ⟨.struct [(0, 3, 1), (1, 3, 1), (2, 3, 1), (3, 3, 1), (4, 3, 1), (5, 3, 1), (6, 9, 1), (7, 9, 1), (8, 3, 1), (9, 70, 5)], 14, 144, [.int .i64 0, .int .i64 0, .int .i64 0, .int .i64 0, .int .i64 0, .int .i64 0, .string ByteArray.empty, .string ByteArray.empty, .int .i64 0, .int .i64 0, .int .i64 0, .string ByteArray.empty, .string ByteArray.empty, .bool false], true⟩),
  (73, ⟨.slice 99, 1, 24, [.slice none 0 0], false⟩),
  (74, ⟨.slice 54, 1, 24, [.slice none 0 0], false⟩),
  (75, ⟨.slice 129, 1, 24, [.slice none 0 0], false⟩),
  (76, ⟨.slice 128, 1, 24, [.slice none 0 0], false⟩),
  (77, ⟨.struct [(0, 73, 1), (1, 74, 1), (2, 75, 1), (3, 3, 1), (4, 76, 1), (5, 36, 1)], 6, 128, [.slice none 0 0, .slice none 0 0, .slice none 0 0, .int .i64 0, .slice none 0 0, .slice none 0 0], false⟩),
  (78, ⟨.struct [(0, 73, 1), (1, 74, 1), (2, 75, 1), (3, 3, 1), (4, 76, 1), (5, 36, 1)], 6, 128, [.slice none 0 0, .slice none 0 0, .slice none 0 0, .int .i64 0, .slice none 0 0, .slice none 0 0], false⟩),
  (79, ⟨.func, 1, 8, [.nilFunc], false⟩),
  (80, ⟨.slice 103, 1, 24, [.slice none 0 0], false⟩),
  (81, ⟨.struct [(0, 3, 1), (1, 80, 1), (2, 45, 1)], 3, 56, [.int .i64 0, .slice none 0 0, .slice none 0 0], false⟩),
  (82, ⟨.struct [(0, 3, 1), (1, 80, 1), (2, 45, 1)], 3, 56, [.int .i64 0, .slice none 0 0, .slice none 0 0], false⟩),
  (83, ⟨.ptr 246, 1, 8, [.pointer none], false⟩),
  (84, ⟨.map 108 116, 1, 8, [.map none], false⟩),
  (85, ⟨.array 4 82, 12, 224, [.int .i64 0, .slice none 0 0, .slice none 0 0, .int .i64 0, .slice none 0 0, .slice none 0 0, .int .i64 0, .slice none 0 0, .slice none 0 0, .int .i64 0, .slice none 0 0, .slice none 0 0], false⟩),
  (86, ⟨.array 4 3, 4, 32, [.int .i64 0, .int .i64 0, .int .i64 0, .int .i64 0], false⟩),
  (87, ⟨.map 274 3, 1, 8, [.map none], false⟩),
  (88, ⟨.struct [(0, 3, 1), (1, 3, 1), (2, 3, 1), (3, 3, 1), (4, 3, 1)], 5, 40, [.int .i64 0, .int .i64 0, .int .i64 0, .int .i64 0, .int .i64 0], true⟩),
  (89, ⟨.struct [(0, 3, 1), (1, 3, 1), (2, 3, 1), (3, 3, 1), (4, 3, 1)], 5, 40, [.int .i64 0, .int .i64 0, .int .i64 0, .int .i64 0, .int .i64 0], true⟩),
  (90, ⟨.array 4 89, 20, 160, [.int .i64 0, .int .i64 0, .int .i64 0, .int .i64 0, .int .i64 0, .int .i64 0, .int .i64 0, .int .i64 0, .int .i64 0, .int .i64 0, .int .i64 0, .int .i64 0, .int .i64 0, .int .i64 0, .int .i64 0, .int .i64 0, .int .i64 0, .int .i64 0, .int .i64 0, .int .i64 0], false⟩),
  (91, ⟨.ptr 113, 1, 8, [.pointer none], false⟩),
  (92, ⟨.slice 311, 1, 24, [.slice none 0 0], false⟩),
  (93, ⟨.array 4 4, 4, 4, [.bool false, .bool false, .bool false, .bool false], false⟩),
  (94, ⟨.struct [(0, 3, 1), (1, 3, 1), (2, 4, 1), (3, 3, 1), (4, 3, 1), (5, 3, 1), (6, 3, 1), (7, 82, 3), (10, 3, 1), (11, 3, 1), (12, 91, 1), (13, 92, 1), (14, 93, 4)], 18, 168, [.int .i64 0, .int .i64 0, .bool false, .int .i64 0, .int .i64 0, .int .i64 0, .int .i64 0, .int .i64 0, .slice none 0 0, .slice none 0 0, .int .i64 0, .int .i64 0, .pointer none, .slice none 0 0, .bool false, .bool false, .bool false, .bool false], false⟩),
  (95, ⟨.struct [(0, 3, 1), (1, 3, 1), (2, 4, 1), (3, 3, 1), (4, 3, 1), (5, 3, 1), (6, 3, 1), (7, 82, 3), (10, 3, 1), (11, 3, 1), (12, 91, 1), (13, 92, 1), (14, 93, 4)], 18, 168, [.int .i64 0, .int .i64 0, .bool false, .int .i64 0, .int .i64 0, .int .i64 0, .int .i64 0, .int .i64 0, .slice none 0 0, .slice none 0 0, .int .i64 0, .int .i64 0, .pointer none, .slice none 0 0, .bool false, .bool false, .bool false, .bool false], false⟩),
  (96, ⟨.array 4 95, 72, 672, [.int .i64 0, .int .i64 0, .bool false, .int .i64 0, .int .i64 0, .int .i64 0, .int .i64 0, .int .i64 0, .slice none 0 0, .slice none 0 0, .int .i64 0, .int .i64 0, .pointer none, .slice none 0 0, .bool false, .bool false, .bool false, .bool false, .int .i64 0, .int .i64 0, .bool false, .int .i64 0, .int .i64 0, .int .i64 0, .int .i64 0, .int .i64 0, .slice none 0 0, .slice none 0 0, .int .i64 0, .int .i64 0, .pointer none, .slice none 0 0, .bool false, .bool false, .bool false, .bool false, .int .i64 0, .int .i64 0, .bool false, .int .i64 0, .int .i64 0, .int .i64 0, .int .i64 0, .int .i64 0, .slice none 0 0, .slice none 0 0, .int .i64 0, .int .i64 0, .pointer none, .slice none 0 0, .bool false, .bool false, .bool false, .bool false, .int .i64 0, .int .i64 0, .bool false, .int .i64 0, .int .i64 0, .int .i64 0, .int .i64 0, .int .i64 0, .slice none 0 0, .slice none 0 0, .int .i64 0, .int .i64 0, .pointer none, .slice none 0 0, .bool false, .bool false, .bool false, .bool false], false⟩),
  (97, ⟨.struct [(0, 3, 1), (1, 4, 1), (2, 3, 1), (3, 83, 1), (4, 84, 1), (5, 85, 12), (17, 86, 4), (21, 87, 1), (22, 90, 20), (42, 96, 72)], 114, 1136, [.int .i64 0, .bool false, .int .i64 0, .pointer none, .map none, .int .i64 0, .slice none 0 0, .slice none 0 0, .int .i64 0, .slice none 0 0, .slice none 0 0, .int .i64 0, .slice none 0 0, .slice none 0 0, .int .i64 0, .slice none 0 0, .slice none 0 0, .int .i64 0, .int .i64 0, .int .i64 0, .int .i64 0, .map none, .int .i64 0, .int .i64 0, .int .i64 0, .int .i64 0, .int .i64 0, .int .i64 0, .int .i64 0, .int .i64 0, .int .i64 0, .int .i64 0, .int .i64 0, .int .i64 0, .int .i64 0, .int .i64 0, .int .i64 0, .int .i64 0, .int .i64 0, .int .i64 0, .int .i64 0, .int .i64 0, .int .i64 0, .int .i64 0, .bool false, .int .i64 0, .int .i64 0, .int .i64 0, .int .i64 0, .int .i64 0, .slice none 0 0, .slice none 0 0, .int .i64 0, .int .i64 0, .pointer none, .slice none 0 0, .bool false, .bool false, .bool false, .bool false, .int .i64 0, .int .i64 0, .bool false, .int .i64 0, .int .i64 0, .int .i64 0, .int .i64 0, .int .i64 0, .slice none 0 0, .slice none 0 0, .int .i64 0, .int .i64 0, .pointer none, .slice none 0 0, .bool false, .bool false, .bool false, .bool false, .int .i64 0, .int .i64 0, .bool false, .int .i64 0, .int .i64 0, .int .i64 0, .int .i64 0, .int .i64 0, .slice none 0 0, .slice none 0 0, .int .i64 0, .int .i64 0, .pointer none, .slice none 0 0, .bool false, .bool false, .bool false, .bool false, .int .i64 0, .int .i64 0, .bool false, .int .i64 0, .int .i64 0, .int .i64 0, .int .i64 0, .int .i64 0, .slice none 0 0, .slice none 0 0, .int .i64 0, .int .i64 0, .pointer none, .slice none 0 0, .bool false, .bool false, .bool false, .bool false], false⟩),
  (98, ⟨.struct [(0, 3, 1), (1, 4, 1), (2, 3, 1), (3, 83, 1), (4, 84, 1), (5, 85, 12), (17, 86, 4), (21, 87, 1), (22, 90, 20), (42, 96, 72)], 114, 1136, [.int .i64 0, .bool false, .int .i64 0, .pointer none, .map none, .int .i64 0, .slice none 0 0, .slice none 0 0, .int .i64 0, .slice none 0 0, .slice none 0 0, .int .i64 0, .slice none 0 0, .slice none 0 0, .int .i64 0, .slice none 0 0, .slice none 0 0, .int .i64 0, .int .i64 0, .int .i64 0, .int .i64 0, .map none, .int .i64 0, .int .i64 0, .int .i64 0, .int .i64 0, .int .i64 0, .int .i64 0, .int .i64 0, .int .i64 0, .int .i64 0, .int .i64 0, .int .i64 0, .int .i64 0, .int .i64 0, .int .i64 0, .int .i64 0, .int .i64 0, .int .i64 0, .int .i64 0, .int .i64 0, .int .i64 0, .int .i64 0, .int .i64 0, .bool false, .int .i64 0, .int .i64 0, .int .i64 0, .int .i64 0, .int .i64 0, .slice none 0 0, .slice none 0 0, .int .i64 0, .int .i64 0, .pointer none, .slice none 0 0, .bool false, .bool false, .bool false, .bool false, .int .i64 0, .int .i64 0, .bool false, .int .i64 0, .int .i64 0, .int .i64 0, .int .i64 0, .int .i64 0, .slice none 0 0, .slice none 0 0, .int .i64 0, .int .i64 0, .pointer none, .slice none 0 0, .bool false, .bool false, .bool false, .bool false, .int .i64 0, .int .i64 0, .bool false, .int .i64 0, .int .i64 0, .int .i64 0, .int .i64 0, .int .i64 0, .slice none 0 0, .slice none 0 0, .int .i64 0, .int .i64 0, .pointer none, .slice none 0 0, .bool false, .bool false, .bool false, .bool false, .int .i64 0, .int .i64 0, .bool false, .int .i64 0, .int .i64 0, .int .i64 0, .int .i64 0, .int .i64 0, .slice none 0 0, .slice none 0 0, .int .i64 0, .int .i64 0, .pointer none, .slice none 0 0, .bool false, .bool false, .bool false, .bool false], false⟩),
  (99, ⟨.ptr 98, 1, 8, [.pointer none], false⟩),
  (100, ⟨.func, 1, 8, [.nilFunc], false⟩),
  (101, ⟨.int .u32, 1, 4, [.int .u32 0], false⟩),
  (102, ⟨.struct [(0, 101, 1), (1, 3, 1)], 2, 16, [.int .u32 0, .int .i64 0], true⟩),
  (103, ⟨.struct [(0, 101, 1), (1, 3, 1)], 2, 16, [.int .u32 0, .int .i64 0], true⟩),
  (104, ⟨.func, 1, 8, [.nilFunc], false⟩),
  (105, ⟨.slice 108, 1, 24, [.slice none 0 0], false⟩),
  (106, ⟨.func, 1, 8, [.nilFunc], false⟩),
  (107, ⟨.struct [(0, 3, 1), (1, 3, 1)], 2, 16, [.int .i64 0, .int .i64 0], true⟩),
  (108, ⟨.struct [(0, 3, 1), (1, 3, 1)], 2, 16, [.int .i64 0, .int .i64 0], true⟩),
  (109, ⟨.slice 70, 1, 24, [.slice none 0 0], false⟩),
  (110, ⟨.slice 120, 1, 24, [.slice none 0 0], false⟩),
  (111, ⟨.slice 123, 1, 24, [.slice none 0 0], false⟩),
  (112, ⟨.struct [(0, 4, 1), (1, 3, 1), (2, 109, 1), (3, 110, 1), (4, 111, 1)], 5, 88, [.bool false, .int .i64 0, .slice none 0 0, .slice none 0 0, .slice none 0 0], false⟩),
  (113, ⟨.struct [(0, 4, 1), (1, 3, 1), (2, 109, 1), (3, 110, 1), (4, 111, 1)], 5, 88, [.bool false, .int .i64 0, .slice none 0 0, .slice none 0 0, .slice none 0 0], false⟩),
  (114, ⟨.struct [(0, 3, 1), (1, 113, 5)], 6, 96, [.int .i64 0, .bool false, .int .i64 0, .slice none 0 0, .slice none 0 0, .slice none 0 0], false⟩),
  (115, ⟨.struct [(0, 3, 1), (1, 113, 5)], 6, 96, [.int .i64 0, .bool false, .int .i64 0, .slice none 0 0, .slice none 0 0, .slice none 0 0], false⟩),
  (116, ⟨.ptr 115, 1, 8, [.pointer none], false⟩),
  (117, ⟨.func, 1, 8, [.nilFunc], false⟩),
  (118, ⟨.func, 1, 8, [.nilFunc], false⟩),
  (119, ⟨.struct [(0, 3, 1), (1, 70, 5)], 6, 64, [.int .i64 0, .int .i64 0, .int .i64 0, .string ByteArray.empty, .string ByteArray.empty, .bool false], true⟩),
  (120, ⟨.struct [(0, 3, 1), (1, 70, 5)], 6, 64, [.int .i64 0, .int .i64 0, .int .i64 0, .string ByteArray.empty, .string ByteArray.empty, .bool false], true⟩),
  (121, ⟨.func, 1, 8, [.nilFunc], false⟩),
  (122, ⟨.struct [(0, 3, 1), (1, 9, 1), (2, 3, 1)], 3, 32, [.int .i64 0, .string ByteArray.empty, .int .i64 0], true⟩),
  (123, ⟨.struct [(0, 3, 1), (1, 9, 1), (2, 3, 1)], 3, 32, [.int .i64 0, .string ByteArray.empty, .int .i64 0], true⟩),
  (124, ⟨.struct [(0, 3, 1), (1, 3, 1), (2, 3, 1), (3, 113, 5)], 8, 112, [.int .i64 0, .int .i64 0, .int .i64 0, .bool false, .int .i64 0, .slice none 0 0, .slice none 0 0, .slice none 0 0], false⟩),
  (125, ⟨.struct [(0, 3, 1), (1, 3, 1), (2, 3, 1), (3, 113, 5)], 8, 112, [.int .i64 0, .int .i64 0, .int .i64 0, .bool false, .int .i64 0, .slice none 0 0, .slice none 0 0, .slice none 0 0], false⟩),
  (126, ⟨.ptr 95, 1, 8, [.pointer none], false⟩),
  (127, ⟨.struct [(0, 3, 1), (1, 3, 1), (2, 3, 1), (3, 108, 2), (5, 3, 1), (6, 3, 1), (7, 3, 1), (8, 3, 1), (9, 4, 1), (10, 109, 1), (11, 70, 5), (16, 126, 1), (17, 82, 3), (20, 113, 5), (25, 92, 1)], 26, 336, [.int .i64 0, .int .i64 0, .int .i64 0, .int .i64 0, .int .i64 0, .int .i64 0, .int .i64 0, .int .i64 0, .int .i64 0, .bool false, .slice none 0 0, .int .i64 0, .int .i64 0, .string ByteArray.empty, .string ByteArray.empty, .bool false, .pointer none, .int .i64 0, .slice none 0 0, .slice none 0 0, .bool false, .int .i64 0, .slice none 0 0, .slice none 0 0, .slice none 0 0, .slice none 0 0], false⟩),
  (128, ⟨.struct [(0, 3, 1), (1, 3, 1), (2, 3, 1), (3, 108, 2), (5, 3, 1), (6, 3, 1), (7, 3, 1), (8, 3, 1), (9, 4, 1), (10, 109, 1), (11, 70, 5), (16, 126, 1), (17, 82, 3), (20, 113, 5), (25, 92, 1)], 26, 336, [.int .i64 0, .int .i64 0, .int .i64 0, .int .i64 0, .int .i64 0, .int .i64 0, .int .i64 0, .int .i64 0, .int .i64 0, .bool false, .slice none 0 0, .int .i64 0, .int .i64 0, .string ByteArray.empty, .string ByteArray.empty, .bool false, .pointer none, .int .i64 0, .slice none 0 0, .slice none 0 0, .bool false, .int .i64 0, .slice none 0 0, .slice none 0 0, .slice none 0 0, .slice none 0 0], false⟩),
  (129, ⟨.ptr 140, 1, 8, [.pointer none], false⟩),
  (130, ⟨.func, 1, 8, [.nilFunc], false⟩),
  (131, ⟨.ptr 185, 1, 8, [.pointer none], false⟩),
  (132, ⟨.map 226 3, 1, 8, [.map none], false⟩),
  (133, ⟨.map 3 4, 1, 8, [.map none], false⟩),
  (134, ⟨.struct [(0, 4, 1), (1, 3, 1), (2, 133, 1), (3, 4, 1), (4, 4, 1), (5, 3, 1), (6, 108, 2), (8, 3, 1), (9, 3, 1)], 10, 72, [.bool false, .int .i64 0, .map none, .bool false, .bool false, .int .i64 0, .int .i64 0, .int .i64 0, .int .i64 0, .int .i64 0], false⟩),
  (135, ⟨.struct [(0, 4, 1), (1, 3, 1), (2, 133, 1), (3, 4, 1), (4, 4, 1), (5, 3, 1), (6, 108, 2), (8, 3, 1), (9, 3, 1)], 10, 72, [.bool false, .int .i64 0, .map none, .bool false, .bool false, .int .i64 0, .int .i64 0, .int .i64 0, .int .i64 0, .int .i64 0], false⟩),
  (136, ⟨.map 3 170, 1, 8, [.map none], false⟩),
  (137, ⟨.slice 173, 1, 24, [.slice none 0 0], false⟩),
  (138, ⟨.cplx .f64, 1, 16, [.complex .f64 0 0], false⟩),
  (139, ⟨.struct [(0, 3, 1), (1, 38, 1), (2, 93, 4), (6, 131, 1), (7, 132, 1), (8, 135, 10), (18, 136, 1), (19, 137, 1), (20, 3, 1), (21, 138, 1)], 22, 184, [.int .i64 0, .slice none 0 0, .bool false, .bool false, .bool false, .bool false, .pointer none, .map none, .bool false, .int .i64 0, .map none, .bool false, .bool false, .int .i64 0, .int .i64 0, .int .i64 0, .int .i64 0, .int .i64 0, .map none, .slice none 0 0, .int .i64 0, .complex .f64 0 0], false⟩),
  (140, ⟨.struct [(0, 3, 1), (1, 38, 1), (2, 93, 4), (6, 131, 1), (7, 132, 1), (8, 135, 10), (18, 136, 1), (19, 137, 1), (20, 3, 1), (21, 138, 1)], 22, 184, [.int .i64 0, .slice none 0 0, .bool false, .bool false, .bool false, .bool false, .pointer none, .map none, .bool false, .int .i64 0, .map none, .bool false, .bool false, .int .i64 0, .int .i64 0, .int .i64 0, .int .i64 0, .int .i64 0, .map none, .slice none 0 0, .int .i64 0, .complex .f64 0 0], false⟩),
  (141, ⟨.func, 1, 8, [.nilFunc], false⟩),
  (143, ⟨.func, 1, 8, [.nilFunc], false⟩),
  (144, ⟨.func, 1, 8, [.nilFunc], false⟩),
  (145, ⟨.func, 1, 8, [.nilFunc], false⟩),
  (146, ⟨.func, 1, 8, [.nilFunc], false⟩),
  (147, ⟨.func, 1, 8, [.nilFunc], false⟩),
  (148, ⟨.func, 1, 8, [.nilFunc], false⟩),
  (149, ⟨.func, 1, 8, [.nilFunc], false⟩),
  (150, ⟨.func, 1, 8, [.nilFunc], false⟩),
  (152, ⟨.func, 1, 8, [.nilFunc], false⟩),
  (153, ⟨.func, 1, 8, [.nilFunc], false⟩),
  (154, ⟨.func, 1, 8, [.nilFunc], false⟩),
  (156, ⟨.func, 1, 8, [.nilFunc], false⟩),
  (157, ⟨.func, 1, 8, [.nilFunc], false⟩),
  (159, ⟨.func, 1, 8, [.nilFunc], false⟩),
  (160, ⟨.func, 1, 8, [.nilFunc], false⟩),
  (161, ⟨.ptr 5, 1, 8, [.pointer none], false⟩),
  (162, ⟨.slice 218, 1, 24, [.slice none 0 0], false⟩),
  (163, ⟨.slice 216, 1, 24, [.slice none 0 0], false⟩),
  (164, ⟨.slice 213, 1, 24, [.slice none 0 0], false⟩),
  (165, ⟨.struct [(0, 36, 1), (1, 162, 1), (2, 163, 1), (3, 86, 4), (7, 164, 1)], 8, 128, [.slice none 0 0, .slice none 0 0, .slice none 0 0, .int .i64 0, .int .i64 0, .int .i64 0, .int .i64 0, .slice none 0 0], false⟩),
  (166, ⟨.struct [(0, 36, 1), (1, 162, 1), (2, 163, 1), (3, 86, 4), (7, 164, 1)], 8, 128, [.slice none 0 0, .slice none 0 0, .slice none 0 0, .int .i64 0, .int .i64 0, .int .i64 0, .int .i64 0, .slice none 0 0], false⟩),
  (167, ⟨.func, 1, 8, [.nilFunc], false⟩),
  (168, ⟨.func, 1, 8, [.nilFunc], false⟩),
  (169, ⟨.struct [(0, 3, 1), (1, 108, 2), (3, 3, 1), (4, 3, 1), (5, 70, 5)], 10, 96, [.int .i64 0, .int .i64 0, .int .i64 0, .int .i64 0, .int .i64 0, .int .i64 0, .int .i64 0, .string ByteArray.empty, .string ByteArray.empty, .bool false], true⟩),
  (170, ⟨.struct [(0, 3, 1), (1, 108, 2), (3, 3, 1), (4, 3, 1), (5, 70, 5)], 10, 96, [.int .i64 0, .int .i64 0, .int .i64 0, .int .i64 0, .int .i64 0, .int .i64 0, .int .i64 0, .string ByteArray.empty, .string ByteArray.empty, .bool false], true⟩),
  (172, ⟨.struct [(0, 170, 10), (10, 3, 1), (11, 4, 1), (12, 3, 1)], 13, 120, [.int .i64 0, .int .i64 0, .int .i64 0, .int .i64 0, .int .i64 0, .int .i64 0, .int .i64 0, .string ByteArray.empty, .string ByteArray.empty, .bool false, .int .i64 0, .bool false, .int .i64 0], true⟩),
  (173, ⟨.struct [(0, 170, 10), (10, 3, 1), (11, 4, 1), (12, 3, 1)], 13, 120, [.int .i64 0, .int .i64 0, .int .i64 0, .int .i64 0, .int .i64 0, .int .i64 0, .int .i64 0, .string ByteArray.empty, .string ByteArray.empty, .bool false, .int .i64 0, .bool false, .int .i64 0], true⟩),
  (175, ⟨.func, 1, 8, [.nilFunc], false⟩),
  (176, ⟨.func, 1, 8, [.nilFunc], false⟩),
  (177, ⟨.func, 1, 8, [.nilFunc], false⟩),
  (178, ⟨.func, 1, 8, [.nilFunc], false⟩),
  (179, ⟨.func, 1, 8, [.nilFunc], false⟩),
  (180, ⟨.func, 1, 8, [.nilFunc], false⟩),
  (181, ⟨.func, 1, 8, [.nilFunc], false⟩),
  (182, ⟨.map 220 3, 1, 8, [.map none], false⟩),
  (183, ⟨.slice 223, 1, 24, [.slice none 0 0], false⟩),
  (184, ⟨.struct [(0, 3, 1), (1, 182, 1), (2, 183, 1)], 3, 40, [.int .i64 0, .map none, .slice none 0 0], false⟩),
  (185, ⟨.struct [(0, 3, 1), (1, 182, 1), (2, 183, 1)], 3, 40, [.int .i64 0, .map none, .slice none 0 0], false⟩),
  (186, ⟨.func, 1, 8, [.nilFunc], false⟩),
  (188, ⟨.func, 1, 8, [.nilFunc], false⟩),
  (189, ⟨.func, 1, 8, [.nilFunc], false⟩),
  (191, ⟨.func, 1, 8, [.nilFunc], false⟩),
  (192, ⟨.func, 1, 8, [.nilFunc], false⟩),
  (193, ⟨.func, 1, 8, [.nilFunc], false⟩),
  (195, ⟨.func, 1, 8, [.nilFunc], false⟩),
  (196, ⟨.func, 1, 8, [.nilFunc], false⟩),
  (197, ⟨.func, 1, 8, [.nilFunc], false⟩),
  (198, ⟨.func, 1, 8, [.nilFunc], false⟩),
  (199, ⟨.func, 1, 8, [.nilFunc], false⟩),
  (201, ⟨.func, 1, 8, [.nilFunc], false⟩),
  (202, ⟨.func, 1, 8, [.nilFunc], false⟩),
  (203, ⟨.func, 1, 8, [.nilFunc], false⟩),
  (204, ⟨.func, 1, 8, [.nilFunc], false⟩),
  (205, ⟨.func, 1, 8, [.nilFunc], false⟩),
  (206, ⟨.map 9 3, 1, 8, [.map none], false⟩),
  (207, ⟨.func, 1, 8, [.nilFunc], false⟩),
  (208, ⟨.func, 1, 8, [.nilFunc], false⟩),
  (209, ⟨.func, 1, 8, [.nilFunc], false⟩),
  (210, ⟨.func, 1, 8, [.nilFunc], false⟩),
  (211, ⟨.func, 1, 8, [.nilFunc], false⟩),
  (212, ⟨.struct [(0, 3, 1), (1, 3, 1), (2, 3, 1), (3, 3, 1), (4, 3, 1)], 5, 40, [.int .i64 0, .int .i64 0, .int .i64 0, .int .i64 0, .int .i64 0], true⟩),
  (213, ⟨.struct [(0, 3, 1), (1, 3, 1), (2, 3, 1), (3, 3, 1), (4, 3, 1)], 5, 40, [.int .i64 0, .int .i64 0, .int .i64 0, .int .i64 0, .int .i64 0], true⟩),
  (214, ⟨.slice 4, 1, 24, [.slice none 0 0], false⟩),
  (215, ⟨.struct [(0, 3, 1), (1, 3, 1), (2, 70, 5), (7, 4, 1), (8, 4, 1), (9, 4, 1), (10, 4, 1)], 11, 80, [.int .i64 0, .int .i64 0, .int .i64 0, .int .i64 0, .string ByteArray.empty, .string ByteArray.empty, .bool false, .bool false, .bool false, .bool false, .bool false], true⟩),
  (216, ⟨.struct [(0, 3, 1), (1, 3, 1), (2, 70, 5), (7, 4, 1), (8, 4, 1), (9, 4, 1), (10, 4, 1)], 11, 80, [.int .i64 0, .int .i64 0, .int .i64 0, .int .i64 0, .string ByteArray.empty, .string ByteArray.empty, .bool false, .bool false, .bool false, .bool false, .bool false], true⟩),
  (217, ⟨.struct [(0, 3, 1), (1, 3, 1), (2, 9, 1), (3, 3, 1), (4, 3, 1), (5, 3, 1)], 6, 56, [.int .i64 0, .int .i64 0, .string ByteArray.empty, .int .i64 0, .int .i64 0, .int .i64 0], true⟩),
  (218, ⟨.struct [(0, 3, 1), (1, 3, 1), (2, 9, 1), (3, 3, 1), (4, 3, 1), (5, 3, 1)], 6, 56, [.int .i64 0, .int .i64 0, .string ByteArray.empty, .int .i64 0, .int .i64 0, .int .i64 0], true⟩),
  (219, ⟨.struct [(0, 3, 1), (1, 9, 1)], 2, 24, [.int .i64 0, .string ByteArray.empty], true⟩),
  (220, ⟨.struct [(0, 3, 1), (1, 9, 1)], 2, 24, [.int .i64 0, .string ByteArray.empty], true⟩),
  (221, ⟨.func, 1, 8, [.nilFunc], false⟩),
  (222, ⟨.struct [(0, 3, 1), (1, 109, 1)], 2, 32, [.int .i64 0, .slice none 0 0], false⟩),
  (223, ⟨.struct [(0, 3, 1), (1, 109, 1)], 2, 32, [.int .i64 0, .slice none 0 0], false⟩),
  (224, ⟨.func, 1, 8, [.nilFunc], false⟩),
  (225, ⟨.struct [(0, 3, 1), (1, 9, 1), (2, 3, 1)], 3, 32, [.int .i64 0, .string ByteArray.empty, .int .i64 0], true⟩),
  (226, ⟨.struct [(0, 3, 1), (1, 9, 1), (2, 3, 1)], 3, 32, [.int .i64 0, .string ByteArray.empty, .int .i64 0], true⟩),
  (227, ⟨.ptr 173, 1, 8, [.pointer none], false⟩),
  (229, ⟨.func, 1, 8, [.nilFunc], false⟩),
  (230, ⟨.func, 1, 8, [.nilFunc], false⟩),
  (231, ⟨.func, 1, 8, [.nilFunc], false⟩),
  (232, ⟨.func, 1, 8, [.nilFunc], false⟩),
  (233, ⟨.func, 1, 8, [.nilFunc], false⟩),
  (234, ⟨.map 3 3, 1, 8, [.map none], false⟩),
  (235, ⟨.func, 1, 8, [.nilFunc], false⟩),
  (236, ⟨.func, 1, 8, [.nilFunc], false⟩),
  (237, ⟨.func, 1, 8, [.nilFunc], false⟩),
  (239, ⟨.func, 1, 8, [.nilFunc], false⟩),
  (241, ⟨.func, 1, 8, [.nilFunc], false⟩),
  (242, ⟨.func, 1, 8, [.nilFunc], false⟩),
  (243, ⟨.func, 1, 8, [.nilFunc], false⟩),
  (244, ⟨.ptr 128, 1, 8, [.pointer none], false⟩),
  (245, ⟨.struct [(0, 54, 1), (1, 54, 1), (2, 4, 1)], 3, 56, [.slice none 0 0, .slice none 0 0, .bool false], false⟩),
  (246, ⟨.struct [(0, 54, 1), (1, 54, 1), (2, 4, 1)], 3, 56, [.slice none 0 0, .slice none 0 0, .bool false], false⟩),
  (247, ⟨.func, 1, 8, [.nilFunc], false⟩),
  (248, ⟨.func, 1, 8, [.nilFunc], false⟩),
  (249, ⟨.func, 1, 8, [.nilFunc], false⟩),
  (250, ⟨.func, 1, 8, [.nilFunc], false⟩),
  (251, ⟨.func, 1, 8, [.nilFunc], false⟩),
  (252, ⟨.func, 1, 8, [.nilFunc], false⟩),
  (253, ⟨.func, 1, 8, [.nilFunc], false⟩),
  (254, ⟨.func, 1, 8, [.nilFunc], false⟩),
  (255, ⟨.func, 1, 8, [.nilFunc], false⟩),
  (256, ⟨.func, 1, 8, [.nilFunc], false⟩),
  (257, ⟨.func, 1, 8, [.nilFunc], false⟩),
  (258, ⟨.func, 1, 8, [.nilFunc], false⟩),
  (259, ⟨.func, 1, 8, [.nilFunc], false⟩),
  (261, ⟨.func, 1, 8, [.nilFunc], false⟩),
  (262, ⟨.func, 1, 8, [.nilFunc], false⟩),
  (264, ⟨.func, 1, 8, [.nilFunc], false⟩),
  (265, ⟨.struct [(0, 3, 1), (1, 3, 1), (2, 4, 1), (3, 109, 1), (4, 113, 5)], 9, 136, [.int .i64 0, .int .i64 0, .bool false, .slice none 0 0, .bool false, .int .i64 0, .slice none 0 0, .slice none 0 0, .slice none 0 0], false⟩),
  (266, ⟨.struct [(0, 3, 1), (1, 3, 1), (2, 4, 1), (3, 109, 1), (4, 113, 5)], 9, 136, [.int .i64 0, .int .i64 0, .bool false, .slice none 0 0, .bool false, .int .i64 0, .slice none 0 0, .slice none 0 0, .slice none 0 0], false⟩),
  (268, ⟨.func, 1, 8, [.nilFunc], false⟩),
  (269, ⟨.func, 1, 8, [.nilFunc], false⟩),
  (271, ⟨.func, 1, 8, [.nilFunc], false⟩),
  (272, ⟨.func, 1, 8, [.nilFunc], false⟩),
  (273, ⟨.struct [(0, 3, 1), (1, 3, 1), (2, 9, 1)], 3, 32, [.int .i64 0, .int .i64 0, .string ByteArray.empty], true⟩),
  (274, ⟨.struct [(0, 3, 1), (1, 3, 1), (2, 9, 1)], 3, 32, [.int .i64 0, .int .i64 0, .string ByteArray.empty], true⟩),
  (275, ⟨.func, 1, 8, [.nilFunc], false⟩),
  (276, ⟨.func, 1, 8, [.nilFunc], false⟩),
  (277, ⟨.int .u64, 1, 8, [.int .u64 0], false⟩),
  (279, ⟨.func, 1, 8, [.nilFunc], false⟩),
  (280, ⟨.func, 1, 8, [.nilFunc], false⟩),
  (281, ⟨.func, 1, 8, [.nilFunc], false⟩),
  (282, ⟨.array 256 4, 256, 256, List.replicate 256 (.bool false), false⟩),
  (283, ⟨.array 256 4, 256, 256, List.replicate 256 (.bool false), false⟩),
  (285, ⟨.func, 1, 8, [.nilFunc], false⟩),
  (286, ⟨.func, 1, 8, [.nilFunc], false⟩),
  (287, ⟨.ptr 283, 1, 8, [.pointer none], false⟩),
  (288, ⟨.func, 1, 8, [.nilFunc], false⟩),
  (289, ⟨.func, 1, 8, [.nilFunc], false⟩),
  (290, ⟨.func, 1, 8, [.nilFunc], false⟩),
  (291, ⟨.ptr 366, 1, 8, [.pointer none], false⟩),
  (292, ⟨.func, 1, 8, [.nilFunc], false⟩),
  (293, ⟨.func, 1, 8, [.nilFunc], false⟩),
  (294, ⟨.func, 1, 8, [.nilFunc], false⟩),
  (295, ⟨.func, 1, 8, [.nilFunc], false⟩),
  (296, ⟨.func, 1, 8, [.nilFunc], false⟩),
  (297, ⟨.func, 1, 8, [.nilFunc], false⟩),
  (298, ⟨.func, 1, 8, [.nilFunc], false⟩),
  (299, ⟨.ptr 135, 1, 8, [.pointer none], false⟩),
  (300, ⟨.func, 1, 8, [.nilFunc], false⟩),
  (301, ⟨.func, 1, 8, [.nilFunc], false⟩),
  (302, ⟨.func, 1, 8, [.nilFunc], false⟩),
  (303, ⟨.struct [(0, 3, 1), (1, 3, 1)], 2, 16, [.int .i64 0, .int .i64 0], true⟩),
  (304, ⟨.struct [(0, 3, 1), (1, 3, 1)], 2, 16, [.int .i64 0, .int .i64 0], true⟩),
  (305, ⟨.func, 1, 8, [.nilFunc], false⟩),
  (306, ⟨.func, 1, 8, [.nilFunc], false⟩),
  (307, ⟨.func, 1, 8, [.nilFunc], false⟩),
  (308, ⟨.func, 1, 8, [.nilFunc], false⟩),
  (309, ⟨.func, 1, 8, [.nilFunc], false⟩),
  (310, ⟨.struct [(0, 274, 3), (3, 3, 1)], 4, 40, [.int .i64 0, .int .i64 0, .string ByteArray.empty, .int .i64 0], true⟩),
  (311, ⟨.struct [(0, 274, 3), (3, 3, 1)], 4, 40, [.int .i64 0, .int .i64 0, .string ByteArray.empty, .int .i64 0], true⟩),
  (313, ⟨.func, 1, 8, [.nilFunc], false⟩),
  (314, ⟨.func, 1, 8, [.nilFunc], false⟩),
  (315, ⟨.func, 1, 8, [.nilFunc], false⟩),
  (316, ⟨.func, 1, 8, [.nilFunc], false⟩),
  (317, ⟨.func, 1, 8, [.nilFunc], false⟩),
  (318, ⟨.func, 1, 8, [.nilFunc], false⟩),
  (319, ⟨.func, 1, 8, [.nilFunc], false⟩),
  (320, ⟨.func, 1, 8, [.nilFunc], false⟩),
  (321, ⟨.func, 1, 8, [.nilFunc], false⟩),
  (322, ⟨.int .i64, 1, 8, [.int .i64 0], false⟩),
  (324, ⟨.func, 1, 8, [.nilFunc], false⟩),
  (325, ⟨.func, 1, 8, [.nilFunc], false⟩),
  (326, ⟨.func, 1, 8, [.nilFunc], false⟩),
  (328, ⟨.func, 1, 8, [.nilFunc], false⟩),
  (329, ⟨.func, 1, 8, [.nilFunc], false⟩),
  (330, ⟨.func, 1, 8, [.nilFunc], false⟩),
  (331, ⟨.func, 1, 8, [.nilFunc], false⟩),
  (332, ⟨.func, 1, 8, [.nilFunc], false⟩),
  (333, ⟨.func, 1, 8, [.nilFunc], false⟩),
  (334, ⟨.func, 1, 8, [.nilFunc], false⟩),
  (336, ⟨.func, 1, 8, [.nilFunc], false⟩),
  (337, ⟨.ptr 339, 1, 8, [.pointer none], false⟩),
  (338, ⟨.struct [(0, 54, 1), (1, 4, 1)], 2, 32, [.slice none 0 0, .bool false], false⟩),
  (339, ⟨.struct [(0, 54, 1), (1, 4, 1)], 2, 32, [.slice none 0 0, .bool false], false⟩),
  (340, ⟨.func, 1, 8, [.nilFunc], false⟩),
  (341, ⟨.func, 1, 8, [.nilFunc], false⟩),
  (342, ⟨.func, 1, 8, [.nilFunc], false⟩),
  (343, ⟨.func, 1, 8, [.nilFunc], false⟩),
  (344, ⟨.func, 1, 8, [.nilFunc], false⟩),
  (345, ⟨.func, 1, 8, [.nilFunc], false⟩),
  (346, ⟨.func, 1, 8, [.nilFunc], false⟩),
  (347, ⟨.func, 1, 8, [.nilFunc], false⟩),
  (348, ⟨.func, 1, 8, [.nilFunc], false⟩),
  (349, ⟨.func, 1, 8, [.nilFunc], false⟩),
  (350, ⟨.int .i64, 1, 8, [.int .i64 0], false⟩),
  (352, ⟨.func, 1, 8, [.nilFunc], false⟩),
  (353, ⟨.ptr 419, 1, 8, [.pointer none], false⟩),
  (354, ⟨.func, 1, 8, [.nilFunc], false⟩),
  (355, ⟨.func, 1, 8, [.nilFunc], false⟩),
  (356, ⟨.array 24 5, 24, 24, [.int .u8 0, .int .u8 0, .int .u8 0, .int .u8 0, .int .u8 0, .int .u8 0, .int .u8 0, .int .u8 0, .int .u8 0, .int .u8 0, .int .u8 0, .int .u8 0, .int .u8 0, .int .u8 0, .int .u8 0, .int .u8 0, .int .u8 0, .int .u8 0, .int .u8 0, .int .u8 0, .int .u8 0, .int .u8 0, .int .u8 0, .int .u8 0], false⟩),
  (357, ⟨.func, 1, 8, [.nilFunc], false⟩),
  (359, ⟨.func, 1, 8, [.nilFunc], false⟩),
  (360, ⟨.map 453 457, 1, 8, [.map none], false⟩),
  (361, ⟨.map 453 364, 1, 8, [.map none], false⟩),
  (362, ⟨.map 462 4, 1, 8, [.map none], false⟩),
  (363, ⟨.map 464 458, 1, 8, [.map none], false⟩),
  (364, ⟨.slice 458, 1, 24, [.slice none 0 0], false⟩),
  (365, ⟨.struct [(0, 360, 1), (1, 361, 1), (2, 364, 1), (3, 362, 1), (4, 363, 1), (5, 363, 1), (6, 86, 4)], 10, 96, [.map none, .map none, .slice none 0 0, .map none, .map none, .map none, .int .i64 0, .int .i64 0, .int .i64 0, .int .i64 0], false⟩),
  (366, ⟨.struct [(0, 360, 1), (1, 361, 1), (2, 364, 1), (3, 362, 1), (4, 363, 1), (5, 363, 1), (6, 86, 4)], 10, 96, [.map none, .map none, .slice none 0 0, .map none, .map none, .map none, .int .i64 0, .int .i64 0, .int .i64 0, .int .i64 0], false⟩),
  (367, ⟨.func, 1, 8, [.nilFunc], false⟩),
  (368, ⟨.map 220 4, 1, 8, [.map none], false⟩),
  (369, ⟨.float .f64, 1, 8, [.float .f64 0], false⟩),
  (370, ⟨.func, 1, 8, [.nilFunc], false⟩),
  (371, ⟨.func, 1, 8, [.nilFunc], false⟩),
  (372, ⟨.func, 1, 8, [.nilFunc], false⟩),
  (373, ⟨.func, 1, 8, [.nilFunc], false⟩),
  (374, ⟨.func, 1, 8, [.nilFunc], false⟩),
  (375, ⟨.func, 1, 8, [.nilFunc], false⟩),
  (376, ⟨.func, 1, 8, [.nilFunc], false⟩),
  (377, ⟨.func, 1, 8, [.nilFunc], false⟩),
  (378, ⟨.map 9 4, 1, 8, [.map none], false⟩),
  (379, ⟨.func, 1, 8, [.nilFunc], false⟩),
  (380, ⟨.func, 1, 8, [.nilFunc], false⟩),
  (381, ⟨.func, 1, 8, [.nilFunc], false⟩),
  (382, ⟨.func, 1, 8, [.nilFunc], false⟩),
  (383, ⟨.func, 1, 8, [.nilFunc], false⟩),
  (384, ⟨.func, 1, 8, [.nilFunc], false⟩),
  (385, ⟨.func, 1, 8, [.nilFunc], false⟩),
  (386, ⟨.func, 1, 8, [.nilFunc], false⟩),
  (387, ⟨.int .u64, 1, 8, [.int .u64 0], false⟩),
  (388, ⟨.func, 1, 8, [.nilFunc], false⟩),
  (389, ⟨.func, 1, 8, [.nilFunc], false⟩),
  (390, ⟨.func, 1, 8, [.nilFunc], false⟩),
  (391, ⟨.ptr 3, 1, 8, [.pointer none], false⟩),
  (392, ⟨.func, 1, 8, [.nilFunc], false⟩),
  (393, ⟨.func, 1, 8, [.nilFunc], false⟩),
  (394, ⟨.func, 1, 8, [.nilFunc], false⟩),
  (395, ⟨.func, 1, 8, [.nilFunc], false⟩),
  (396, ⟨.func, 1, 8, [.nilFunc], false⟩),
  (397, ⟨.func, 1, 8, [.nilFunc], false⟩),
  (398, ⟨.func, 1, 8, [.nilFunc], false⟩),
  (399, ⟨.ptr 401, 1, 8, [.pointer none], false⟩),
  (400, ⟨.struct [(0, 54, 1)], 1, 24, [.slice none 0 0], false⟩),
  (401, ⟨.struct [(0, 54, 1)], 1, 24, [.slice none 0 0], false⟩),
  (402, ⟨.func, 1, 8, [.nilFunc], false⟩),
  (403, ⟨.func, 1, 8, [.nilFunc], false⟩),
  (404, ⟨.func, 1, 8, [.nilFunc], false⟩),
  (406, ⟨.func, 1, 8, [.nilFunc], false⟩),
  (407, ⟨.func, 1, 8, [.nilFunc], false⟩),
  (408, ⟨.func, 1, 8, [.nilFunc], false⟩),
  (409, ⟨.array 256 5, 256, 256, List.replicate 256 (.int .u8 0), false⟩),
  (410, ⟨.struct [(0, 5, 1), (1, 5, 1)], 2, 2, [.int .u8 0, .int .u8 0], true⟩),
  (411, ⟨.struct [(0, 5, 1), (1, 5, 1)], 2, 2, [.int .u8 0, .int .u8 0], true⟩),
  (412, ⟨.array 16 411, 32, 32, [.int .u8 0, .int .u8 0, .int .u8 0, .int .u8 0, .int .u8 0, .int .u8 0, .int .u8 0, .int .u8 0, .int .u8 0, .int .u8 0, .int .u8 0, .int .u8 0, .int .u8 0, .int .u8 0, .int .u8 0, .int .u8 0, .int .u8 0, .int .u8 0, .int .u8 0, .int .u8 0, .int .u8 0, .int .u8 0, .int .u8 0, .int .u8 0, .int .u8 0, .int .u8 0, .int .u8 0, .int .u8 0, .int .u8 0, .int .u8 0, .int .u8 0, .int .u8 0], false⟩),
  (414, ⟨.func, 1, 8, [.nilFunc], false⟩),
  (415, ⟨.func, 1, 8, [.nilFunc], false⟩),
  (417, ⟨.func, 1, 8, [.nilFunc], false⟩),
  (418, ⟨.struct [(0, 9, 1), (1, 9, 1), (2, 58, 1)], 3, 48, [.string ByteArray.empty, .string ByteArray.empty, .nilIface], false⟩),
  (419, ⟨.struct [(0, 9, 1), (1, 9, 1), (2, 58, 1)], 3, 48, [.string ByteArray.empty, .string ByteArray.empty, .nilIface], false⟩),
  (420, ⟨.func, 1, 8, [.nilFunc], false⟩),
  (421, ⟨.func, 1, 8, [.nilFunc], false⟩),
  (422, ⟨.array 20 277, 20, 160, [.int .u64 0, .int .u64 0, .int .u64 0, .int .u64 0, .int .u64 0, .int .u64 0, .int .u64 0, .int .u64 0, .int .u64 0, .int .u64 0, .int .u64 0, .int .u64 0, .int .u64 0, .int .u64 0, .int .u64 0, .int .u64 0, .int .u64 0, .int .u64 0, .int .u64 0, .int .u64 0], false⟩),
  (423, ⟨.array 65 5, 65, 65, List.replicate 65 (.int .u8 0), false⟩),
  (424, ⟨.func, 1, 8, [.nilFunc], false⟩),
  (425, ⟨.func, 1, 8, [.nilFunc], false⟩),
  (426, ⟨.func, 1, 8, [.nilFunc], false⟩),
  (427, ⟨.map 431 3, 1, 8, [.map none], false⟩),
  (429, ⟨.func, 1, 8, [.nilFunc], false⟩),
  (430, ⟨.struct [(0, 3, 1), (1, 9, 1)], 2, 24, [.int .i64 0, .string ByteArray.empty], true⟩),
  (431, ⟨.struct [(0, 3, 1), (1, 9, 1)], 2, 24, [.int .i64 0, .string ByteArray.empty], true⟩),
  (432, ⟨.func, 1, 8, [.nilFunc], false⟩),
  (433, ⟨.func, 1, 8, [.nilFunc], false⟩),
  (434, ⟨.func, 1, 8, [.nilFunc], false⟩),
  (435, ⟨.func, 1, 8, [.nilFunc], false⟩),
  (436, ⟨.ptr 387, 1, 8, [.pointer none], false⟩),
  (437, ⟨.func, 1, 8, [.nilFunc], false⟩),
  (438, ⟨.func, 1, 8, [.nilFunc], false⟩),
  (439, ⟨.func, 1, 8, [.nilFunc], false⟩),
  (440, ⟨.func, 1, 8, [.nilFunc], false⟩),
  (441, ⟨.func, 1, 8, [.nilFunc], false⟩),
  (442, ⟨.func, 1, 8, [.nilFunc], false⟩),
  (443, ⟨.func, 1, 8, [.nilFunc], false⟩),
  (444, ⟨.func, 1, 8, [.nilFunc], false⟩),
  (445, ⟨.func, 1, 8, [.nilFunc], false⟩),
  (446, ⟨.func, 1, 8, [.nilFunc], false⟩),
  (447, ⟨.func, 1, 8, [.nilFunc], false⟩),
  (448, ⟨.func, 1, 8, [.nilFunc], false⟩),
  (449, ⟨.ptr 451, 1, 8, [.pointer none], false⟩),
  (450, ⟨.struct [(0, 9, 1)], 1, 16, [.string ByteArray.empty], true⟩),
  (451, ⟨.struct [(0, 9, 1)], 1, 16, [.string ByteArray.empty], true⟩),
  (452, ⟨.struct [(0, 3, 1), (1, 3, 1), (2, 9, 1)], 3, 32, [.int .i64 0, .int .i64 0, .string ByteArray.empty], true⟩),
  (453, ⟨.struct [(0, 3, 1), (1, 3, 1), (2, 9, 1)], 3, 32, [.int .i64 0, .int .i64 0, .string ByteArray.empty], true⟩),
  (454, ⟨.ptr 456, 1, 8, [.pointer none], false⟩),
  (455, ⟨.struct [(0, 3, 1), (1, 3, 1), (2, 3, 1)], 3, 24, [.int .i64 0, .int .i64 0, .int .i64 0], true⟩),
  (456, ⟨.struct [(0, 3, 1), (1, 3, 1), (2, 3, 1)], 3, 24, [.int .i64 0, .int .i64 0, .int .i64 0], true⟩),
  (457, ⟨.slice 454, 1, 24, [.slice none 0 0], false⟩),
  (458, ⟨.ptr 460, 1, 8, [.pointer none], false⟩),
  (459, ⟨.struct [(0, 70, 5), (5, 454, 1), (6, 4, 1), (7, 4, 1), (8, 4, 1)], 9, 72, [.int .i64 0, .int .i64 0, .string ByteArray.empty, .string ByteArray.empty, .bool false, .pointer none, .bool false, .bool false, .bool false], true⟩),
  (460, ⟨.struct [(0, 70, 5), (5, 454, 1), (6, 4, 1), (7, 4, 1), (8, 4, 1)], 9, 72, [.int .i64 0, .int .i64 0, .string ByteArray.empty, .string ByteArray.empty, .bool false, .pointer none, .bool false, .bool false, .bool false], true⟩),
  (461, ⟨.struct [(0, 3, 1), (1, 9, 1)], 2, 24, [.int .i64 0, .string ByteArray.empty], true⟩),
  (462, ⟨.struct [(0, 3, 1), (1, 9, 1)], 2, 24, [.int .i64 0, .string ByteArray.empty], true⟩),
  (463, ⟨.struct [(0, 3, 1), (1, 3, 1), (2, 3, 1)], 3, 24, [.int .i64 0, .int .i64 0, .int .i64 0], true⟩),
  (464, ⟨.struct [(0, 3, 1), (1, 3, 1), (2, 3, 1)], 3, 24, [.int .i64 0, .int .i64 0, .int .i64 0], true⟩),
  (465, ⟨.func, 1, 8, [.nilFunc], false⟩),
  (466, ⟨.func, 1, 8, [.nilFunc], false⟩),
  (467, ⟨.func, 1, 8, [.nilFunc], false⟩),
  (468, ⟨.func, 1, 8, [.nilFunc], false⟩),
  (469, ⟨.func, 1, 8, [.nilFunc], false⟩),
  (470, ⟨.func, 1, 8, [.nilFunc], false⟩),
  (471, ⟨.func, 1, 8, [.nilFunc], false⟩),
  (472, ⟨.func, 1, 8, [.nilFunc], false⟩),
  (473, ⟨.array 32 5, 32, 32, [.int .u8 0, .int .u8 0, .int .u8 0, .int .u8 0, .int .u8 0, .int .u8 0, .int .u8 0, .int .u8 0, .int .u8 0, .int .u8 0, .int .u8 0, .int .u8 0, .int .u8 0, .int .u8 0, .int .u8 0, .int .u8 0, .int .u8 0, .int .u8 0, .int .u8 0, .int .u8 0, .int .u8 0, .int .u8 0, .int .u8 0, .int .u8 0, .int .u8 0, .int .u8 0, .int .u8 0, .int .u8 0, .int .u8 0, .int .u8 0, .int .u8 0, .int .u8 0], false⟩),
  (474, ⟨.array 64 5, 64, 64, List.replicate 64 (.int .u8 0), false⟩),
  (475, ⟨.func, 1, 8, [.nilFunc], false⟩),
  (476, ⟨.func, 1, 8, [.nilFunc], false⟩),
  (477, ⟨.func, 1, 8, [.nilFunc], false⟩),
  (478, ⟨.struct [(0, 17, 1), (1, 17, 1), (2, 17, 1), (3, 9, 1)], 4, 40, [.pointer none, .pointer none, .pointer none, .string ByteArray.empty], false⟩),
  (479, ⟨.struct [(0, 17, 1), (1, 17, 1), (2, 17, 1), (3, 9, 1)], 4, 40, [.pointer none, .pointer none, .pointer none, .string ByteArray.empty], false⟩),
  (483, ⟨.int .u8, 1, 1, [.int .u8 0], false⟩),
  (484, ⟨.int .u8, 1, 1, [.int .u8 0], false⟩),
  (485, ⟨.func, 1, 8, [.nilFunc], false⟩),
  (486, ⟨.int .i32, 1, 4, [.int .i32 0], false⟩),
  (487, ⟨.int .i32, 1, 4, [.int .i32 0], false⟩),
  (488, ⟨.struct [(0, 12, 1), (1, 12, 1), (2, 101, 1), (3, 483, 1), (4, 5, 1), (5, 5, 1), (6, 484, 1), (7, 485, 1), (8, 161, 1), (9, 486, 1), (10, 487, 1)], 11, 48, [.int .u64 0, .int .u64 0, .int .u32 0, .int .u8 0, .int .u8 0, .int .u8 0, .int .u8 0, .nilFunc, .pointer none, .int .i32 0, .int .i32 0], false⟩),
  (489, ⟨.struct [(0, 12, 1), (1, 12, 1), (2, 101, 1), (3, 483, 1), (4, 5, 1), (5, 5, 1), (6, 484, 1), (7, 485, 1), (8, 161, 1), (9, 486, 1), (10, 487, 1)], 11, 48, [.int .u64 0, .int .u64 0, .int .u32 0, .int .u8 0, .int .u8 0, .int .u8 0, .int .u8 0, .nilFunc, .pointer none, .int .i32 0, .int .i32 0], false⟩)]

theorem tt_ok : TOk Tryz.prog tt := by
  show tt.all (chk Tryz.prog) = true
  kernel_rfl

end Go.Proofs.YtbogfmgfafdjiaaGreatDoor

/- Short words for walks. -/
namespace Go.Proofs.YtbogfmgfafdjiaaGreatDoor
set_option linter.unusedVariables false
set_option linter.unusedSimpArgs false
set_option maxHeartbeats 8000000
open Go.RowKit

theorem zA {p : Prop} : p → True := fun _ => True.intro
theorem zB {p : Prop} : p → p := fun h => h
theorem zC {p : Prop} : p → p ∧ True := fun h => And.intro h True.intro
theorem zD {p : Prop} : p → p ∧ p ∧ True := fun h => And.intro h (And.intro h True.intro)
theorem zE {p : Prop} : p → p ∧ True ∧ True := fun h => And.intro h (And.intro True.intro True.intro)
theorem zN {n m : Nat} (h : Nat.ble n m = true) : n ≤ m := Nat.le_of_ble_eq_true h
theorem zI {p q : Prop} (h : p) (g : q) : p ∧ q := ⟨h, g⟩
theorem mixed : Tryz.prog.follows .mixedOrders = true := by kernel_rfl





theorem of_dec {p : Prop} [Decidable p] (h : decide p = true) : p := of_decide_eq_true h
theorem of_dec' {p : Prop} [Decidable p] (h : decide p = false) : ¬ p := of_decide_eq_false h

def pidx (p : Nat → Bool) (n : Nat) : Int := match (List.range n).find? p with | some k => k | none => -1
theorem pidx_some {p : Nat → Bool} {n k : Nat} (hk : k < n) (hp : p k = true) (hno : ∀ j, j < k → p j = false) : pidx p n = k := by
  unfold pidx
  rw [List.find?_range_eq_some.2 ⟨hp, by simpa using hk, fun j hj => by simpa using hno j hj⟩]
theorem pidx_none {p : Nat → Bool} {n : Nat} (hno : ∀ j, j < n → p j = false) : pidx p n = -1 := by
  unfold pidx
  rw [List.find?_eq_none.2 fun j hj => by simp [hno j (by simpa using hj)]]
theorem pidx_cases (p : Nat → Bool) (n : Nat) : (pidx p n = -1 ∧ ∀ j, j < n → p j = false) ∨ ∃ k, k < n ∧ p k = true ∧ (∀ j, j < k → p j = false) ∧ pidx p n = k := by
  unfold pidx
  cases h : (List.range n).find? p with
  | none => exact .inl ⟨rfl, fun j hj => by simpa using List.find?_eq_none.1 h j (by simpa using hj)⟩
  | some k =>
    obtain ⟨h1, h2, h3⟩ := List.find?_range_eq_some.1 h
    exact .inr ⟨k, by simpa using h2, h1, fun j hj => by simpa using h3 j hj, rfl⟩

/-- A list's elements, each as its cells. -/
def gOf {α : Type} [Inhabited α] (f : α → List AV) (l : List α) (i : Nat) : List AV := f (l.getD i default)

/-- Numbers and texts that a value may have. -/
def fitI (z : Int) : Prop := -9223372036854775808 ≤ z ∧ z ≤ 9223372036854775807
def fitS (b : ByteArray) : Prop := b.size ≤ 9223372036854775807

end Go.Proofs.YtbogfmgfafdjiaaGreatDoor

/- Cuts, and rows in another order. -/
namespace Go.Proofs.YtbogfmgfafdjiaaGreatDoor
set_option linter.unusedVariables false
set_option linter.unusedSimpArgs false
set_option maxHeartbeats 8000000
open Go.RowKit

theorem R.perm {c : Ctx} {σ : Slots} {F G : Rows} {a : Act} {w : World} (h : R c σ F a w) (hp : F.Perm G) : R c σ G a w := by
  obtain ⟨g1, g2⟩ := h.sat.perm hp
  exact ⟨h.len, h.defers, h.hoff, h.kept, fun r hr => h.fresh r (hp.mem_iff.2 hr), g1, fun k A hA => (h.slots k A hA).ext (Ext.less (fun b hb => (g2 b).1 hb) w)⟩

/-- Another view of one slot. -/
theorem slotAs {c : Ctx} {σ : Slots} {F : Rows} {K : Act → World → Prop} (d : Nat) {A : AV} (B : AV) (hd : σ.lookup d = some A) (hi : Imp A B) (next : ∀ a w, R c ((d, B) :: σ) F a w → K a w) : ∀ a w, R c σ F a w → K a w := renum F d B rfl hd hi next

theorem umod (n m : Int) (hm : 0 < m) (h2 : m ≤ 4611686018427387904) : ∃ K : Nat, (K : Int) < m ∧ IntKind.i64.wrap ((IntKind.u64.wrap n).tmod m) = K := by
  have h := urem n m hm
  refine ⟨((IntKind.u64.wrap n).tmod m).toNat, by omega, ?_⟩
  rw [wrap_fits ⟨by omega, by omega⟩]
  omega

section
variable {P : Program} {c : Ctx} {σ : Slots} {F : Rows} {Q : Exit → Act → World → Prop} {x : Code}
/-- What holds behind a piece of code, told once. -/
theorem S.cut {ι : Type} (sl : ι → Slots) (ro : ι → Rows) (h : S P c x σ F (Exit.then (fun a w => ∃ i, R c (sl i) (ro i) a w) Q)) (next : ∀ i, E c .normal (sl i) (ro i) Q) : S P c x σ F Q := fun a w hR =>
  wp_mono (h a w hR) fun e a' w' h' => by
    cases e with
    | normal => obtain ⟨i, hi⟩ := h'; exact next i a' w' hi
    | _ => exact h'
end

end Go.Proofs.YtbogfmgfafdjiaaGreatDoor

/- Lengths of slices within structs. -/
namespace Go.Proofs.YtbogfmgfafdjiaaGreatDoor
set_option linter.unusedVariables false
set_option linter.unusedSimpArgs false
set_option maxHeartbeats 8000000
open Go.RowKit

theorem lenAgg {c : Ctx} {σ : Slots} {F : Rows} {K : Act → World → Prop} (d j : Nat) {cs : List AV} {sz n : Nat} {g : Nat → List AV} (h : σ.lookup d = some (.agg cs)) (hj : cs[j]? = some (.lst sz n g)) (next : n ≤ 9223372036854775807 → ∀ a w, R c σ F a w → K a w) : ∀ a w, R c σ F a w → K a w := by
  intro a w hR
  refine next ?_ a w hR
  have h1 := hR.slots d _ h
  generalize a.tmps.getD d undef = v at h1
  cases h1 with
  | @agg _ us hl h1 hr =>
    have hlt : j < us.length := by rw [hl]; exact (List.getElem?_eq_some_iff.1 hj).1
    have h2 := hr j _ _ hj (List.getElem?_eq_getElem hlt)
    generalize us[j] = v at h2
    cases h2 with
    | lst u hn hm => simp only [maxLen] at hm; omega

theorem upto_succ {P : Nat → Prop} {k : Nat} (h : ∀ j, j < k → P j) (hk : P k) : ∀ j, j < k + 1 → P j := fun j hj => by
  rcases Nat.lt_or_eq_of_le (Nat.le_of_lt_succ hj) with h1 | rfl
  · exact h j h1
  · exact hk

/-- The same row of one's own, told otherwise. -/
theorem ownAs {c : Ctx} {σ : Slots} {F : Rows} {K : Act → World → Prop} (id : Nat) {x : Value} {E sz n n' : Nat} {g : Nat → List AV} (g' : Nat → List AV) (h : F.lookup id = some (.own x E sz n g)) (hn : n = n') (hg : ∀ i, i < n → g i = g' i)
    (next : ∀ a w, R c σ (setF id id (.own x E sz n' g') F) a w → K a w) : ∀ a w, R c σ F a w → K a w := by
  intro a w hR
  refine next a w ?_
  subst hn
  obtain ⟨L1, L2, h1, h2⟩ := setF_split h
  rw [h2]
  have hsat := hR.sat
  rw [h1] at hsat
  obtain ⟨g1, g2⟩ := hsat.turn (i' := id) (r' := .own x E sz n g') (w' := w) hR.off (Nat.le_refl _) (fun _ _ _ => rfl) (fun b hb => .inl hb) fun he => by
    obtain ⟨us, ho, hl, hu, hr⟩ := hsat.rows (id, .own x E sz n g) (by simp)
    exact ⟨us, ho, fun i hi => by rw [← hg i hi]; exact hl i hi, hu, fun i hi j A hA => by
      obtain ⟨u, hu, hrep⟩ := hr i hi j A (by rw [hg i hi]; exact hA)
      exact ⟨u, hu, hrep.ext he⟩⟩
  refine ⟨hR.len, hR.defers, hR.hoff, hR.kept, fun s hs b hb => ?_, g1, fun k A hA => (hR.slots k A hA).ext (by rw [h1]; exact g2)⟩
  rcases List.mem_append.1 hs with h3 | h3
  · exact hR.fresh s (by rw [h1]; simp [h3]) b hb
  · rcases List.mem_cons.1 h3 with rfl | h3
    · exact hR.fresh (id, .own x E sz n g) (by rw [h1]; simp) b hb
    · exact hR.fresh s (by rw [h1]; simp [h3]) b hb

end Go.Proofs.YtbogfmgfafdjiaaGreatDoor

/- A drawn region, told anew from where it stands. -/
namespace Go.Proofs.YtbogfmgfafdjiaaGreatDoor
set_option linter.unusedVariables false
set_option linter.unusedSimpArgs false
set_option maxHeartbeats 8000000
open Go.RowKit

theorem wpAnyG_base {P : Program} {ops : Array Oper} {Q : Exit → Act → World → Prop} {S S' : Nat → World → Prop} : ∀ (n : Nat) (listed : Array Bool) (a : Act) (u : World), (∀ k v v', Still ops listed k → S' k v → S' k v' → S k v → S k v') → (∀ k, Still ops listed k → S' k u) →
    wpAnyG P ops Q S' n listed a u → wpAnyG P ops Q S n listed a u
  | 0, _, _, _, _, _, h => h
  | n + 1, listed, a, u, hS, h0, h => by
    refine ⟨h.1, fun j hj => wpOp_mono (fun a' w' h' => ⟨fun k hk hs => ?_, ?_⟩) (h.2 j hj)⟩
    · exact hS k u w' hk.less (h0 k hk.less) (h'.1 k hk (h0 k hk.less)) hs
    · exact wpAnyG_base n _ a' w' (fun k v v' hk => hS k v v' hk.less) (fun k hk => h'.1 k hk (h0 k hk.less)) h'.2

section
variable {P : Program} {c : Ctx} {σ σ1 : Slots} {F F1 : Rows} {rdf : List (Nat × List Nat)} {Q : Exit → Act → World → Prop} {ops : Array Oper} {fuel : Nat} {listed : Array Bool}
theorem H.rebase (next : H P ops c σ F rdf fuel listed σ F Q) : H P ops c σ1 F1 rdf fuel listed σ F Q := by
  intro w1 a w hI
  have hI' : HI ops c σ F rdf listed σ F w a w := ⟨hI.now, hI.now, Ext.refl _ _, hI.closed, fun _ _ s hs _ => hs, fun i _ => ⟨Nat.le_refl _, fun _ _ _ => rfl⟩⟩
  refine wpAnyG_base fuel listed a w (fun k v v' hk h1 h2 h3 => ?_) (fun k _ => ⟨Nat.le_refl _, fun _ _ _ => rfl⟩) (next w a w hI')
  refine ⟨Nat.le_trans hI.ext.size h2.1, fun b hb hr => ?_⟩
  have hbw : b < w.heap.size := Nat.lt_of_lt_of_le hb hI.ext.size
  have hw : ¬ Own c.off F b ∨ ∃ s ∈ F, s.1 ∈ rdOf rdf k ∧ s.2.block = some b := by
    rcases hr with hr | ⟨s, g1, g2, g3⟩
    · exact .inl (hI.ext.own b hb hr)
    · exact .inr ⟨s, hI.keep k hk s g1 g2, g2, g3⟩
  rw [h2.2 b hbw hw, ← h1.2 b hbw hw]
  exact h3.2 b hb hr
end

/-- Rows in another order, some of them dropped. -/
inductive Sub : Rows → Rows → Prop
  | refl (F : Rows) : Sub F []
  | pick {F F' G : Rows} {r : Nat × Row} (h : F.Perm (r :: F')) (t : Sub F' G) : Sub F (r :: G)
theorem Sub.perm {F G : Rows} (h : Sub F G) : ∃ H, F.Perm (G ++ H) := by
  induction h with
  | refl F => exact ⟨F, List.Perm.refl _⟩
  | pick h _ ih =>
    obtain ⟨H, hH⟩ := ih
    exact ⟨H, h.trans (List.Perm.cons _ hH)⟩
theorem p0 {r : Nat × Row} {F : Rows} : (r :: F).Perm (r :: F) := List.Perm.refl _
theorem p1 {a r : Nat × Row} {F : Rows} : (a :: r :: F).Perm (r :: a :: F) := List.Perm.swap _ _ _
theorem pS {a r : Nat × Row} {F F' : Rows} (h : F.Perm (r :: F')) : (a :: F).Perm (r :: a :: F') := (List.Perm.cons _ h).trans (List.Perm.swap _ _ _)
theorem R.weakP {c : Ctx} {σ σ' : Slots} {F G : Rows} {a : Act} {w : World} (hs : WeakOk σ σ') (hF : Sub F G) (h : R c σ F a w) : R c σ' G a w := by
  obtain ⟨H, hH⟩ := hF.perm
  exact (h.perm hH).weak hs (List.sublist_append_left _ _)

/-- A scope whose label is jumped back to: a pass is shown once. -/
theorem S.scopeE {P : Program} {c : Ctx} {σ : Slots} {F : Rows} {Q : Exit → Act → World → Prop} {ι : Type} {x B : Code} (l : Nat) (sl : ι → Slots) (ro : ι → Rows) (μ : ι → Nat) (hf : findLabel x l = some (.seq .skip B))
    (pass : ∀ i (J : Act → World → Prop), (∀ a w j, μ j < μ i → R c (sl j) (ro j) a w → J a w) → S P c B (sl i) (ro i) (Exit.jump l J Q))
    (first : (∀ i, S P c B (sl i) (ro i) (Exit.jump l (fun a w => ∃ i, R c (sl i) (ro i) a w) Q)) → S P c x σ F (Exit.jump l (fun a w => ∃ i, R c (sl i) (ro i) a w) Q)) : S P c (.scope x) σ F Q :=
  S.scope l sl ro μ hf (first fun i => pass i _ fun a w j _ hR => ⟨j, hR⟩) fun i => S.seq (S.skip (pass i _ fun a w j hj hR => ⟨j, hj, hR⟩))

end Go.Proofs.YtbogfmgfafdjiaaGreatDoor

/- Shorter words for walks: what a step asks for is looked for by itself. -/
namespace Go.Proofs.YtbogfmgfafdjiaaGreatDoor
set_option linter.unusedVariables false
set_option linter.unusedSimpArgs false
set_option maxHeartbeats 8000000
open Go.RowKit

theorem sd {p : Prop} (h : p := by (repeat' ((first | first | exact trivial | exact zA | with_reducible refine zI ?_ ?_ | exact zB | exact zC | exact zD | exact zE | rfl | exact zN rfl | omega | assumption | (simp; done) | (simp [splice]; done) | (simp; omega) | (unfold fits; omega) | (unfold fits; simp_all; omega) | (simp_all; omega) | (simp_all; done) | intro _ | exact zI ?_ ?_ | intro _)))) : p := h
section
variable {c : Ctx} {σ σ1 : Slots} {F F1 : Rows} {Q : Exit → Act → World → Prop} {ops : Array Oper} {rest : List Oper} {o : Oper} {rdf : List (Nat × List Nat)} {listed : Array Bool} {n : Nat}
theorem wG {id : Nat} {r : List Oper} {σ' : Slots} {C : Prop} (h1 : ops.toList.all (convOk Tryz.prog) = true := by rfl) (h2 : goA tt c.N ops F ops.toList σ = some (r, σ', C) := by rfl) (hC : C := by (repeat' ((first | first | exact trivial | exact zA | with_reducible refine zI ?_ ?_ | exact zB | exact zC | exact zD | exact zE | rfl | exact zN rfl | omega | assumption | (simp; done) | (simp [splice]; done) | (simp; omega) | (unfold fits; omega) | (unfold fits; simp_all; omega) | (simp_all; omega) | (simp_all; done) | intro _ | exact zI ?_ ?_ | intro _)))) (k : L Tryz.prog ops c r σ' F Q) : S Tryz.prog c (.region id ops false) σ F Q := S.region (L.go tt_ok h1 h2 hC k)
theorem wL {r : List Oper} {σ' : Slots} {C : Prop} (h1 : rest.all (convOk Tryz.prog) = true := by rfl) (h2 : goA tt c.N ops F rest σ = some (r, σ', C) := by rfl) (hC : C := by (repeat' ((first | first | exact trivial | exact zA | with_reducible refine zI ?_ ?_ | exact zB | exact zC | exact zD | exact zE | rfl | exact zN rfl | omega | assumption | (simp; done) | (simp [splice]; done) | (simp; omega) | (unfold fits; omega) | (unfold fits; simp_all; omega) | (simp_all; omega) | (simp_all; done) | intro _ | exact zI ?_ ?_ | intro _)))) (k : L Tryz.prog ops c r σ' F Q) : L Tryz.prog ops c rest σ F Q := L.go tt_ok h1 h2 hC k
theorem wT (is : List Nat) {σ1' σ' : Slots} {C : Prop} (hn : Nat.ble is.length n = true := by kernel_rfl) (hsel : Region.noSelect ops = true := by kernel_rfl) (hok : takesOk Tryz.prog ops is listed = true := by kernel_rfl) (hQ : ∀ ch a a' w, Q (.panic ch) a' w → Q (.panic ch) a w := by intro ch a a' w h; obtain ⟨_, _, _, _, _, h, _⟩ := h; cases h)
    (h : takesA tt c.N ops F1 rdf is σ1 σ = some (σ1', σ', C) := by rfl) (hC : C := by (repeat' ((first | first | exact trivial | exact zA | with_reducible refine zI ?_ ?_ | exact zB | exact zC | exact zD | exact zE | rfl | exact zN rfl | omega | assumption | (simp; done) | (simp [splice]; done) | (simp; omega) | (unfold fits; omega) | (unfold fits; simp_all; omega) | (simp_all; omega) | (simp_all; done) | intro _ | exact zI ?_ ?_ | intro _)))) (k : H Tryz.prog ops c σ1' F1 rdf (n - is.length) (setAll is listed) σ' F Q) : H Tryz.prog ops c σ1 F1 rdf n listed σ F Q := H.ts is tt_ok hn hsel hok hQ h hC k
theorem wS {t : TypeId} {x y : Operand} {A B : AV} {p q C : Prop} {F' : Rows} {kk : Nat} (ho : o.op = .store t x y := by rfl) (hg : o.guard = none := by rfl) (hd : o.dst = none := by rfl) (hx : evalS σ x = some (A, p) := by rfl) (hy : evalS σ y = some (B, q) := by rfl) (hs : storeA tt F t A B = some (kk, F', C) := by rfl)
    (hC : p ∧ q ∧ C := by (repeat' ((first | first | exact trivial | exact zA | with_reducible refine zI ?_ ?_ | exact zB | exact zC | exact zD | exact zE | rfl | exact zN rfl | omega | assumption | (simp; done) | (simp [splice]; done) | (simp; omega) | (unfold fits; omega) | (unfold fits; simp_all; omega) | (simp_all; omega) | (simp_all; done) | intro _ | exact zI ?_ ?_ | intro _)))) (k : L Tryz.prog ops c rest σ F' Q) : L Tryz.prog ops c (o :: rest) σ F Q := L.store tt_ok ho hg hd hx hy hs hC k
theorem wHS {t : TypeId} {x y : Operand} {A B : AV} {p q C : Prop} {F' : Rows} {kk : Nat} (i : Nat) (hi : ops[i]? = some o := by rfl) (hn : Nat.blt 0 n = true := by kernel_rfl) (hrd : Region.ready .any ops listed = [i] := by kernel_rfl) (ho : o.op = .store t x y := by rfl) (hg : o.guard = none := by rfl) (hd : o.dst = none := by rfl) (hx : evalS σ x = some (A, p) := by rfl) (hy : evalS σ y = some (B, q) := by rfl) (hs : storeA tt F t A B = some (kk, F', C) := by rfl)
    (hC : p ∧ q ∧ C := by (repeat' ((first | first | exact trivial | exact zA | with_reducible refine zI ?_ ?_ | exact zB | exact zC | exact zD | exact zE | rfl | exact zN rfl | omega | assumption | (simp; done) | (simp [splice]; done) | (simp; omega) | (unfold fits; omega) | (unfold fits; simp_all; omega) | (simp_all; omega) | (simp_all; done) | intro _ | exact zI ?_ ?_ | intro _)))) (ht : tch ops i = true := by rfl) (hdis : apartOk ops rdf i [kk] = true := by kernel_rfl) (k : H Tryz.prog ops c (headW o.dst σ (σ1.filter fun p => !(o.dst == some p.1))) F1 rdf (n - 1) (listed.setIfInBounds i true) σ F' Q) : H Tryz.prog ops c σ1 F1 rdf n listed σ F Q := H.store i hi hn hrd tt_ok ho hg hd hx hy hs hC ht hdis k
theorem wB {t : TypeId} {x : Operand} {A : AV} {p : Prop} {cs : List AV} {d : Nat} (i : Nat) (ho : o.op = .box t x := by rfl) (hg : o.guard = none := by rfl) (hd : o.dst = some d := by rfl) (hdN : Nat.blt d c.N = true := by rfl) (hx : evalS σ x = some (A, p) := by rfl) (hp : p := by trivial) (hcs : cellsOf A = some cs := by rfl)
    (k : ∀ b, L Tryz.prog ops c rest ((d, .ptr i b 0) :: σ) ((i, .blk b t cs) :: F) Q) : L Tryz.prog ops c (o :: rest) σ F Q := L.box i ho hg hd hdN hx hp hcs k
theorem wA {t : TypeId} {ti : TI} {d : Nat} (i : Nat) (ho : o.op = .alloc t := by rfl) (hg : o.guard = none := by rfl) (hd : o.dst = some d := by rfl) (hdN : Nat.blt d c.N = true := by rfl) (ht : tt.lookup t = some ti := by rfl)
    (k : ∀ b, L Tryz.prog ops c rest ((d, .ptr i b 0) :: σ) ((i, .blk b t (ti.zero.map .v)) :: F) Q) : L Tryz.prog ops c (o :: rest) σ F Q := L.alloc i tt_ok ho hg hd hdN ht k
theorem wHA {t : TypeId} {ti : TI} {d : Nat} (j i : Nat) (hi : ops[j]? = some o := by rfl) (hn : Nat.blt 0 n = true := by kernel_rfl) (hrd : Region.ready .any ops listed = [j] := by kernel_rfl) (ho : o.op = .alloc t := by rfl) (hg : o.guard = none := by rfl) (hd : o.dst = some d := by rfl) (hdN : Nat.blt d c.N = true := by rfl) (ht : tt.lookup t = some ti := by rfl) (k : ∀ b, H Tryz.prog ops c (headW o.dst ((d, .ptr i b 0) :: σ) (σ1.filter fun p => !(o.dst == some p.1))) F1 rdf (n - 1) (listed.setIfInBounds j true) ((d, .ptr i b 0) :: σ) ((i, .blk b t (ti.zero.map .v)) :: F) Q) : H Tryz.prog ops c σ1 F1 rdf n listed σ F Q := H.o1 j hi hn hrd (O.alloc i tt_ok ho hg hd hdN ht) (.inr rfl) rfl k
theorem wF {t e : TypeId} {len : Nat} {parts : Array (Nat × Operand)} {ti : TI} {d : Nat} {m : List (Nat × AV)} {p C : Prop} {cs : List AV} (i : Nat) (ho : o.op = .buildSlice t len parts := by rfl) (hg : o.guard = none := by rfl) (hd : o.dst = some d := by rfl) (hdN : Nat.blt d c.N = true := by rfl) (ht : tdOf tt t = some (.slice e) := by rfl) (he : tt.lookup e = some ti := by rfl) (h1 : len * ti.size ≤ 16777216 := by decide) (h2 : len ≤ 16777216 := by decide) (hm : partsA σ parts.toList = some (m, p) := by rfl) (hf : fillA (fun k => some (k * ti.size, ti.size)) m ((List.range (len * ti.size)).map fun j => .v (ti.zero.getD (j % ti.size) undef)) = some (cs, C) := by rfl) (hC : p ∧ C := by (repeat' ((first | first | exact trivial | exact zA | with_reducible refine zI ?_ ?_ | exact zB | exact zC | exact zD | exact zE | rfl | exact zN rfl | omega | assumption | (simp; done) | (simp [splice]; done) | (simp; omega) | (unfold fits; omega) | (unfold fits; simp_all; omega) | (simp_all; omega) | (simp_all; done) | intro _ | exact zI ?_ ?_ | intro _)))) (k : ∀ x : Value, L Tryz.prog ops c rest ((d, .ref i x) :: σ) ((i, .own x e ti.size len (rowsOf ti.size cs)) :: F) Q) : L Tryz.prog ops c (o :: rest) σ F Q := L.buildSlice i tt_ok ho hg hd hdN ht he h1 h2 hm hf hC k
theorem wHF {t e : TypeId} {len : Nat} {parts : Array (Nat × Operand)} {ti : TI} {d : Nat} {m : List (Nat × AV)} {p C : Prop} {cs : List AV} (j i : Nat) (hi : ops[j]? = some o := by rfl) (hn : Nat.blt 0 n = true := by kernel_rfl) (hrd : Region.ready .any ops listed = [j] := by kernel_rfl) (ho : o.op = .buildSlice t len parts := by rfl) (hg : o.guard = none := by rfl) (hd : o.dst = some d := by rfl) (hdN : Nat.blt d c.N = true := by rfl) (ht : tdOf tt t = some (.slice e) := by rfl) (he : tt.lookup e = some ti := by rfl) (h1 : len * ti.size ≤ 16777216 := by decide) (h2 : len ≤ 16777216 := by decide) (hm : partsA σ parts.toList = some (m, p) := by rfl) (hf : fillA (fun k => some (k * ti.size, ti.size)) m ((List.range (len * ti.size)).map fun j => .v (ti.zero.getD (j % ti.size) undef)) = some (cs, C) := by rfl) (hC : p ∧ C := by (repeat' ((first | first | exact trivial | exact zA | with_reducible refine zI ?_ ?_ | exact zB | exact zC | exact zD | exact zE | rfl | exact zN rfl | omega | assumption | (simp; done) | (simp [splice]; done) | (simp; omega) | (unfold fits; omega) | (unfold fits; simp_all; omega) | (simp_all; omega) | (simp_all; done) | intro _ | exact zI ?_ ?_ | intro _)))) (k : ∀ x : Value, H Tryz.prog ops c (headW o.dst ((d, .ref i x) :: σ) (σ1.filter fun p => !(o.dst == some p.1))) F1 rdf (n - 1) (listed.setIfInBounds j true) ((d, .ref i x) :: σ) ((i, .own x e ti.size len (rowsOf ti.size cs)) :: F) Q) : H Tryz.prog ops c σ1 F1 rdf n listed σ F Q := H.o1 j hi hn hrd (O.buildSlice i tt_ok ho hg hd hdN ht he h1 h2 hm hf hC) (.inr rfl) rfl k
theorem wY {s x : Operand} {t e : TypeId} {i : TI} {id : Nat} {x0 x0' : Value} {sz n' m d : Nat} {g g2 : Nat → List AV} {B : AV} {p q C : Prop} (ho : o.op = .call { callee := .builtin .append, args := #[s, x], argTypes := #[t, t] } := by rfl) (hg : o.guard = none := by rfl) (hd : o.dst = some d := by rfl) (hdN : Nat.blt d c.N = true := by rfl) (ht : tdOf tt t = some (.slice e) := by rfl) (he : tt.lookup e = some i := by rfl) (hs : evalS σ s = some (.ref id x0, p) := by rfl) (hrow : F.lookup id = some (.own x0' e sz n' g) := by rfl) (hx : evalS σ x = some (B, q) := by rfl) (hsrc : srcA F sz B = some (m, g2, C) := by rfl) (hC : x0 = x0' ∧ p ∧ q ∧ C := by (repeat' ((first | first | exact trivial | exact zA | with_reducible refine zI ?_ ?_ | exact zB | exact zC | exact zD | exact zE | rfl | exact zN rfl | omega | assumption | (simp; done) | (simp [splice]; done) | (simp; omega) | (unfold fits; omega) | (unfold fits; simp_all; omega) | (simp_all; omega) | (simp_all; done) | intro _ | exact zI ?_ ?_ | intro _)))) (hsz : sz = i.size ∧ 0 < i.size ∧ 0 < i.bytes := by exact ⟨rfl, by decide, by decide⟩) (hl : (n' + m) * i.bytes ≤ 140737488355328 := by first | (simp; omega) | (simp; done)) (k : ∀ x1 : Value, L Tryz.prog ops c rest ((d, .ref id x1) :: σ) (setF id id (.own x1 e sz (n' + m) (joinG n' g g2)) F) Q) : L Tryz.prog ops c (o :: rest) σ F Q := L.append tt_ok ho hg hd hdN ht he hs hrow hx hsrc hC hsz hl k
theorem wHY {s x : Operand} {t e : TypeId} {i : TI} {id : Nat} {x0 x0' : Value} {sz n' m d : Nat} {g g2 : Nat → List AV} {B : AV} {p q C : Prop} (j : Nat) (hi : ops[j]? = some o := by rfl) (hn : Nat.blt 0 n = true := by kernel_rfl) (hrd : Region.ready .any ops listed = [j] := by kernel_rfl) (ho : o.op = .call { callee := .builtin .append, args := #[s, x], argTypes := #[t, t] } := by rfl) (hg : o.guard = none := by rfl) (hd : o.dst = some d := by rfl) (hdN : Nat.blt d c.N = true := by rfl) (ht : tdOf tt t = some (.slice e) := by rfl) (he : tt.lookup e = some i := by rfl) (hs : evalS σ s = some (.ref id x0, p) := by rfl) (hrow : F.lookup id = some (.own x0' e sz n' g) := by rfl) (hx : evalS σ x = some (B, q) := by rfl) (hsrc : srcA F sz B = some (m, g2, C) := by rfl) (hC : x0 = x0' ∧ p ∧ q ∧ C := by (repeat' ((first | first | exact trivial | exact zA | with_reducible refine zI ?_ ?_ | exact zB | exact zC | exact zD | exact zE | rfl | exact zN rfl | omega | assumption | (simp; done) | (simp [splice]; done) | (simp; omega) | (unfold fits; omega) | (unfold fits; simp_all; omega) | (simp_all; omega) | (simp_all; done) | intro _ | exact zI ?_ ?_ | intro _)))) (hsz : sz = i.size ∧ 0 < i.size ∧ 0 < i.bytes := by exact ⟨rfl, by decide, by decide⟩) (hl : (n' + m) * i.bytes ≤ 140737488355328 := by first | (simp; omega) | (simp; done)) (hto : tch ops j = true := by kernel_rfl) (hdis : apartOk ops rdf j [id] = true := by kernel_rfl) (k : ∀ x1 : Value, H Tryz.prog ops c (headW o.dst ((d, .ref id x1) :: σ) (σ1.filter fun p => !(o.dst == some p.1))) F1 rdf (n - 1) (listed.setIfInBounds j true) ((d, .ref id x1) :: σ) (setF id id (.own x1 e sz (n' + m) (joinG n' g g2)) F) Q) : H Tryz.prog ops c σ1 F1 rdf n listed σ F Q := H.o1 j hi hn hrd (O.append tt_ok ho hg hd hdN ht he hs hrow hx hsrc hC hsz hl) (.inl hto) hdis k
theorem wQ {cl : Call} {x : Operand} {f d : Nat} {b t : Bool} {caps As Bs : List AV} {p q : Prop} {r : AV} (h : b = t → PFn Tryz.prog f Bs r) (ho : o.op = .call cl := by rfl) (hcl : cl.callee = .value x := by rfl) (hg : guardA ops σ o = some (some (b, t)) := by rfl) (hd : o.dst = some d := by rfl) (hdN : Nat.blt d c.N = true := by rfl) (hx : evalS σ x = some (.fn (.func f) caps, p) := by rfl) (ha : argsA σ cl.args.toList = some (As, q) := by rfl) (hpq : b = t → p ∧ q := by exact fun _ => ⟨trivial, by (repeat' ((first | first | exact trivial | exact zA | with_reducible refine zI ?_ ?_ | exact zB | exact zC | exact zD | exact zE | rfl | exact zN rfl | omega | assumption | (simp; done) | (simp [splice]; done) | (simp; omega) | (unfold fits; omega) | (unfold fits; simp_all; omega) | (simp_all; omega) | (simp_all; done) | intro _ | exact zI ?_ ?_ | intro _)))⟩) (hf : callable Tryz.prog f = true := by rfl) (himp : Imps (As ++ caps) Bs := by exact Imps.refl _) (k : L Tryz.prog ops c rest ((d, .when b t r) :: σ) (F) Q) : L Tryz.prog ops c (o :: rest) σ F Q := L.callG ho hcl hg hd hdN hx ha hpq hf himp h k
theorem wHQ {cl : Call} {x : Operand} {f d : Nat} {b t : Bool} {caps As Bs : List AV} {p q : Prop} {r : AV} (j : Nat) (h : b = t → PFn Tryz.prog f Bs r) (hi : ops[j]? = some o := by rfl) (hn : Nat.blt 0 n = true := by kernel_rfl) (hrd : Region.ready .any ops listed = [j] := by kernel_rfl) (ho : o.op = .call cl := by rfl) (hcl : cl.callee = .value x := by rfl) (hg : guardA ops σ o = some (some (b, t)) := by rfl) (hd : o.dst = some d := by rfl) (hdN : Nat.blt d c.N = true := by rfl) (hx : evalS σ x = some (.fn (.func f) caps, p) := by rfl) (ha : argsA σ cl.args.toList = some (As, q) := by rfl) (hpq : b = t → p ∧ q := by exact fun _ => ⟨trivial, by (repeat' ((first | first | exact trivial | exact zA | with_reducible refine zI ?_ ?_ | exact zB | exact zC | exact zD | exact zE | rfl | exact zN rfl | omega | assumption | (simp; done) | (simp [splice]; done) | (simp; omega) | (unfold fits; omega) | (unfold fits; simp_all; omega) | (simp_all; omega) | (simp_all; done) | intro _ | exact zI ?_ ?_ | intro _)))⟩) (hf : callable Tryz.prog f = true := by rfl) (himp : Imps (As ++ caps) Bs := by exact Imps.refl _) (k : H Tryz.prog ops c (headW o.dst ((d, .when b t r) :: σ) (σ1.filter fun p => !(o.dst == some p.1))) F1 rdf (n - 1) (listed.setIfInBounds j true) ((d, .when b t r) :: σ) (F) Q) : H Tryz.prog ops c σ1 F1 rdf n listed σ F Q := H.callG j hi hn hrd ho hcl hg hd hdN hx ha hpq hf himp h k
theorem wHC {cl : Call} {x : Operand} {f d : Nat} {caps As Bs : List AV} {p q : Prop} {H' : Rows} {Post : AV → Rows → Prop} (j : Nat) (G : Rows) (h : FnC Tryz.prog f Bs G Post) (hi : ops[j]? = some o := by rfl) (hn : Nat.blt 0 n = true := by kernel_rfl) (hrd : Region.ready .any ops listed = [j] := by kernel_rfl) (ho : o.op = .call cl := by rfl) (hcl : cl.callee = .value x := by rfl) (hg : o.guard = none := by rfl) (hd : o.dst = some d := by rfl) (hdN : Nat.blt d c.N = true := by rfl) (hx : evalS σ x = some (.fn (.func f) caps, p) := by rfl) (ha : argsA σ cl.args.toList = some (As, q) := by rfl) (hpq : p ∧ q := by exact ⟨trivial, by (repeat' ((first | first | exact trivial | exact zA | with_reducible refine zI ?_ ?_ | exact zB | exact zC | exact zD | exact zE | rfl | exact zN rfl | omega | assumption | (simp; done) | (simp [splice]; done) | (simp; omega) | (unfold fits; omega) | (unfold fits; simp_all; omega) | (simp_all; omega) | (simp_all; done) | intro _ | exact zI ?_ ?_ | intro _)))⟩) (hf : callable Tryz.prog f = true := by rfl) (himp : Imps (As ++ caps) Bs := by exact Imps.refl _) (hp : F.Perm (G ++ H') := by (repeat (first | exact pick0 | refine pickS (by first | exact p0 | exact pS p0 | exact pS (pS p0) | exact pS (pS (pS p0)) | exact pS (pS (pS (pS p0))) | exact pS (pS (pS (pS (pS p0)))) | exact pS (pS (pS (pS (pS (pS p0)))))) ?_))) (ht : tch ops j = true := by kernel_rfl) (hdis : apartOk ops rdf j (G.map (·.1)) = true := by kernel_rfl) (k : ∀ r G', Post r G' → H Tryz.prog ops c (headW o.dst ((d, r) :: σ) (σ1.filter fun p => !(o.dst == some p.1))) F1 rdf (n - 1) (listed.setIfInBounds j true) ((d, r) :: σ) (G' ++ H') Q) : H Tryz.prog ops c σ1 F1 rdf n listed σ F Q := H.call j G H' hi hn hrd ho hcl hg hd hdN hx ha hpq hf himp hp h ht hdis k
theorem wP {cl : Call} {x : Operand} {f d : Nat} {caps As Bs : List AV} {p q : Prop} {r : AV} (h : PFn Tryz.prog f Bs r) (ho : o.op = .call cl := by rfl) (hcl : cl.callee = .value x := by rfl) (hg : o.guard = none := by rfl) (hd : o.dst = some d := by rfl) (hdN : Nat.blt d c.N = true := by rfl) (hx : evalS σ x = some (.fn (.func f) caps, p) := by rfl) (ha : argsA σ cl.args.toList = some (As, q) := by rfl)
    (hpq : p ∧ q := by exact ⟨trivial, by (repeat' ((first | first | exact trivial | exact zA | with_reducible refine zI ?_ ?_ | exact zB | exact zC | exact zD | exact zE | rfl | exact zN rfl | omega | assumption | (simp; done) | (simp [splice]; done) | (simp; omega) | (unfold fits; omega) | (unfold fits; simp_all; omega) | (simp_all; omega) | (simp_all; done) | intro _ | exact zI ?_ ?_ | intro _)))⟩) (hf : callable Tryz.prog f = true := by rfl) (hi : Imps (As ++ caps) Bs := by exact Imps.refl _) (k : L Tryz.prog ops c rest ((d, r) :: σ) F Q) : L Tryz.prog ops c (o :: rest) σ F Q := L.callP ho hcl hg hd hdN hx ha hpq hf hi h k
theorem wHP {cl : Call} {x : Operand} {f d : Nat} {caps As Bs : List AV} {p q : Prop} {r : AV} (i : Nat) (h : PFn Tryz.prog f Bs r) (hi : ops[i]? = some o := by rfl) (hn : Nat.blt 0 n = true := by kernel_rfl) (hrd : Region.ready .any ops listed = [i] := by kernel_rfl) (ho : o.op = .call cl := by rfl) (hcl : cl.callee = .value x := by rfl) (hg : o.guard = none := by rfl) (hd : o.dst = some d := by rfl) (hdN : Nat.blt d c.N = true := by rfl) (hx : evalS σ x = some (.fn (.func f) caps, p) := by rfl) (ha : argsA σ cl.args.toList = some (As, q) := by rfl)
    (hpq : p ∧ q := by exact ⟨trivial, by (repeat' ((first | first | exact trivial | exact zA | with_reducible refine zI ?_ ?_ | exact zB | exact zC | exact zD | exact zE | rfl | exact zN rfl | omega | assumption | (simp; done) | (simp [splice]; done) | (simp; omega) | (unfold fits; omega) | (unfold fits; simp_all; omega) | (simp_all; omega) | (simp_all; done) | intro _ | exact zI ?_ ?_ | intro _)))⟩) (hf : callable Tryz.prog f = true := by rfl) (himp : Imps (As ++ caps) Bs := by exact Imps.refl _)
    (k : H Tryz.prog ops c (headW o.dst ((d, r) :: σ) (σ1.filter fun p => !(o.dst == some p.1))) F1 rdf (n - 1) (listed.setIfInBounds i true) ((d, r) :: σ) F Q) : H Tryz.prog ops c σ1 F1 rdf n listed σ F Q := H.callP i hi hn hrd ho hcl hg hd hdN hx ha hpq hf himp h k
theorem wC {cl : Call} {x : Operand} {f d : Nat} {caps As Bs : List AV} {p q : Prop} {H : Rows} {Post : AV → Rows → Prop} (G : Rows) (h : FnC Tryz.prog f Bs G Post) (ho : o.op = .call cl := by rfl) (hcl : cl.callee = .value x := by rfl) (hg : o.guard = none := by rfl) (hd : o.dst = some d := by rfl) (hdN : Nat.blt d c.N = true := by rfl) (hx : evalS σ x = some (.fn (.func f) caps, p) := by rfl) (ha : argsA σ cl.args.toList = some (As, q) := by rfl)
    (hpq : p ∧ q := by exact ⟨trivial, by (repeat' ((first | first | exact trivial | exact zA | with_reducible refine zI ?_ ?_ | exact zB | exact zC | exact zD | exact zE | rfl | exact zN rfl | omega | assumption | (simp; done) | (simp [splice]; done) | (simp; omega) | (unfold fits; omega) | (unfold fits; simp_all; omega) | (simp_all; omega) | (simp_all; done) | intro _ | exact zI ?_ ?_ | intro _)))⟩) (hf : callable Tryz.prog f = true := by rfl) (hi : Imps (As ++ caps) Bs := by exact Imps.refl _) (hp : F.Perm (G ++ H) := by (repeat (first | exact pick0 | refine pickS (by first | exact p0 | exact pS p0 | exact pS (pS p0) | exact pS (pS (pS p0)) | exact pS (pS (pS (pS p0))) | exact pS (pS (pS (pS (pS p0)))) | exact pS (pS (pS (pS (pS (pS p0)))))) ?_))) (k : ∀ r G', Post r G' → L Tryz.prog ops c rest ((d, r) :: σ) (G' ++ H) Q) : L Tryz.prog ops c (o :: rest) σ F Q := L.call ho hcl hg hd hdN hx ha hpq hf hi hp h k
theorem wN (k : H Tryz.prog ops c σ F rdf n listed σ F Q) : H Tryz.prog ops c σ1 F1 rdf n listed σ F Q := H.rebase k
theorem wD (h : Region.ready .any ops listed = [] := by kernel_rfl) (k : E c .normal σ F Q) : H Tryz.prog ops c σ1 F1 rdf n listed σ F Q := H.done h k
end
theorem wRt {off : Nat → Prop} {w0 : World} {N : Nat} {F : Rows} {σ : Slots} {fn : Func} {rs : List ResultVar} {m : List AV} {C : Prop} {r : AV} (hrs : fn.results = rs.toArray := by rfl) (h : resA tt σ F rs = some (m, C) := by rfl) (hC : C := by (repeat' ((first | first | exact trivial | exact zA | with_reducible refine zI ?_ ?_ | exact zB | exact zC | exact zD | exact zE | rfl | exact zN rfl | omega | assumption | (simp; done) | (simp [splice]; done) | (simp; omega) | (unfold fits; omega) | (unfold fits; simp_all; omega) | (simp_all; omega) | (simp_all; done) | intro _ | exact zI ?_ ?_ | intro _)))) (k : Imp (oneOf m) r) :
    E ⟨off, blocksOf [], w0, N⟩ .ret σ F (bodyPost Tryz.prog fn (Ret off [] w0 fun r' F' => r' = r ∧ F' = [])) := E.retP tt_ok hrs h hC k
theorem wEt {off : Nat → Prop} {F0 F' F : Rows} {w0 : World} {N : Nat} {σ : Slots} {Post : AV → Rows → Prop} {fn : Func} {rs : List ResultVar} {m : List AV} {C : Prop} {r : AV} (hrs : fn.results = rs.toArray := by rfl) (h : resA tt σ F rs = some (m, C) := by rfl) (hC : C := by (repeat' ((first | first | exact trivial | exact zA | with_reducible refine zI ?_ ?_ | exact zB | exact zC | exact zD | exact zE | rfl | exact zN rfl | omega | assumption | (simp; done) | (simp [splice]; done) | (simp; omega) | (unfold fits; omega) | (unfold fits; simp_all; omega) | (simp_all; omega) | (simp_all; done) | intro _ | exact zI ?_ ?_ | intro _)))) (hr : Imp (oneOf m) r := by exact Imp.refl _) (hF : F'.Sublist F := by exact List.Sublist.refl _) (k : Post r F') :
    E ⟨off, blocksOf F0, w0, N⟩ .ret σ F (bodyPost Tryz.prog fn (Ret off F0 w0 Post)) := E.ret tt_ok hrs h hC hr hF k
end Go.Proofs.YtbogfmgfafdjiaaGreatDoor

/- A block told otherwise; rows picked for a call. -/
namespace Go.Proofs.YtbogfmgfafdjiaaGreatDoor
set_option linter.unusedVariables false
set_option linter.unusedSimpArgs false
set_option maxHeartbeats 8000000
open Go.RowKit

theorem blkAs {c : Ctx} {σ : Slots} {F : Rows} {K : Act → World → Prop} (id : Nat) {b : Nat} {T : TypeId} {cs : List AV} (cs' : List AV) (h : F.lookup id = some (.blk b T cs)) (hi : Imps cs cs')
    (next : ∀ a w, R c σ (setF id id (.blk b T cs') F) a w → K a w) : ∀ a w, R c σ F a w → K a w := by
  intro a w hR
  refine next a w ?_
  obtain ⟨L1, L2, h1, h2⟩ := setF_split h
  rw [h2]
  have hsat := hR.sat
  rw [h1] at hsat
  obtain ⟨i1, i2⟩ := hi.get
  obtain ⟨g1, g2⟩ := hsat.turn (i' := id) (r' := .blk b T cs') (w' := w) hR.off (Nat.le_refl _) (fun _ _ _ => rfl) (fun b hb => .inl hb) fun he => by
    obtain ⟨us, hh, hl, hu, hr⟩ := hsat.rows (id, .blk b T cs) (by simp)
    exact ⟨us, hh, hl.trans i1, hu, fun j A u hA hu => by
      obtain ⟨B, hB, hi⟩ := i2 j A hA
      exact hi _ _ _ ((hr j B u hB hu).ext he)⟩
  refine ⟨hR.len, hR.defers, hR.hoff, hR.kept, fun s hs b hb => ?_, g1, fun k A hA => (hR.slots k A hA).ext (by rw [h1]; exact g2)⟩
  rcases List.mem_append.1 hs with h3 | h3
  · exact hR.fresh s (by rw [h1]; simp [h3]) b hb
  · rcases List.mem_cons.1 h3 with rfl | h3
    · exact hR.fresh (id, .blk _ T cs) (by rw [h1]; simp) b hb
    · exact hR.fresh s (by rw [h1]; simp [h3]) b hb

theorem pickS {r : Nat × Row} {F F' G H : Rows} (h : F.Perm (r :: F')) (t : F'.Perm (G ++ H)) : F.Perm ((r :: G) ++ H) := h.trans (List.Perm.cons _ t)
theorem pick0 {F : Rows} : F.Perm ([] ++ F) := List.Perm.refl _

section
variable {P : Program} {c : Ctx} {σ : Slots} {F : Rows} {Q : Exit → Act → World → Prop} {ops : Array Oper} {rest : List Oper} {o : Oper}
/-- A guarded call that is made. -/
theorem O.callT {cl : Call} {x : Operand} {f d : Nat} {bb tt' : Bool} {caps As Bs : List AV} {p q : Prop} {G H : Rows} {Post : AV → Rows → Prop} (ho : o.op = .call cl) (hcl : cl.callee = .value x) (hg : guardA ops σ o = some (some (bb, tt'))) (hb : bb = tt') (hd : o.dst = some d) (hdN : Nat.blt d c.N = true) (hx : evalS σ x = some (.fn (.func f) caps, p)) (ha : argsA σ cl.args.toList = some (As, q))
    (hpq : p ∧ q) (hf : callable P f = true) (himp : Imps (As ++ caps) Bs) (hp : F.Perm (G ++ H)) (h : FnC P f Bs G Post) : O P ops c o σ F Q (G.map (·.1)) (PostOf Post) (fun i => (d, i.1.1) :: σ) (fun i => i.1.2 ++ H) := by
  intro a w hR K hK
  unfold Op1
  rw [if_pos ((guard_iff hR hg).2 hb)]
  obtain ⟨vs, h1, h2, h3⟩ := exec_call hR ho hcl hx ha hpq hf
  obtain ⟨i1, i2⟩ := himp.get
  simp only [Oper.wp]
  rw [h1, Oper.upon_enter, hd]
  exact call_core hR hp h (h2.trans i1) (fun j A u hA hu => by obtain ⟨B, hB, hi⟩ := i2 j A hA; exact hi _ _ _ (h3 j B u hB hu)) hdN fun r G' hP a' w' hR' hS hv => hK ⟨(r, G'), hP⟩ a' w' hR' hS (by rw [hd]; exact hv)
theorem L.callT {cl : Call} {x : Operand} {f d : Nat} {bb tt' : Bool} {caps As Bs : List AV} {p q : Prop} {G H : Rows} {Post : AV → Rows → Prop} (ho : o.op = .call cl) (hcl : cl.callee = .value x) (hg : guardA ops σ o = some (some (bb, tt'))) (hb : bb = tt') (hd : o.dst = some d) (hdN : Nat.blt d c.N = true) (hx : evalS σ x = some (.fn (.func f) caps, p)) (ha : argsA σ cl.args.toList = some (As, q))
    (hpq : p ∧ q) (hf : callable P f = true) (himp : Imps (As ++ caps) Bs) (hp : F.Perm (G ++ H)) (h : FnC P f Bs G Post) (next : ∀ r G', Post r G' → L P ops c rest ((d, r) :: σ) (G' ++ H) Q) : L P ops c (o :: rest) σ F Q :=
  L.of (O.callT ho hcl hg hb hd hdN hx ha hpq hf himp hp h) fun i => next i.1.1 i.1.2 i.2
end

end Go.Proofs.YtbogfmgfafdjiaaGreatDoor

/- A slice of one's own is given away in a region that draws its order. -/
namespace Go.Proofs.YtbogfmgfafdjiaaGreatDoor
set_option linter.unusedVariables false
set_option linter.unusedSimpArgs false
set_option maxHeartbeats 8000000
open Go.RowKit

theorem delF_mem {F : Rows} {id : Nat} {s : Nat × Row} (h : s ∈ F) (hn : s.1 ≠ id) : s ∈ delF id F := by
  induction F with
  | nil => cases h
  | cons x t ih =>
    obtain ⟨k, r⟩ := x
    unfold delF
    split
    · rename_i e
      rcases List.mem_cons.1 h with rfl | h
      · exact absurd e hn
      · exact h
    · rcases List.mem_cons.1 h with rfl | h
      · exact List.mem_cons_self
      · exact List.mem_cons_of_mem _ (ih h)

section
variable {P : Program} {c : Ctx} {σ σ1 : Slots} {F F1 : Rows} {rdf : List (Nat × List Nat)} {Q : Exit → Act → World → Prop} {ops : Array Oper} {fuel : Nat} {listed : Array Bool}
theorem H.freeze (d id : Nat) {id' : Nat} {x x' : Value} {E sz n : Nat} {g : Nat → List AV} (hrow : F.lookup id = some (.own x E sz n g)) (hd : σ.lookup d = some (.ref id' x')) (hx : x' = x) (hnr : rdf.all (fun p => !p.2.contains id) = true)
    (next : H P ops c ((d, .lst sz n g) :: σ) (delF id F) rdf fuel listed ((d, .lst sz n g) :: σ) (delF id F) Q) : H P ops c σ1 F1 rdf fuel listed σ F Q := by
  intro w1 a w hI
  have hno : ∀ k, id ∉ rdOf rdf k := by
    intro k hk
    unfold rdOf at hk
    cases hl : rdf.lookup k with
    | none => rw [hl] at hk; cases hk
    | some l =>
      rw [hl] at hk
      have hm : (k, l) ∈ rdf := by
        clear next hI hnr
        induction rdf with
        | nil => cases hl
        | cons y t ih =>
          obtain ⟨j, m⟩ := y
          rw [List.lookup_cons] at hl
          split at hl
          · rename_i e
            cases hl
            rw [beq_iff_eq] at e
            subst e
            exact List.mem_cons_self
          · exact List.mem_cons_of_mem _ (ih hl)
      have := List.all_eq_true.1 hnr _ hm
      simp only [Bool.not_eq_true', Bool.eq_false_iff] at this
      exact this (List.contains_iff_mem.2 (by simpa using hk))
  have hnow : R c ((d, .lst sz n g) :: σ) (delF id F) a w := freezeSlot (K := R c ((d, .lst sz n g) :: σ) (delF id F)) d id hrow hd hx (fun _ _ h => h) a w hI.now
  obtain ⟨L1, L2, e1, e2⟩ := delF_split hrow
  have hown : ∀ b, Own c.off (delF id F) b → Own c.off F b := fun b hb => Own.tail (fun r hr => by rw [e2] at hr; rw [e1]; rcases List.mem_append.1 hr with h | h <;> simp [h]) hb
  have hI' : HI ops c ((d, .lst sz n g) :: σ) (delF id F) rdf listed ((d, .lst sz n g) :: σ) (delF id F) w a w := ⟨hnow, hnow, Ext.refl _ _, hI.closed, fun _ _ s hs _ => hs, fun i _ => ⟨Nat.le_refl _, fun _ _ _ => rfl⟩⟩
  refine wpAnyG_base fuel listed a w (fun k v v' hk h1 h2 h3 => ?_) (fun k _ => ⟨Nat.le_refl _, fun _ _ _ => rfl⟩) (next w a w hI')
  refine ⟨Nat.le_trans hI.ext.size h2.1, fun b hb hr => ?_⟩
  have hbw : b < w.heap.size := Nat.lt_of_lt_of_le hb hI.ext.size
  have hw : ¬ Own c.off (delF id F) b ∨ ∃ s ∈ delF id F, s.1 ∈ rdOf rdf k ∧ s.2.block = some b := by
    rcases hr with hr | ⟨s, g1, g2, g3⟩
    · exact .inl fun h => hI.ext.own b hb hr (hown b h)
    · exact .inr ⟨s, delF_mem (hI.keep k hk s g1 g2) (fun e => hno k (e ▸ g2)), g2, g3⟩
  rw [h2.2 b hbw hw, ← h1.2 b hbw hw]
  exact h3.2 b hb hr

/-- One of three operations may come up. -/
theorem H.o3 {o o' o'' : Oper} {ids ids' ids'' : List Nat} {ι ι' ι'' : Type} {sl : ι → Slots} {ro : ι → Rows} {sl' : ι' → Slots} {ro' : ι' → Rows} {sl'' : ι'' → Slots} {ro'' : ι'' → Rows} (i i' i'' : Nat) {n : Nat} (hi : ops[i]? = some o) (hi' : ops[i']? = some o') (hi'' : ops[i'']? = some o'') (hn : Nat.blt 0 n = true) (hrd : Region.ready .any ops listed = [i, i', i''])
    (h : O P ops c o σ F Q ids ι sl ro) (h' : O P ops c o' σ F Q ids' ι' sl' ro') (h'' : O P ops c o'' σ F Q ids'' ι'' sl'' ro'') (ht : tch ops i = true ∨ ids = []) (ht' : tch ops i' = true ∨ ids' = []) (ht'' : tch ops i'' = true ∨ ids'' = [])
    (hdis : apartOk ops rdf i ids = true) (hdis' : apartOk ops rdf i' ids' = true) (hdis'' : apartOk ops rdf i'' ids'' = true)
    (next : ∀ k, H P ops c (headW o.dst (sl k) (σ1.filter fun p => !(o.dst == some p.1))) F1 rdf (n - 1) (listed.setIfInBounds i true) (sl k) (ro k) Q) (next' : ∀ k, H P ops c (headW o'.dst (sl' k) (σ1.filter fun p => !(o'.dst == some p.1))) F1 rdf (n - 1) (listed.setIfInBounds i' true) (sl' k) (ro' k) Q)
    (next'' : ∀ k, H P ops c (headW o''.dst (sl'' k) (σ1.filter fun p => !(o''.dst == some p.1))) F1 rdf (n - 1) (listed.setIfInBounds i'' true) (sl'' k) (ro'' k) Q) : H P ops c σ1 F1 rdf n listed σ F Q := by
  obtain ⟨m, rfl⟩ : ∃ m, n = m + 1 := ⟨n - 1, by have := of_blt hn; omega⟩
  intro w1 a w hI
  refine ⟨fun h0 => (by rw [hrd] at h0; cases h0), fun j hj => ?_⟩
  have hj' := hj
  rw [hrd] at hj'
  rcases (by simpa using hj' : j = i ∨ j = i' ∨ j = i'') with rfl | rfl | rfl
  · exact H.run hi h ht hdis next hI hj
  · exact H.run hi' h' ht' hdis' next' hI hj
  · exact H.run hi'' h'' ht'' hdis'' next'' hI hj

/-- The same at a slot that is told otherwise. -/
theorem H.tell (d : Nat) {A : AV} (B : AV) (hd : σ.lookup d = some A) (hi : Imp A B) (next : H P ops c ((d, B) :: σ) F rdf fuel listed ((d, B) :: σ) F Q) : H P ops c σ1 F1 rdf fuel listed σ F Q := by
  refine H.rebase ?_
  intro w1 a w hI
  have hb : R c ((d, B) :: σ) F a w1 := slotAs (K := R c ((d, B) :: σ) F) d B hd hi (fun _ _ h => h) a w1 hI.base
  have hn : R c ((d, B) :: σ) F a w := slotAs (K := R c ((d, B) :: σ) F) d B hd hi (fun _ _ h => h) a w hI.now
  exact next w1 a w ⟨hb, hn, hI.ext, hI.closed, hI.keep, hI.st⟩
end

end Go.Proofs.YtbogfmgfafdjiaaGreatDoor

/- An array in memory: its cells by place. -/
namespace Go.Proofs.YtbogfmgfafdjiaaGreatDoor
set_option linter.unusedVariables false
set_option linter.unusedSimpArgs false
set_option maxHeartbeats 8000000
open Go.RowKit

def arrV (b n : Nat) : Value := .slice (some ⟨b, 0, none⟩) n n
theorem addr_zero (a : Addr) : a.add 0 = a := by unfold Addr.add; simp
theorem arrRow {c : Ctx} {σ : Slots} {F : Rows} {K : Act → World → Prop} (d id sz n : Nat) {b b' T : Nat} {cs : List AV} (g : Nat → List AV) (h : F.lookup id = some (.blk b T cs)) (hd : σ.lookup d = some (.ptr id b' 0)) (hb : b' = b) (hl : cs.length = n * sz) (hn : n ≤ maxLen)
    (hg : ∀ i, i < n → (g i).length = sz ∧ ∀ j A, (g i)[j]? = some A → cs[i * sz + j]? = some A)
    (next : ∀ a w, R c ((d, .eptr id (arrV b n) sz 0 0) :: σ) (setF id id (.own (arrV b n) T sz n g) F) a w → K a w) : ∀ a w, R c σ F a w → K a w := by
  intro a w hR
  subst hb
  refine next a w ?_
  obtain ⟨L1, L2, h1, h2⟩ := setF_split h
  rw [h2]
  have hsat := hR.sat
  rw [h1] at hsat
  obtain ⟨g1, g2⟩ := hsat.turn (i' := id) (r' := .own (arrV b' n) T sz n g) (w' := w) hR.off (Nat.le_refl _) (fun _ _ _ => rfl) (fun b hb => .inl hb) fun he => by
    obtain ⟨us, hh, hl', hu, hr⟩ := hsat.rows (id, .blk b' T cs) (by simp)
    refine ⟨us, ⟨hl'.trans hl, .inr ⟨b', n, us.toArray, rfl, Nat.zero_le _, hh, Nat.le_refl _, hn, by simpa using hl'.trans hl, ?_⟩⟩, fun i hi => (hg i hi).1, hu, fun i hi j A hA => ?_⟩
    · show us.take (n * sz) = us
      exact List.take_of_length_le (by omega)
    · have hc := (hg i hi).2 j A hA
      have hlt : i * sz + j < us.length := by
        rw [hl']
        exact (List.getElem?_eq_some_iff.1 hc).1
      exact ⟨us[i * sz + j], List.getElem?_eq_getElem hlt, (hr _ A _ hc (List.getElem?_eq_getElem hlt)).ext he⟩
  refine ⟨hR.len, hR.defers, hR.hoff, hR.kept, fun s hs b hb => ?_, g1, fun k A hA => ?_⟩
  · rcases List.mem_append.1 hs with h3 | h3
    · exact hR.fresh s (by rw [h1]; simp [h3]) b hb
    · rcases List.mem_cons.1 h3 with rfl | h3
      · exact hR.fresh (id, .blk _ T cs) (by rw [h1]; simp) b hb
      · exact hR.fresh s (by rw [h1]; simp [h3]) b hb
  · rw [lookup_cons] at hA
    split at hA
    · rename_i e
      cases hA
      have h3 := hR.slots d _ hd
      rw [e]
      generalize a.tmps.getD d undef = v at h3 ⊢
      cases h3
      have h4 := Rep.eptr (own := Own c.off (L1 ++ (id, .own (arrV b' n) T sz n g) :: L2)) (w := w) id (arrV b' n) sz 0 0
      rw [show 0 * sz + 0 = 0 by omega, addr_zero] at h4
      exact h4
    · exact (hR.slots k A hA).ext (by rw [h1]; exact g2)

end Go.Proofs.YtbogfmgfafdjiaaGreatDoor

/- Slices of one's own: a beginning, an end that is cleared. -/
namespace Go.Proofs.YtbogfmgfafdjiaaGreatDoor
set_option linter.unusedVariables false
set_option linter.unusedSimpArgs false
set_option maxHeartbeats 8000000
open Go.RowKit

def firstW : Value → Nat → Value
  | .slice a _ c, k => .slice a k c
  | v, _ => v
def restW (sz : Nat) : Value → Nat → Value
  | .slice a n c, k => .slice (if c = k then a else a.map (·.add (k * sz))) (n - k) (c - k)
  | v, _ => v

theorem own_head {w : World} {e sz n k : Nat} {v : Value} {us : List Value} (h : w.ownsRow 0 e sz v n us) (hk : k ≤ n) : w.ownsRow 0 e sz (firstW v k) k (us.take (k * sz)) ∧ (firstW v k).ownBlock = v.ownBlock := by
  obtain ⟨h1, h2⟩ := h
  have hm : k * sz ≤ n * sz := Nat.mul_le_mul_right sz hk
  rcases h2 with ⟨rfl, rfl⟩ | ⟨g, cap, cur, rfl, hb, hh, hn, hc, hs, ht⟩
  · obtain rfl : k = 0 := by omega
    exact ⟨⟨by simp, .inl ⟨rfl, rfl⟩⟩, rfl⟩
  · refine ⟨⟨by rw [List.length_take, h1, Nat.min_eq_left hm], .inr ⟨g, cap, cur, rfl, hb, hh, by omega, hc, hs, ?_⟩⟩, ?_⟩
    · rw [← ht, List.take_take, Nat.min_eq_left hm]
    · rfl

section
variable {P : Program} {T : Types} {c : Ctx} {σ : Slots} {F : Rows} {Q : Exit → Act → World → Prop} {ops : Array Oper} {rest : List Oper} {o : Oper}

theorem opt_zero (a : Option Addr) (k m : Nat) : (if k = 0 then a else a.map (·.add (0 * m))) = a := by
  split
  · rfl
  · cases a with
    | none => rfl
    | some a => simp [addr_zero]

/-- 's[:k]' of one's own. -/
theorem O.sliceHead {t e : TypeId} {i : TI} {x hi : Operand} {id d : Nat} {x0 x0' : Value} {E sz n : Nat} {g : Nat → List AV} {z : Int} {k : IntKind} {p q : Prop} (hT : TOk P T) (ho : o.op = .slice t x none (some hi) none) (hg : o.guard = none) (hd : o.dst = some d) (hdN : Nat.blt d c.N = true)
    (ht : tdOf T t = some (.slice e)) (he : T.lookup e = some i) (hs : evalS σ x = some (.ref id x0, p)) (hrow : F.lookup id = some (.own x0' E sz n g)) (hx : evalS σ hi = some (.v (.int k z), q)) (hC : x0 = x0' ∧ p ∧ q ∧ 0 ≤ z ∧ z ≤ n)
    : O P ops c o σ F Q [id] Unit (fun _ => (d, .ref id (firstW x0 z.toNat)) :: σ) (fun _ => setF id id (.own (firstW x0 z.toNat) E sz z.toNat g) F) := by
  intro a w hR K hK
  refine Op1.plain hg ?_
  obtain ⟨rfl, hp, hq, h0, hn⟩ := hC
  have hA := hR.evals hs hp
  have hA' : a.eval x = x0 := by generalize a.eval x = v at hA; cases hA; rfl
  have hB := hR.evals hx hq
  have hB' : a.eval hi = .int k z := by generalize a.eval hi = v at hB; cases hB; rfl
  obtain ⟨us, hown, hlen, h1, hr⟩ := hR.sat.at hrow
  obtain ⟨ti, hti, htd⟩ := tdOf_some ht
  have hzn : z.toNat ≤ n := by omega
  obtain ⟨o1, o2⟩ := own_head hown hzn
  obtain ⟨A, cap, hv, hnc, hcm⟩ := own_form0 hown
  obtain ⟨k1, k2, k3, k4⟩ := hR.write (i' := id) (r' := .own (firstW x0 z.toNat) E sz z.toNat g) hrow (w' := w) (Nat.le_refl _) rfl rfl rfl (fun _ _ _ => rfl) (fun b hb => .inl (o2.symm.trans hb)) (fun hext => by
      refine ⟨us.take (z.toNat * sz), o1, fun j hj => hlen j (by omega), fun u hu => h1 u (List.mem_of_mem_take hu), fun j hj l A hA => ?_⟩
      obtain ⟨u, hu, hrep⟩ := hr j (by omega) l A hA
      refine ⟨u, ?_, hrep.ext hext⟩
      have hl : l < sz := by rw [← hlen j (by omega)]; exact (List.getElem?_eq_some_iff.1 hA).1
      have hm : j * sz + sz ≤ z.toNat * sz := by
        have := Nat.mul_le_mul_right sz (show j + 1 ≤ z.toNat by omega)
        rwa [Nat.add_mul, Nat.one_mul] at this
      rw [List.getElem?_take, if_pos (by omega)]
      exact hu)
  have hgive : (execOp a.eval o).run P w = .ok (.value (firstW x0 z.toNat)) w := by
    subst hv
    have hzc : z ≤ (cap : Int) := by omega
    simp [execOp, ho, Instr.sliceAt, Instr.slice, Instr.sliceBounds, Instr.sliceBound, asIntOf, run_underlying ((hT.told hti).slice htd), (hT.told he).size, hA', hB', h0, hzc, firstW]
    intro _
    cases A with
    | none => rfl
    | some a => simp [addr_zero]
  simp only [Oper.wp]
  rw [hgive, Oper.upon_value, hd]
  have hone : (firstW x0 z.toNat).oneCell' = true := by subst hv; rfl
  exact hK () _ _ (hR.step (of_blt hdN) k1 k2 k3 k4.ext (.ref _ _ hone)) k4 ⟨_, by rw [hd]⟩

/-- 's[k:]' of one's own, as a value. -/
theorem O.sliceTail {t e : TypeId} {i : TI} {x lo : Operand} {id d : Nat} {x0 x0' : Value} {E sz n : Nat} {g : Nat → List AV} {z : Int} {k : IntKind} {p q : Prop} (hT : TOk P T) (ho : o.op = .slice t x (some lo) none none) (hg : o.guard = none) (hd : o.dst = some d) (hdN : Nat.blt d c.N = true)
    (ht : tdOf T t = some (.slice e)) (he : T.lookup e = some i) (hs : evalS σ x = some (.ref id x0, p)) (hrow : F.lookup id = some (.own x0' E sz n g)) (hx : evalS σ lo = some (.v (.int k z), q)) (hC : x0 = x0' ∧ p ∧ q ∧ 0 ≤ z ∧ z ≤ n)
    : O P ops c o σ F Q [] Unit (fun _ => (d, .v (restW i.size x0 z.toNat)) :: σ) (fun _ => F) := by
  intro a w hR K hK
  refine Op1.plain hg ?_
  obtain ⟨rfl, hp, hq, h0, hn⟩ := hC
  have hA := hR.evals hs hp
  have hA' : a.eval x = x0 := by generalize a.eval x = v at hA; cases hA; rfl
  have hB := hR.evals hx hq
  have hB' : a.eval lo = .int k z := by generalize a.eval lo = v at hB; cases hB; rfl
  obtain ⟨us, hown, hlen, h1, hr⟩ := hR.sat.at hrow
  obtain ⟨ti, hti, htd⟩ := tdOf_some ht
  obtain ⟨A, cap, hv, hnc, hcm⟩ := own_form0 hown
  have hgive : (execOp a.eval o).run P w = .ok (.value (restW i.size x0 z.toNat)) w := by
    subst hv
    simp [execOp, ho, Instr.sliceAt, Instr.slice, Instr.sliceBounds, Instr.sliceBound, asIntOf, run_underlying ((hT.told hti).slice htd), (hT.told he).size, hA', hB', h0, hn, restW]
  simp only [Oper.wp]
  rw [hgive, Oper.upon_value, hd]
  exact hK () _ _ (hR.pure (of_blt hdN) (.v _)) ⟨Ext.refl _ _, fun _ _ _ _ _ => rfl, fun s hs _ => hs⟩ ⟨_, by rw [hd]⟩

/-- 'clear(s[k:])'. -/
theorem O.clearTail {t e : TypeId} {i : TI} {x : Operand} {id k : Nat} {x0 : Value} {sz n : Nat} {g : Nat → List AV} {p : Prop} (hT : TOk P T) (ho : o.op = .call { callee := .builtin .clear, args := #[x], argTypes := #[t] }) (hg : o.guard = none) (hd : o.dst = none)
    (ht : tdOf T t = some (.slice e)) (he : T.lookup e = some i) (hs : evalS σ x = some (.v (restW i.size x0 k), p)) (hrow : F.lookup id = some (.own x0 e sz n g)) (hC : p ∧ sz = i.size ∧ k ≤ n)
    : O P ops c o σ F Q [id] Unit (fun _ => σ) (fun _ => setF id id (.own x0 e sz n (fun j => if j < k then g j else i.zero.map .v)) F) := by
  intro a w hR K hK
  refine Op1.plain hg ?_
  obtain ⟨hp, rfl, hk⟩ := hC
  have hA := hR.evals hs hp
  have hA' : a.eval x = restW i.size x0 k := by generalize a.eval x = v at hA; cases hA; rfl
  obtain ⟨us, hown, hlen, h1, hr⟩ := hR.sat.at hrow
  obtain ⟨ti, hti, htd⟩ := tdOf_some ht
  have told := hT.told he
  obtain ⟨z, hz, hzr⟩ := told.run_zero
  have hzs : z.cells.size = i.size := by rw [← Array.length_toList, hz, told.zsize]
  rcases Nat.lt_or_eq_of_le hk with hlt | rfl
  · rcases hown.2 with ⟨-, h0⟩ | ⟨b, cap, cur, hv, hb, hh, hnc, hcm, hcs, hct⟩
    · omega
    have hown' := hown
    rw [hv] at hown'
    have hkz : k * i.size + (n - k) * i.size = n * i.size := by rw [← Nat.add_mul]; congr 1; omega
    have hul : us.length = n * i.size := hown.1
    have hcells := fun j (hj : j < us.length) => own_cell hown' j hj
    have hclr := run_clear_cells (P := P) w t e o.type z ((hT.told hti).slice htd) hzr (fun u hu => told.zone u (by rw [← hz]; exact Array.mem_toList_iff.2 hu)) b (k * i.size) (n - k) (cap - k) (by omega)
      (fun j hj => by rw [(hcells _ (by rw [hzs] at hj; omega)).1, List.getElem?_eq_getElem (by rw [hzs] at hj; omega)]; rfl) (fun j hj => (hcells _ (by rw [hzs] at hj; omega)).2)
    have hzl : (Builtin.zeroCells z.cells (n - k)).toList.length = (n - k) * i.size := by rw [zeroCells_length, hzs]
    have hblk : Blk w b cur.toList e := by unfold Blk; simpa using hh
    have hcl : cur.toList.length = cap * i.size := by simpa using hcs
    have hcn : n * i.size ≤ cap * i.size := Nat.mul_le_mul_right _ hnc
    have hblk' := hblk.setCells (Builtin.zeroCells z.cells (n - k)).toList (k * i.size) w cur.toList (by rw [hzl, hcl]; omega)
    rw [hzl, hkz] at hblk'
    obtain ⟨s1, s2, s3, s4⟩ := setCells_same (g := b) (Builtin.zeroCells z.cells (n - k)).toList (k * i.size) w
    obtain ⟨k1, k2, k3, k4⟩ := hR.write (i' := id) (r' := .own x0 e i.size n (fun j => if j < k then g j else i.zero.map .v)) hrow (w' := w.setCells b (k * i.size) (Builtin.zeroCells z.cells (n - k)).toList) (by omega) s1 s2 s3
      (fun b' hlt' hne => setCells_heap _ _ _ _ (by
        rintro rfl
        exact hne (by rw [hv]; rfl))) (fun b' hb' => .inl hb') (fun hext => by
        refine ⟨us.take (k * i.size) ++ (Builtin.zeroCells z.cells (n - k)).toList, ⟨by rw [List.length_append, List.length_take, hul, hzl, Nat.min_eq_left (Nat.mul_le_mul_right _ hk)]; exact hkz, .inr ⟨b, cap, (cur.toList.take (k * i.size) ++ (Builtin.zeroCells z.cells (n - k)).toList ++ cur.toList.drop (n * i.size)).toArray, hv, hb, ?_, hnc, hcm, ?_, ?_⟩⟩, fun j hj => ?_, fun u hu => ?_, fun j hj l A hA => ?_⟩
        · have := hblk'
          unfold Blk at this
          exact this
        · simp only [List.size_toArray, List.length_append, List.length_take, List.length_drop, hzl, hcl]
          omega
        · show (cur.toList.take (k * i.size) ++ (Builtin.zeroCells z.cells (n - k)).toList ++ cur.toList.drop (n * i.size)).take (n * i.size) = _
          rw [List.take_left' (by rw [List.length_append, List.length_take, hcl, hzl, Nat.min_eq_left (Nat.le_trans (Nat.mul_le_mul_right _ hk) hcn)]; exact hkz), ← hct, List.take_take, Nat.min_eq_left (Nat.mul_le_mul_right _ hk)]
        · show (if j < k then g j else i.zero.map .v).length = _
          split
          · exact hlen j hj
          · simp [told.zsize]
        · rcases List.mem_append.1 hu with h | h
          · exact h1 u (List.mem_of_mem_take h)
          · unfold Builtin.zeroCells at h
            obtain ⟨y, hy, rfl⟩ := Array.mem_map.1 (Array.mem_toList_iff.1 h)
            have hp : y % z.cells.size < z.cells.size := Nat.mod_lt _ (by rw [hzs]; exact told.pos)
            rw [getElem!_pos z.cells _ hp]
            exact told.zone _ (by rw [← hz]; exact Array.mem_toList_iff.2 (Array.getElem_mem hp))
        · have hjm : j * i.size + i.size ≤ n * i.size := by
            have := Nat.mul_le_mul_right i.size (show j + 1 ≤ n by omega)
            rwa [Nat.add_mul, Nat.one_mul] at this
          replace hA : (if j < k then g j else i.zero.map .v)[l]? = some A := hA
          split at hA
          · rename_i hjk
            obtain ⟨u, hu, hrep⟩ := hr j (by omega) l A hA
            have hl : l < i.size := by rw [← hlen j (by omega)]; exact (List.getElem?_eq_some_iff.1 hA).1
            have hm : j * i.size + i.size ≤ k * i.size := by
              have := Nat.mul_le_mul_right i.size (show j + 1 ≤ k by omega)
              rwa [Nat.add_mul, Nat.one_mul] at this
            refine ⟨u, ?_, hrep.ext hext⟩
            rw [List.getElem?_append_left (by rw [List.length_take, hul, Nat.min_eq_left (Nat.mul_le_mul_right _ hk)]; omega), List.getElem?_take, if_pos (by omega)]
            exact hu
          · rename_i hjk
            rw [List.getElem?_map] at hA
            cases hu : i.zero[l]? with
            | none => rw [hu] at hA; cases hA
            | some u =>
              rw [hu] at hA
              cases hA
              have hl : l < i.size := by rw [← told.zsize]; exact (List.getElem?_eq_some_iff.1 hu).1
              have hge : k * i.size ≤ j * i.size := Nat.mul_le_mul_right _ (by omega)
              refine ⟨u, ?_, .v u⟩
              have e1 : (us.take (k * i.size)).length = k * i.size := by rw [List.length_take, hul, Nat.min_eq_left (Nat.mul_le_mul_right _ hk)]
              rw [List.getElem?_append_right (by rw [e1]; omega)]
              rw [e1]
              have e2 : j * i.size + l - k * i.size = (j - k) * i.size + l := by rw [Nat.sub_mul]; omega
              rw [e2]
              unfold Builtin.zeroCells
              have hlt2 : (j - k) * i.size + l < (n - k) * z.cells.size := by
                rw [hzs]
                have := Nat.mul_le_mul_right i.size (show (j - k) + 1 ≤ n - k by omega)
                rw [Nat.add_mul, Nat.one_mul] at this
                omega
              have hmod : ((j - k) * i.size + l) % z.cells.size = l := by rw [hzs, Nat.mul_comm, Nat.mul_add_mod, Nat.mod_eq_of_lt hl]
              have hget : z.cells[l]! = u := by
                rw [getElem!_pos z.cells l (by omega), ← Array.getElem_toList]
                have := (List.getElem?_eq_some_iff.1 hu).2
                simp only [hz]
                exact this
              simp [hlt2, hmod, hget])
    have hck : ¬ cap = k := by omega
    have hgive : (execOp a.eval o).run P w = .ok (.value (.tuple #[])) (w.setCells b (k * i.size) (Builtin.zeroCells z.cells (n - k)).toList) := by
      have hA2 : a.eval x = .slice (some ⟨b, k * i.size, none⟩) (n - k) (cap - k) := by
        rw [hA', hv]
        simp [restW, hck, addr_add_lit]
      simp [execOp, ho, resolve, invoke, builtin, hA2, hclr]
    simp only [Oper.wp]
    rw [hgive, Oper.upon_value, hd]
    exact hK () _ _ (hR.step_none k1 k2 k3 k4.ext) k4 ⟨.tuple #[], by rw [hd]⟩
  · obtain ⟨A, cap, hv, hnc, hcm⟩ := own_form0 hown
    have hgive : (execOp a.eval o).run P w = .ok (.value (.tuple #[])) w := by
      rw [hv] at hA'
      simp only [restW, Nat.sub_self] at hA'
      have hclr : ∀ B C, (Builtin.clear_ #[t] o.type #[.slice B 0 C]).run P w = .ok (.tuple #[]) w := fun B C => by
        cases B <;> simp [Builtin.clear_, run_underlying ((hT.told hti).slice htd)]
      simp [execOp, ho, resolve, invoke, builtin, hA', hclr]
    obtain ⟨k1, k2, k3, k4⟩ := hR.write (i' := id) (r' := .own x0 e i.size k (fun j => if j < k then g j else i.zero.map .v)) hrow (w' := w) (Nat.le_refl _) rfl rfl rfl (fun _ _ _ => rfl) (fun b hb => .inl hb) (fun hext => by
      refine ⟨us, hown, fun j hj => by show (if j < k then g j else i.zero.map .v).length = _; rw [if_pos hj]; exact hlen j hj, h1, fun j hj l A hA => ?_⟩
      replace hA : (if j < k then g j else i.zero.map .v)[l]? = some A := hA
      rw [if_pos hj] at hA
      obtain ⟨u, hu, hrep⟩ := hr j hj l A hA
      exact ⟨u, hu, hrep.ext hext⟩)
    simp only [Oper.wp]
    rw [hgive, Oper.upon_value, hd]
    exact hK () _ _ (hR.step_none k1 k2 k3 k4.ext) k4 ⟨.tuple #[], by rw [hd]⟩

theorem L.sliceHead {t e : TypeId} {i : TI} {x hi : Operand} {id d : Nat} {x0 x0' : Value} {E sz n : Nat} {g : Nat → List AV} {z : Int} {k : IntKind} {p q : Prop} (hT : TOk P T) (ho : o.op = .slice t x none (some hi) none) (hg : o.guard = none) (hd : o.dst = some d) (hdN : Nat.blt d c.N = true)
    (ht : tdOf T t = some (.slice e)) (he : T.lookup e = some i) (hs : evalS σ x = some (.ref id x0, p)) (hrow : F.lookup id = some (.own x0' E sz n g)) (hx : evalS σ hi = some (.v (.int k z), q)) (hC : x0 = x0' ∧ p ∧ q ∧ 0 ≤ z ∧ z ≤ n)
    (next : L P ops c rest ((d, .ref id (firstW x0 z.toNat)) :: σ) (setF id id (.own (firstW x0 z.toNat) E sz z.toNat g) F) Q) : L P ops c (o :: rest) σ F Q := L.of (O.sliceHead hT ho hg hd hdN ht he hs hrow hx hC) fun _ => next
theorem L.clearTail {t e : TypeId} {i : TI} {x lo y : Operand} {o' : Oper} {id d : Nat} {x0 : Value} {sz n : Nat} {g : Nat → List AV} {z : Int} {k : IntKind} {p q p' : Prop} (hT : TOk P T) (ho : o.op = .slice t x (some lo) none none) (hg : o.guard = none) (hd : o.dst = some d) (hdN : Nat.blt d c.N = true)
    (ht : tdOf T t = some (.slice e)) (he : T.lookup e = some i) (hs : evalS σ x = some (.ref id x0, p)) (hrow : F.lookup id = some (.own x0 e sz n g)) (hx : evalS σ lo = some (.v (.int k z), q)) (hC : p ∧ q ∧ 0 ≤ z ∧ z ≤ n)
    (ho' : o'.op = .call { callee := .builtin .clear, args := #[y], argTypes := #[t] }) (hg' : o'.guard = none) (hd' : o'.dst = none) (hs' : evalS ((d, .v (restW i.size x0 z.toNat)) :: σ) y = some (.v (restW i.size x0 z.toNat), p')) (hC' : p' ∧ sz = i.size)
    (next : L P ops c rest ((d, .v (restW i.size x0 z.toNat)) :: σ) (setF id id (.own x0 e sz n (fun j => if j < z.toNat then g j else i.zero.map .v)) F) Q) : L P ops c (o :: o' :: rest) σ F Q :=
  L.of (O.sliceTail hT ho hg hd hdN ht he hs hrow hx ⟨rfl, hC⟩) fun _ => L.of (O.clearTail hT ho' hg' hd' ht he hs' hrow ⟨hC'.1, hC'.2, by omega⟩) fun _ => next
end

end Go.Proofs.YtbogfmgfafdjiaaGreatDoor

/- More words: rows in another order, looking at one's own. -/
namespace Go.Proofs.YtbogfmgfafdjiaaGreatDoor
set_option linter.unusedVariables false
set_option linter.unusedSimpArgs false
set_option maxHeartbeats 8000000
open Go.RowKit
set_option maxRecDepth 4000

def intC (z : Int) : List AV := [.v (.int .i64 z)]
theorem getD_get {α : Type} [Inhabited α] {l : List α} {i : Nat} (h : i < l.length) : l.getD i default = l[i] := by
  rw [List.getD_eq_getElem?_getD, List.getElem?_eq_getElem h]; rfl
theorem app1_h {α : Type} [Inhabited α] (f : α → List AV) (l : List α) (x : α) {n : Nat} (h : Nat → List AV) (hn : n = l.length) (hx : h 0 = f x) {i : Nat} (hi : i < n + 1) : joinG n (gOf f l) h i = gOf f (l ++ [x]) i := by
  subst hn
  simp only [joinG, gOf, List.getD_eq_getElem?_getD, List.getElem?_append]
  split
  · rfl
  · have e : i - l.length = 0 := by omega
    rw [e, hx]; rfl

/-- Rows in another order, some of them dropped. -/
theorem rowsTo {c : Ctx} {σ : Slots} {F : Rows} {K : Act → World → Prop} (G : Rows) (h : Sub F G) (next : ∀ a w, R c σ G a w → K a w) : ∀ a w, R c σ F a w → K a w := fun a w hR => by
  obtain ⟨H, hH⟩ := h.perm
  have hR := hR.perm hH
  have hs : G.Sublist (G ++ H) := List.sublist_append_left _ _
  exact next a w ⟨hR.len, hR.defers, hR.hoff, hR.kept, fun s hs' b hb => hR.fresh s (hs.subset hs') b hb, hR.sat.tail hs, fun k A hk => (hR.slots k A hk).ext (Ext.less (fun b hb => Own.tail (fun s hs' => hs.subset hs') hb) w)⟩

/-- What only computes may look at one's own. -/
theorem borrow0 {P : Program} {f : FuncId} {id : Nat} {x : Value} {E sz n : Nat} {g : Nat → List AV} {t : List AV} {r : Value} (h : PFn P f (.lst sz n g :: t) (.v r)) :
    FnC P f (.ref id x :: t) [(id, .own x E sz n g)] (fun r' F' => r' = .v r ∧ F' = [(id, .own x E sz n g)]) := by
  intro off w vs hoff hS hl hr
  have hz : Ext (Own off [(id, Row.own x E sz n g)]) (Own off []) w w := Ext.less (fun b hb => by rcases hb with h | ⟨r, hr, -⟩; exact .inl h; cases hr) w
  have hf : Rep (Own off []) w (.lst sz n g) x := by
    have := freeze_rep hS (id := id) (x := x) (E := E) (sz := sz) (n := n) (g := g) (by simp [List.lookup])
    have e : delF id [(id, Row.own x E sz n g)] = [] := by simp [delF]
    rwa [e] at this
  refine (h off w vs hoff (Sat.nil off w) (by simpa using hl) fun j A u hA hu => ?_).mono fun e w' hp => ?_
  · cases j with
    | zero =>
      simp only [List.getElem?_cons_zero, Option.some.injEq] at hA
      subst hA
      have := hr 0 _ u rfl hu
      cases this
      exact hf
    | succ j => exact (hr (j + 1) A u (by simpa using hA) hu).ext hz
  · obtain ⟨v, r', F', ⟨rfl, rfl⟩, rfl, hv, -, hk, -⟩ := hp
    cases hv
    have hb : ∀ b, b < w.heap.size → w'.heap[b]? = w.heap[b]? := fun b hb => hk.block b hb (by rintro ⟨s, hs, -⟩; cases hs)
    refine ⟨_, _, _, ⟨rfl, rfl⟩, rfl, .v _, hS.still hk.size hb, hk.mono fun k _ hk' => ?_, fun s hs b hsb => .inl ⟨s, hs, hsb⟩⟩
    obtain ⟨s, hs, -⟩ := hk'
    cases hs

end Go.Proofs.YtbogfmgfafdjiaaGreatDoor

/- Bytes: a string out of them, a string appended to them. -/
namespace Go.Proofs.YtbogfmgfafdjiaaGreatDoor
set_option linter.unusedVariables false
set_option linter.unusedSimpArgs false
set_option maxHeartbeats 8000000
open Go.RowKit
set_option maxRecDepth 4000

def byteG (b : ByteArray) (i : Nat) : List AV := [.v (.int .u8 ((b.data.getD i 0).toNat : Int))]
def bytesA (b : ByteArray) : AV := .lst 1 b.size (byteG b)
theorem fold_push (l : List UInt8) (r : ByteArray) : (l.map fun b => (b.toNat : Int)).foldl (fun r n => r.push (UInt8.ofNat n.toNat)) r = ⟨r.data ++ l.toArray⟩ := by
  induction l generalizing r with
  | nil => simp
  | cons a t ih =>
    rw [List.map_cons, List.foldl_cons, ih]
    simp [ByteArray.push]
theorem byteG_app (b s : ByteArray) {i : Nat} (hi : i < b.size + s.size) : joinG b.size (byteG b) (byteG s) i = byteG (b ++ s) i := by
  have ha : (b ++ s).data = b.data ++ s.data := ByteArray.data_append
  have e : ∀ (x : ByteArray) (i : Nat), byteG x i = [.v (.int .u8 ((x.data[i]?.getD 0).toNat : Int))] := fun x i => by
    rw [byteG, Array.getD_eq_getD_getElem?]
  unfold joinG
  rw [e, e, e, ha, Array.getElem?_append, show b.size = b.data.size from rfl]
  by_cases h : i < b.data.size
  · rw [if_pos h, if_pos h]
  · rw [if_neg h, if_neg h]

section
variable {P : Program} {T : Types} {c : Ctx} {σ : Slots} {F : Rows} {Q : Exit → Act → World → Prop} {ops : Array Oper} {rest : List Oper} {o : Oper}
theorem bytes_news {own : Nat → Prop} {w : World} {u : Value} {m : Nat} {g : Nat → List AV} {news : List Value} {str : ByteArray} (h : Reads own w u 1 m g news) (hm : m = str.size) (hg : ∀ i, i < m → g i = byteG str i) : news = (str.data.toList.map fun b => (b.toNat : Int)).map (Value.int .u8) := by
  obtain ⟨A, cap, hu, hnil, hnl, hc, h1, hlen, hr⟩ := h
  apply List.ext_getElem?
  intro j
  by_cases hj : j < m
  · have h2 := hr j hj 0 (.v (.int .u8 ((str.data.getD j 0).toNat : Int))) (by rw [hg j hj]; rfl)
    obtain ⟨v, hv, hrep⟩ := h2
    cases hrep
    rw [Nat.mul_one, Nat.add_zero] at hv
    rw [hv, List.map_map, List.getElem?_map]
    have hjs : j < str.data.size := by rw [← show str.size = str.data.size from rfl]; omega
    rw [Array.getElem?_toList, Array.getElem?_eq_getElem hjs, Array.getD_eq_getD_getElem?, Array.getElem?_eq_getElem hjs]
    rfl
  · rw [List.getElem?_eq_none (by omega), List.getElem?_eq_none]
    simp only [List.length_map, Array.length_toList]
    rw [← show str.size = str.data.size from rfl]
    omega

/-- string(bytes). -/
theorem O.toStr {s dt e : TypeId} {x : Operand} {d m : Nat} {g2 : Nat → List AV} {B : AV} {q C : Prop} {str : ByteArray} (hT : TOk P T) (ho : o.op = .convert s dt x) (hg : o.guard = none) (hd : o.dst = some d) (hdN : Nat.blt d c.N = true)
    (hs : tdOf T s = some (.slice e)) (he : tdOf T e = some (.int .u8)) (hdt : tdOf T dt = some .str) (hx : evalS σ x = some (B, q)) (hsrc : srcA F 1 B = some (m, g2, C)) (hC : q ∧ C) (hm : m = str.size) (hg2 : ∀ i, i < m → g2 i = byteG str i) :
    O P ops c o σ F Q [] Unit (fun _ => (d, .v (.string str)) :: σ) (fun _ => F) := by
  intro a w hR K hK
  refine Op1.plain hg ?_
  obtain ⟨news, hnews⟩ := src_sound hR.sat hsrc hC.2 (hR.evals hx hC.1)
  have hn := bytes_news hnews hm hg2
  obtain ⟨A, cap, hu, hnil, hnl, hc, h1, -⟩ := hnews
  obtain ⟨i1, hi1, hd1⟩ := tdOf_some hs
  obtain ⟨i2, hi2, hd2⟩ := tdOf_some he
  obtain ⟨i3, hi3, hd3⟩ := tdOf_some hdt
  have r1 := (hT.told hi1).slice hd1
  have r2 := (hT.told hi2).int hd2
  have r3 := (hT.told hi3).str hd3
  have hrun : (convert s dt (a.eval x)).run P w = .ok (.string str) w := by
    rw [hu, run_convert_bytes_string w s dt e A m cap r1 r2 r3]
    cases A with
    | none =>
      obtain ⟨rfl, rfl⟩ := hnil rfl
      have : str = ByteArray.empty := by
        have : str.data = #[] := Array.eq_empty_of_size_eq_zero hm.symm
        cases str
        simp only at this
        rw [this]
        rfl
      rw [this]
      simp [Conv.bytesToString, Sem.run_pure]
    | some ad =>
      have hl := run_loadCells_list (P := P) (w := w) ad news (hc ad rfl)
      rw [hnl, Nat.mul_one, hn] at hl
      rw [run_bytesToString w ad m cap _ hl, fold_push]
      simp
  have hgive : (execOp a.eval o).run P w = .ok (.value (.string str)) w := by
    simp [execOp, ho, hrun]
  simp only [Oper.wp]
  rw [hgive, Oper.upon_value, hd]
  exact hK () _ _ (hR.pure (of_blt hdN) (.v _)) ⟨Ext.refl _ _, fun _ _ _ _ _ => rfl, fun s hs _ => hs⟩ ⟨_, by rw [hd]⟩

def u8I (P : Program) (e : TypeId) : Bool := match P.info? e with | some j => j.size == 1 && j.bytes == 1 && (match j.zero with | some (.int .u8 0) => true | _ => false) | none => false
theorem u8I_ok {e : TypeId} (h : u8I P e = true) : ∃ j, P.info? e = some j ∧ j.size = 1 ∧ j.bytes = 1 ∧ j.zero = some (.int .u8 0) := by
  unfold u8I at h
  split at h
  · rename_i j hj
    simp only [Bool.and_eq_true, beq_iff_eq] at h
    refine ⟨j, hj, h.1.1, h.1.2, ?_⟩
    have h3 := h.2
    split at h3
    · assumption
    · cases h3
  · cases h

/-- append(bytes, string...). -/
theorem O.appStr {s x : Operand} {t u e : TypeId} {id : Nat} {x0 x0' : Value} {n d : Nat} {g : Nat → List AV} {str : ByteArray} {p q : Prop} (hT : TOk P T) (ho : o.op = .call { callee := .builtin .append, args := #[s, x], argTypes := #[t, u] }) (hg : o.guard = none) (hd : o.dst = some d) (hdN : Nat.blt d c.N = true)
    (ht : tdOf T t = some (.slice e)) (hut : tdOf T u = some .str) (he : u8I P e = true) (hs : evalS σ s = some (.ref id x0, p)) (hrow : F.lookup id = some (.own x0' e 1 n g)) (hx : evalS σ x = some (.v (.string str), q))
    (hC : x0 = x0' ∧ p ∧ q) (hl : n + str.size ≤ 140737488355328)
    : O P ops c o σ F Q [id] Value (fun x1 => (d, .ref id x1) :: σ) (fun x1 => setF id id (.own x1 e 1 (n + str.size) (joinG n g (byteG str))) F) := by
  intro a w hR K hK
  refine Op1.plain hg ?_
  obtain ⟨rfl, hp, hq⟩ := hC
  have hA := hR.evals hs hp
  have hA' : a.eval s = x0 := by generalize a.eval s = v at hA; cases hA; rfl
  have hB := hR.evals hx hq
  have hB' : a.eval x = .string str := by generalize a.eval x = v at hB; cases hB; rfl
  obtain ⟨us, hown, hlen, h1, hr⟩ := hR.sat.at hrow
  obtain ⟨i1, hi1, hd1⟩ := tdOf_some ht
  obtain ⟨i3, hi3, hd3⟩ := tdOf_some hut
  obtain ⟨j, j1, j2, j3, j4⟩ := u8I_ok he
  obtain ⟨v1, w1, r1, r2, r3, -⟩ := Lib.run_append_own_string (P := P) w 0 t u o.type e j ((hT.told hi1).slice hd1) ((hT.told hi3).str hd3) j1 j4 j2 j3 x0 n us hown str (by simp only [maxLen]; omega) hl (Nat.zero_le _)
  have hxl : us.length = n := by simpa using hown.1
  have r4 : v1.ownBlock = x0.ownBlock ∨ v1.ownBlock = some w.heap.size := by
    have same : ∀ {v2 : Value} {w2 : World}, (Builtin.append_ #[t, u] o.type #[x0, .string str]).run P w = .ok v2 w2 → v1 = v2 := fun h => by
      rw [r1] at h
      cases h
      rfl
    rcases hown.2 with ⟨rfl, rfl⟩ | ⟨g', cap, cur, rfl, hbg, hh, hnc, hcm, hcs, htk⟩
    · by_cases hm : str.size = 0
      · have hf := Lib.run_firstCells_string (P := P) w 1 str
        rw [hm] at hf
        have hz : Lib.strCells str = [] := List.eq_nil_of_length_eq_zero (by rw [Lib.strCells_length]; exact hm)
        have := same (v2 := .slice none 0 0) (w2 := w) (by simp [Builtin.append_, run_underlying ((hT.told hi1).slice hd1), run_underlying ((hT.told hi3).str hd3), sizeOf, typeInfo, j1, j2, Builtin.lenOf, hm, hf])
        rw [this]
        exact .inl rfl
      · have := same (run_append_nil_string (P := P) w t u o.type e j (.int .u8 0) ((hT.told hi1).slice hd1) ((hT.told hi3).str hd3) j1 j4 str (by omega) (by omega) (by rw [j3]; omega))
        rw [this]
        exact .inr rfl
    · by_cases hroom : n + str.size ≤ cap
      · have hcs' : cur.size = cap := by simpa using hcs
        have := same (Lib.run_append_room_string (P := P) w t u o.type e j ((hT.told hi1).slice hd1) ((hT.told hi3).str hd3) j1 j2 g' n cap cur hh str hroom (by omega))
        rw [this]
        exact .inl rfl
      · have holds : ∀ j u, us[j]? = some u → w.cell? ((⟨g', 0, none⟩ : Addr).add j) = some u := hown.cells (g := g') rfl
        have := same (Lib.run_append_grow_string (P := P) w t u o.type e j (.int .u8 0) ((hT.told hi1).slice hd1) ((hT.told hi3).str hd3) j1 j4 ⟨g', 0, none⟩ n cap us (by rw [j2]; simpa using hxl) holds str (by omega) (by omega) (by rw [j3]; exact growslice_fits (by omega) (by omega)))
        rw [this]
        exact .inr rfl
  obtain ⟨k1, k2, k3, k4⟩ := hR.write (i' := id) (r' := .own v1 e 1 (n + str.size) (joinG n g (byteG str))) hrow (w' := w1) r3.size r3.os r3.tape r3.output
    (fun b hlt hne => r3.block b hlt fun e => hne e.symm) (fun b hb => by
      rcases r4 with h | h
      · left; exact h.symm.trans hb
      · right; have e := h.symm.trans hb; cases e; exact Nat.le_refl _) (fun hext => by
      obtain ⟨j1, j2⟩ := join_rep (g2 := byteG str) (m := str.size) (news := Lib.strCells str) hext hown.1 hlen hr (fun i hi => rfl) (fun i hi j A hA => by
        have hj : j = 0 := by
          have := (List.getElem?_eq_some_iff.1 hA).1
          have e : (byteG str i).length = 1 := rfl
          omega
        subst hj
        cases hA
        have his : i < str.data.size := hi
        refine ⟨_, ?_, .v _⟩
        rw [Nat.mul_one, Nat.add_zero, Lib.strCells, List.getElem?_map, Array.getElem?_toList, Array.getElem?_eq_getElem his, Array.getD_eq_getD_getElem?, Array.getElem?_eq_getElem his]
        rfl)
      exact ⟨us ++ Lib.strCells str, r2, j1, fun u hu => by rcases List.mem_append.1 hu with h | h; exact h1 u h; exact Lib.strCells_oneCell str u h, j2⟩)
  have hgive : (execOp a.eval o).run P w = .ok (.value v1) w1 := by
    simp [execOp, ho, resolve, invoke, builtin, hA', hB', r1]
  simp only [Oper.wp]
  rw [hgive, Oper.upon_value, hd]
  have hone : v1.oneCell' = true := by
    obtain ⟨A, cap, rfl, -⟩ := own_form0 r2; rfl
  exact hK v1 _ _ (hR.step (of_blt hdN) k1 k2 k3 k4.ext (.ref _ _ hone)) k4 ⟨_, by rw [hd]⟩

theorem L.toStr {s dt e : TypeId} {x : Operand} {d m : Nat} {g2 : Nat → List AV} {B : AV} {q C : Prop} {str : ByteArray} (hT : TOk P T) (ho : o.op = .convert s dt x) (hg : o.guard = none) (hd : o.dst = some d) (hdN : Nat.blt d c.N = true)
    (hs : tdOf T s = some (.slice e)) (he : tdOf T e = some (.int .u8)) (hdt : tdOf T dt = some .str) (hx : evalS σ x = some (B, q)) (hsrc : srcA F 1 B = some (m, g2, C)) (hC : q ∧ C) (hm : m = str.size) (hg2 : ∀ i, i < m → g2 i = byteG str i)
    (next : L P ops c rest ((d, .v (.string str)) :: σ) F Q) : L P ops c (o :: rest) σ F Q := L.of (O.toStr hT ho hg hd hdN hs he hdt hx hsrc hC hm hg2) fun _ => next
theorem L.appStr {s x : Operand} {t u e : TypeId} {id : Nat} {x0 x0' : Value} {n d : Nat} {g : Nat → List AV} {str : ByteArray} {p q : Prop} (hT : TOk P T) (ho : o.op = .call { callee := .builtin .append, args := #[s, x], argTypes := #[t, u] }) (hg : o.guard = none) (hd : o.dst = some d) (hdN : Nat.blt d c.N = true)
    (ht : tdOf T t = some (.slice e)) (hut : tdOf T u = some .str) (he : u8I P e = true) (hs : evalS σ s = some (.ref id x0, p)) (hrow : F.lookup id = some (.own x0' e 1 n g)) (hx : evalS σ x = some (.v (.string str), q))
    (hC : x0 = x0' ∧ p ∧ q) (hl : n + str.size ≤ 140737488355328)
    (next : ∀ x1 : Value, L P ops c rest ((d, .ref id x1) :: σ) (setF id id (.own x1 e 1 (n + str.size) (joinG n g (byteG str))) F) Q) : L P ops c (o :: rest) σ F Q := L.of (O.appStr hT ho hg hd hdN ht hut he hs hrow hx hC hl) next
end
end Go.Proofs.YtbogfmgfafdjiaaGreatDoor

/- make([]T, n), on abstract values. -/
namespace Go.Proofs.YtbogfmgfafdjiaaGreatDoor
set_option linter.unusedVariables false
set_option linter.unusedSimpArgs false
set_option maxHeartbeats 8000000
open Go.RowKit

section
variable {P : Program} {T : Types} {c : Ctx} {σ : Slots} {F : Rows} {Q : Exit → Act → World → Prop} {ops : Array Oper} {rest : List Oper} {o : Oper}
theorem sat_own_tile {own : Nat → Prop} {w : World} {b E sz n : Nat} {us zs : List Value} (hh : w.heap[b]? = some (.cells us.toArray E (0, 0))) (hz : zs.length = sz) (h1 : ∀ u ∈ zs, u.oneCell' = true) (hn : us.length = n * sz) (hm : n ≤ maxLen) (hu : ∀ j, j < n * sz → us[j]? = zs[j % sz]?) :
    Row.sat own w (.own (.slice (some ⟨b, 0, none⟩) n n) E sz n (fun _ => zs.map .v)) := by
  have pos : ∀ j, j < n * sz → 0 < sz := fun j hj => by
    rcases Nat.eq_zero_or_pos sz with h | h
    · rw [h] at hj; simp at hj
    · exact h
  have key : ∀ i, i < n → i * sz + sz ≤ n * sz := fun i hi => by have := Nat.mul_le_mul_right sz (show i + 1 ≤ n by omega); rw [Nat.add_mul, Nat.one_mul] at this; exact this
  refine ⟨us, ⟨hn, .inr ⟨b, n, us.toArray, rfl, Nat.zero_le _, hh, Nat.le_refl _, hm, by simpa using hn, by rw [← hn]; simp⟩⟩, fun i hi => by simp [hz], fun u hu' => ?_, fun i hi j A hA => ?_⟩
  · obtain ⟨j, hj, rfl⟩ := List.mem_iff_getElem.1 hu'
    have := hu j (by omega)
    rw [List.getElem?_eq_getElem hj] at this
    exact h1 _ (List.mem_of_getElem? this.symm)
  · rw [List.getElem?_map] at hA
    cases hq : zs[j]? with
    | none => simp [hq] at hA
    | some y =>
      simp only [hq, Option.map_some, Option.some.injEq] at hA
      subst hA
      have hj : j < sz := by rw [← hz]; exact (List.getElem?_eq_some_iff.1 hq).1
      have k1 := key i hi
      refine ⟨y, ?_, .v _⟩
      rw [hu _ (by omega), Nat.mul_comm i sz, Nat.mul_add_mod, Nat.mod_eq_of_lt hj, hq]

theorem repV {own : Nat → Prop} {w : World} {u v : Value} (h : Rep own w (.v u) v) : v = u := by cases h; rfl
theorem O.makeSlice {t e : TypeId} {x y : Operand} {n : TI} {d : Nat} {l l' : Int} {p q : Prop} (i len : Nat) (hT : TOk P T) (ho : o.op = .makeSlice t x y) (hg : o.guard = none) (hd : o.dst = some d) (hdN : Nat.blt d c.N = true)
    (ht : tdOf T t = some (.slice e)) (he : T.lookup e = some n) (hx : evalS σ x = some (.v (.int .i64 l), p)) (hy : evalS σ y = some (.v (.int .i64 l'), q)) (hpq : p ∧ q) (hl : l = (len : Int)) (hl' : l' = (len : Int)) (hb : n.bytes * len ≤ 281474976710656) (hm : len ≤ 16777216)
    : O P ops c o σ F Q [] Value (fun x => (d, .ref i x) :: σ) (fun x => (i, .own x e n.size len (fun _ => n.zero.map .v)) :: F) := by
  intro a w hR K hK
  refine Op1.plain hg ?_
  subst hl
  subst hl'
  obtain ⟨ti, hti, htd⟩ := tdOf_some ht
  have told := hT.told he
  obtain ⟨j, z, hj, hsz, hby, hz, hzz⟩ := told.info
  have ex : a.eval x = .int .i64 (len : Int) := repV (hR.evals hx hpq.1)
  have ey : a.eval y = .int .i64 (len : Int) := repV (hR.evals hy hpq.2)
  have hb' : (j.bytes : Int) * (len : Int) ≤ 281474976710656 := by
    have h : ((j.bytes * len : Nat) : Int) ≤ 281474976710656 := by rw [hby]; omega
    rwa [Int.natCast_mul] at h
  have hr := run_make (P := P) w t e j z ((hT.told hti).slice htd) hj hz .i64 .i64 (len : Int) (len : Int) (by omega) (Int.le_refl _) hb' (by omega)
  simp only [Int.toNat_natCast, hsz] at hr
  have hzl : z.cells.toList.length = n.size := by rw [hzz, told.zsize]
  have hzs : z.cells.size = n.size := by rw [← Array.length_toList, hzl]
  obtain ⟨k1, k2, k3, k4⟩ := hR.make (.cells (madeCells z.cells (len * n.size)) e) (i := i) (r := .own (.slice (some ⟨w.heap.size, 0, none⟩) len len) e n.size len (fun _ => n.zero.map .v)) (fun b hb => by cases hb; exact Nat.le_refl _) fun hext => by
    refine sat_own_tile (us := (madeCells z.cells (len * n.size)).toList) (zs := n.zero) (by simpa using heap_alloc_new w (.cells (madeCells z.cells (len * n.size)) e)) told.zsize told.zone (by simp [size_madeCells]) (by simp only [maxLen]; omega) fun k hk => ?_
    have hpos : 0 < n.size := told.pos
    have hlt : k % n.size < z.cells.size := by rw [hzs]; exact Nat.mod_lt _ hpos
    have hk2 : k < (madeCells z.cells (len * n.size)).toList.length := by simp [size_madeCells]; exact hk
    rw [List.getElem?_eq_getElem hk2, ← hzz]
    simp only [madeCells, Array.toList_map, Array.toList_range, List.getElem_map, List.getElem_range, hzs]
    rw [getElem!_pos z.cells _ hlt, Array.getElem?_toList, Array.getElem?_eq_getElem hlt]
  have hgive : (execOp a.eval o).run P w = .ok (.value (.slice (some ⟨w.heap.size, 0, none⟩) len len)) (w.alloc (.cells (madeCells z.cells (len * n.size)) e)) := by
    simp [execOp, ho, ex, ey, hr]
  simp only [Oper.wp]
  rw [hgive, Oper.upon_value, hd]
  exact hK _ _ _ (hR.step (of_blt hdN) k1 k2 k3 k4.ext (.ref _ _ rfl)) k4 ⟨_, by rw [hd]⟩
theorem L.makeSlice {t e : TypeId} {x y : Operand} {n : TI} {d : Nat} {l l' : Int} {p q : Prop} (i len : Nat) (hT : TOk P T) (ho : o.op = .makeSlice t x y) (hg : o.guard = none) (hd : o.dst = some d) (hdN : Nat.blt d c.N = true)
    (ht : tdOf T t = some (.slice e)) (he : T.lookup e = some n) (hx : evalS σ x = some (.v (.int .i64 l), p)) (hy : evalS σ y = some (.v (.int .i64 l'), q)) (hpq : p ∧ q) (hl : l = (len : Int)) (hl' : l' = (len : Int)) (hb : n.bytes * len ≤ 281474976710656) (hm : len ≤ 16777216)
    (next : ∀ x, L P ops c rest ((d, .ref i x) :: σ) ((i, .own x e n.size len (fun _ => n.zero.map .v)) :: F) Q) : L P ops c (o :: rest) σ F Q := L.of (O.makeSlice i len hT ho hg hd hdN ht he hx hy hpq hl hl' hb hm) next
end
end Go.Proofs.YtbogfmgfafdjiaaGreatDoor

/- From a contract to a row. -/
namespace Go.Proofs.YtbogfmgfafdjiaaGreatDoor
set_option linter.unusedVariables false
set_option linter.unusedSimpArgs false
set_option maxHeartbeats 8000000
open Go.RowKit

def Reps (own : Nat → Prop) (w : World) : List AV → List Value → Prop
  | [], [] => True
  | A :: l, v :: m => Rep own w A v ∧ Reps own w l m
  | _, _ => False
theorem Reps.get {own : Nat → Prop} {w : World} : ∀ {l : List AV} {m : List Value}, Reps own w l m → m.length = l.length ∧ ∀ (j : Nat) A u, l[j]? = some A → m[j]? = some u → Rep own w A u
  | [], [], _ => ⟨rfl, fun j A u h => by simp at h⟩
  | A :: l, v :: m, h => by
    obtain ⟨h1, h2⟩ := Reps.get h.2
    refine ⟨by simp [h1], fun j B u hB hu => ?_⟩
    cases j with
    | zero => simp at hB hu; subst hB; subst hu; exact h.1
    | succ j => exact h2 j B u (by simpa using hB) (by simpa using hu)
  | [], _ :: _, h => h.elim
  | _ :: _, [], h => h.elim

theorem PFn.row {P : Program} {f : FuncId} {As : List AV} {r : Bool} (h : PFn P f As (.v (.bool r))) {w : World} {vs : List Value} (hr : Reps (fun _ => False) w As vs) : Calls P f vs.toArray w fun e w' => e = .returned (.bool r) ∧ Below w.heap.size w w' := by
  obtain ⟨h1, h2⟩ := hr.get
  refine (h (fun _ => False) w vs (fun b h => h.elim) (Sat.nil _ _) h1 fun j A u hA hu => (h2 j A u hA hu).ext (Ext.less (fun b hb => by rcases hb with hb | ⟨s, hs, -⟩; exact hb; cases hs) w)).mono ?_
  rintro e w' ⟨v, r', F', ⟨rfl, rfl⟩, rfl, hrep, -, hk, -⟩
  cases hrep
  exact ⟨rfl, hk.os, hk.tape, hk.output, hk.size, fun b hlt => hk.block b hlt fun ⟨s, hs, _⟩ => by cases hs⟩

end Go.Proofs.YtbogfmgfafdjiaaGreatDoor

/- Arguments that can be read as data, as abstract values. -/
namespace Go.Proofs.YtbogfmgfafdjiaaGreatDoor
set_option linter.unusedVariables false
set_option linter.unusedSimpArgs false
set_option maxHeartbeats 8000000
open Go.RowKit

def Rds (w : World) (As : List AV) (cs : List Value) : Prop := cs.length = As.length ∧ (∀ u ∈ cs, u.oneCell' = true) ∧ ∀ (j : Nat) A u, As[j]? = some A → cs[j]? = some u → Rep (fun _ => False) w A u

/-- What is read as a type is such a thing. -/
def RdP {α : Type} (P : Program) (t : TypeId) (enc : α → List AV) (ok : α → Prop) : Prop := ∀ (H : Type) (en : TypeId × Value → H) (W : World) (base : Nat) (spare : Nat → Bool) (held : Bool) (fuel : Nat) (cs : List Value) (x : DataW H × List MemPlace),
  DataW.trod en P W base spare held fuel t cs = some x → ∃ d, ok d ∧ Rds W (enc d) cs

theorem Rds.one {w : World} {A : AV} {v : Value} (h1 : v.oneCell' = true) (h : Rep (fun _ => False) w A v) : Rds w [A] [v] :=
  ⟨rfl, fun u hu => by rw [List.mem_singleton.1 hu]; exact h1, fun j B u hB hu => by
    cases j with
    | zero => simp at hB hu; subst hB; subst hu; exact h
    | succ j => simp at hB⟩
theorem Rds.app {w : World} {As Bs : List AV} {cs ds : List Value} (h : Rds w As cs) (k : Rds w Bs ds) : Rds w (As ++ Bs) (cs ++ ds) := by
  refine ⟨by simp [h.1, k.1], fun u hu => (List.mem_append.1 hu).elim (h.2.1 u) (k.2.1 u), fun j A u hA hu => ?_⟩
  rw [List.getElem?_append] at hA hu
  rw [h.1] at hu
  split at hA
  · rename_i hj; rw [if_pos hj] at hu; exact h.2.2 j A u hA hu
  · rename_i hj; rw [if_neg hj] at hu; exact k.2.2 _ A u hA hu

section
variable {P : Program} {t e : TypeId}
theorem rd_int {k : IntKind} (ht : P.underlying t = some (.int k)) : RdP P t (fun z : Int => [.v (.int k z)]) (fun z => (Lit.int k z).wf = true) := by
  intro H en W base spare held fuel cs x h
  obtain ⟨n, rfl, -, hw⟩ := DataW.trod_int ht h
  exact ⟨n, hw, Rds.one rfl (.v _)⟩
theorem rd_bool (ht : P.underlying t = some .bool) : RdP P t (fun z : Bool => [.v (.bool z)]) (fun _ => True) := by
  intro H en W base spare held fuel cs x h
  obtain ⟨n, rfl, -⟩ := DataW.trod_bool ht h
  exact ⟨n, trivial, Rds.one rfl (.v _)⟩
theorem rd_str (ht : P.underlying t = some .string) : RdP P t (fun z : ByteArray => [.v (.string z)]) (fun z => z.size ≤ maxLen) := by
  intro H en W base spare held fuel cs x h
  obtain ⟨n, rfl, -, hw⟩ := DataW.trod_string ht h
  exact ⟨n, hw, Rds.one rfl (.v _)⟩
theorem RdP.map {α β : Type} {enc : α → List AV} {ok : α → Prop} {enc' : β → List AV} {ok' : β → Prop} (h : RdP P t enc ok) (f : α → β) (he : ∀ d, enc' (f d) = enc d) (hk : ∀ d, ok d → ok' (f d)) : RdP P t enc' ok' := by
  intro H en W base spare held fuel cs x hx
  obtain ⟨d, h1, h2⟩ := h H en W base spare held fuel cs x hx
  exact ⟨f d, hk d h1, by rw [he]; exact h2⟩

theorem list_of {α : Type} {Q : Nat → α → Prop} : ∀ (n : Nat), (∀ i, i < n → ∃ d, Q i d) → ∃ l : List α, l.length = n ∧ ∀ i (h : i < l.length), Q i l[i]
  | 0, _ => ⟨[], rfl, fun i h => absurd h (by simp)⟩
  | n + 1, h => by
    obtain ⟨l, h1, h2⟩ := list_of (Q := Q) n fun i hi => h i (by omega)
    obtain ⟨d, hd⟩ := h n (by omega)
    refine ⟨l ++ [d], by simp [h1], fun i hi => ?_⟩
    rw [List.getElem_append]
    split
    · rename_i h3; exact h2 i h3
    · rename_i h3
      have : i = n := by simp at hi; omega
      subst this
      simpa [h1] using hd

theorem rd_slice {α : Type} [Inhabited α] {enc : α → List AV} {ok : α → Prop} {sz : Nat} (ht : P.underlying t = some (.slice e)) (hc : P.cellsOf e = sz) (hl : ∀ d, (enc d).length = sz) (he : RdP P e enc ok) :
    RdP P t (fun l : List α => [.lst sz l.length (gOf enc l)]) (fun l => l.length ≤ maxLen ∧ ∀ d ∈ l, ok d) := by
  intro H en W base spare held fuel cs x h
  rcases DataW.trod_slice ht h with ⟨rfl, -⟩ | ⟨a, len, cap, elems, rest, n, -, rfl, -, hb, hle, hm, hlen, hel, -, -⟩
  · exact ⟨[], ⟨by simp [maxLen], by simp⟩, Rds.one rfl (Imp.nil _ _ _ _ _ (.v _))⟩
  · have each : ∀ i, i < len → ∃ d, ok d ∧ ∃ cs' : List Value, W.cells? base (a.add (i * sz)) sz = some cs' ∧ Rds W (enc d) cs' := by
      intro i hi
      have h1 := hel i hi
      rw [hc, List.getElem?_eq_getElem (by omega), Option.bind_eq_some_iff] at h1
      obtain ⟨cs', h2, h3⟩ := h1
      obtain ⟨d, h4, h5⟩ := he H en W base spare held n cs' _ h3
      exact ⟨d, h4, cs', h2, h5⟩
    obtain ⟨l, h1, h2⟩ := list_of len each
    have h3 : ∀ i, ∃ cs' : List Value, ∀ (hi : i < l.length), W.cells? base (a.add (i * sz)) sz = some cs' ∧ Rds W (enc l[i]) cs' := fun i => by
      by_cases hi : i < l.length
      · obtain ⟨-, cs', h4, h5⟩ := h2 i hi; exact ⟨cs', fun _ => ⟨h4, h5⟩⟩
      · exact ⟨[], fun h => absurd h hi⟩
    obtain ⟨cf, hcf⟩ := Classical.axiomOfChoice h3
    subst h1
    refine ⟨l, ⟨by omega, fun d hd => ?_⟩, Rds.one rfl ?_⟩
    · obtain ⟨i, hi, rfl⟩ := List.getElem_of_mem hd
      exact (h2 i hi).1
    have hg : ∀ i (hi : i < l.length), gOf enc l i = enc l[i] := fun i hi => by rw [gOf, List.getD_eq_getElem?_getD, List.getElem?_eq_getElem hi]; rfl
    refine .lst (fun i j => if i < l.length then (cf i).getD j (.bool false) else .bool false) hle hm (fun h => by cases h) (fun i hi => by rw [hg i hi]; exact hl _) (fun i j => ?_) (fun ad had i hi j hj => ?_) (fun _ _ _ _ h => h) (fun i hi j B hB => ?_)
    · split
      · rename_i hi
        rw [List.getD_eq_getElem?_getD]
        cases hq : (cf i)[j]? with
        | none => rfl
        | some u => exact (hcf i hi).2.2.1 u (List.mem_of_getElem? hq)
      · rfl
    · cases had
      obtain ⟨g1, g2⟩ := hcf i hi
      rw [if_pos hi, ← add_add]
      have hlen' : j < (cf i).length := by rw [g2.1, hl]; exact hj
      have g3 := World.cells?_some g1
      rw [List.getD_eq_getElem?_getD, List.getElem?_eq_getElem hlen']
      have := g3.2.2 j hj
      rw [this, List.getElem?_eq_getElem hlen']
      rfl
    · rw [hg i hi] at hB
      rw [if_pos hi]
      obtain ⟨g1, g2⟩ := hcf i hi
      have hlen' : j < (cf i).length := by rw [g2.1]; exact (List.getElem?_eq_some_iff.1 hB).1
      rw [List.getD_eq_getElem?_getD, List.getElem?_eq_getElem hlen']
      exact g2.2.2 j B _ hB (List.getElem?_eq_getElem hlen')

/-- Fields, from a place on. -/
def RdF {α : Type} (P : Program) (fs : List (Nat × TypeId × Nat)) (k : Nat) (enc : α → List AV) (ok : α → Prop) : Prop := ∀ (H : Type) (en : TypeId × Value → H) (W : World) (base : Nat) (spare : Nat → Bool) (held : Bool) (cs : List Value),
  (∀ f ∈ fs, ∃ fuel x, DataW.trod en P W base spare held fuel f.2.1 ((cs.drop f.1).take f.2.2) = some x) → cs.length = k + (fs.map (·.2.2)).sum → ∃ d, ok d ∧ Rds W (enc d) (cs.drop k)
theorem rdf_nil {k : Nat} : RdF P [] k (fun _ : Unit => []) (fun _ => True) := by
  intro H en W base spare held cs _ hl
  refine ⟨(), trivial, ?_⟩
  rw [List.drop_of_length_le (by simp at hl; omega)]
  exact ⟨rfl, by simp, by simp⟩
theorem rdf_cons {α β : Type} {enc1 : α → List AV} {ok1 : α → Prop} {enc2 : β → List AV} {ok2 : β → Prop} {fs : List (Nat × TypeId × Nat)} {k n : Nat} (h1 : RdP P t enc1 ok1) (h2 : RdF P fs (k + n) enc2 ok2) :
    RdF P ((k, t, n) :: fs) k (fun d : α × β => enc1 d.1 ++ enc2 d.2) (fun d => ok1 d.1 ∧ ok2 d.2) := by
  intro H en W base spare held cs hf hl
  obtain ⟨fuel, x, hx⟩ := hf _ (List.mem_cons_self ..)
  obtain ⟨d1, g1, g2⟩ := h1 H en W base spare held fuel _ x hx
  simp only [List.map_cons, List.sum_cons] at hl
  obtain ⟨d2, g3, g4⟩ := h2 H en W base spare held cs (fun f hf' => hf f (List.mem_cons_of_mem _ hf')) (by omega)
  refine ⟨(d1, d2), ⟨g1, g3⟩, ?_⟩
  have e : cs.drop k = (cs.drop k).take n ++ cs.drop (k + n) := by
    rw [← List.drop_drop, List.take_append_drop]
  rw [e]
  exact g2.app g4
theorem rd_struct {α : Type} {T : Types} (hT : TOk P T) {i : TI} {fs : List (Nat × TypeId × Nat)} {enc : α → List AV} {ok : α → Prop} (ht : T.lookup t = some i) (hd : i.d = .struct fs) (hs : i.size = (fs.map (·.2.2)).sum) (h : RdF P fs 0 enc ok) : RdP P t enc ok := by
  intro H en W base spare held fuel cs x hx
  have told := hT.told ht
  obtain ⟨l, hu, hf⟩ := told.struct hd
  obtain ⟨xs, n, -, -, hl, hlen, hall⟩ := DataW.trod_struct hu hx
  have hsz : P.cellsOf t = i.size := by
    obtain ⟨j, z, h1, h2, -⟩ := told.info
    simp [Program.cellsOf, h1, h2]
  have hh : ∀ f ∈ fs, ∃ fuel x, DataW.trod en P W base spare held fuel f.2.1 ((cs.drop f.1).take f.2.2) = some x := by
    intro f hfm
    obtain ⟨j, hj⟩ := List.getElem?_of_mem hfm
    obtain ⟨o, tf, m⟩ := f
    obtain ⟨g, g1, rfl, rfl, g4, -⟩ := fsOk_get hf hj
    have hg : l[j]? = some g := by simpa using g1
    have hjl : j < xs.length := by rw [hlen]; exact (Array.getElem?_eq_some_iff.1 hg).1
    have h5 := hall j g hg
    have h6 : P.cellsOf g.type = m := by simp [Program.cellsOf, g4]
    rw [List.getElem?_eq_getElem hjl, h6] at h5
    exact ⟨n, _, h5⟩
  obtain ⟨d, h1, h2⟩ := h H en W base spare held cs hh (by omega)
  exact ⟨d, h1, by simpa using h2⟩
theorem RdP.read {α : Type} {enc : α → List AV} {ok : α → Prop} (h : RdP P t enc ok) {H : Type} {en : TypeId × Value → H} {W : World} {base : Nat} {spare : Nat → Bool} {held : Bool} {v : Value} {d : DataW H} {ps : List MemPlace} (hd : DataW.Trod en P W base spare held t v d ps) :
    ∃ d, ok d ∧ Rds W (enc d) v.cells.toList := by
  obtain ⟨fuel, hf⟩ := hd
  exact h H en W base spare held fuel _ _ hf
end

theorem wf_fit {z : Int} (h : (Lit.int .i64 z).wf = true) : fitI z := by
  have e1 : IntKind.i64.min = -9223372036854775808 := rfl
  have e2 : IntKind.i64.max = 9223372036854775807 := rfl
  simp only [Lit.wf, Bool.and_eq_true, decide_eq_true_eq, e1, e2] at h
  unfold fitI
  omega
theorem reads_slice {w : World} {A : AV} {v : Value} {a : Option Addr} {l c : Nat} (hv : v = .slice a l c) (h : Rds w [A] v.cells.toList) : Rep (fun _ => False) w A v := by
  subst hv
  exact h.2.2 0 A _ rfl rfl

end Go.Proofs.YtbogfmgfafdjiaaGreatDoor

/- Numbers below a hundred, as texts. -/
namespace Go.Proofs.YtbogfmgfafdjiaaGreatDoor
set_option linter.unusedVariables false
set_option linter.unusedSimpArgs false
set_option maxHeartbeats 8000000
open Go.RowKit
set_option maxRecDepth 4000

def d36 : ByteArray := ⟨#[48,49,50,51,52,53,54,55,56,57,97,98,99,100,101,102,103,104,105,106,107,108,109,110,111,112,113,114,115,116,117,118,119,120,121,122]⟩
def d100 : ByteArray := ⟨#[48,48,48,49,48,50,48,51,48,52,48,53,48,54,48,55,48,56,48,57,49,48,49,49,49,50,49,51,49,52,49,53,49,54,49,55,49,56,49,57,50,48,50,49,50,50,50,51,50,52,50,53,50,54,50,55,50,56,50,57,51,48,51,49,51,50,51,51,51,52,51,53,51,54,51,55,51,56,51,57,52,48,52,49,52,50,52,51,52,52,52,53,52,54,52,55,52,56,52,57,53,48,53,49,53,50,53,51,53,52,53,53,53,54,53,55,53,56,53,57,54,48,54,49,54,50,54,51,54,52,54,53,54,54,54,55,54,56,54,57,55,48,55,49,55,50,55,51,55,52,55,53,55,54,55,55,55,56,55,57,56,48,56,49,56,50,56,51,56,52,56,53,56,54,56,55,56,56,56,57,57,48,57,49,57,50,57,51,57,52,57,53,57,54,57,55,57,56,57,57]⟩
/-- A number below a hundred, as a text. -/
def numT (i : Int) : ByteArray := if i < 10 then d36.extract i.toNat (i + 1).toNat else d100.extract (i * 2).toNat (i * 2 + 2).toNat
theorem numT_size {i : Int} (h0 : 0 ≤ i) (h1 : i < 100) : (numT i).size ≤ 2 := by
  unfold numT
  split
  · rw [ByteArray.size_extract]; omega
  · rw [ByteArray.size_extract]; omega
theorem d36_size : d36.size = 36 := rfl
theorem d100_size : d100.size = 200 := by decide +kernel
theorem small_p (i : Int) (h0 : 0 ≤ i) (h1 : i < 100) : PFn Tryz.prog 242 [.v (.int .i64 i)] (.v (.string (numT i))) := by
  have s1 := d36_size
  have s2 := d100_size
  unfold d36 at s1
  unfold d100 at s2
  refine FnC.intro Tryz.func242 rfl Tryz.ntmps242 rfl ?_; intro off w0
  ((repeat refine S.seq ?_); refine wG (k := ?_); try (refine L.nil ?_))
  ((repeat refine S.seq ?_); refine wG (k := ?_); try (refine L.nil ?_))
  ((repeat refine S.seq ?_); refine S.cond rfl (fun h2 => ?_) (fun h2 => ?_) <;> (try first | refine S.skip ?_ | refine S.exit ?_))
  · have h2n : i < 10 := of_dec h2
    ((repeat refine S.seq ?_); refine wG (k := ?_); try (refine L.nil ?_))
    (((repeat refine S.seq ?_); refine S.ret ?_); refine wRt (k := Imp.of_eq ?_))
    rw [numT, if_pos h2n]
    rfl
  have h2n : ¬ i < 10 := of_dec' h2
  ((repeat refine S.seq ?_); refine wG (k := ?_); try (refine L.nil ?_))
  (((repeat refine S.seq ?_); refine S.ret ?_); refine wRt (k := Imp.of_eq ?_))
  rw [numT, if_neg h2n]
  rfl
theorem formatInt_p (i : Int) (h0 : 0 ≤ i) (h1 : i < 100) : PFn Tryz.prog 166 [.v (.int .i64 i), .v (.int .i64 10)] (.v (.string (numT i))) := by
  refine FnC.intro Tryz.func166 rfl Tryz.ntmps166 rfl ?_; intro off w0
  ((repeat refine S.seq ?_); refine wG (k := ?_); try (refine L.nil ?_))
  ((repeat refine S.seq ?_); refine wG (k := ?_); try (refine L.nil ?_))
  ((repeat refine S.seq ?_); refine S.cond rfl (fun h2 => ?_) (fun h2 => ?_) <;> (try first | refine S.skip ?_ | refine S.exit ?_))
  · ((repeat refine S.seq ?_); refine wG (k := ?_); try (refine L.nil ?_))
    ((repeat refine S.seq ?_); refine S.cond rfl (fun h3 => ?_) (fun h3 => ?_) <;> (try first | refine S.skip ?_ | refine S.exit ?_))
    · ((repeat refine S.seq ?_); refine wG (k := ?_); try (refine L.nil ?_))
      refine wP ((small_p i h0 h1)) (k := ?_)
      (refine wL (k := ?_); try (refine L.nil ?_))
      (((repeat refine S.seq ?_); refine S.ret ?_); refine wRt (k := Imp.of_eq ?_))
      rfl
    exfalso
    simp at h3
    omega
  cases h2
theorem iitoa_p (i : Int) (h0 : 0 ≤ i) (h1 : i < 100) : PFn Tryz.prog 101 [.v (.int .i64 i)] (.v (.string (numT i))) := by
  refine FnC.intro Tryz.func101 rfl Tryz.ntmps101 rfl ?_; intro off w0
  ((repeat refine S.seq ?_); refine wG (k := ?_); try (refine L.nil ?_))
  ((repeat refine S.seq ?_); refine wG (k := ?_); try (refine L.nil ?_))
  refine wP ((formatInt_p i h0 h1)) (k := ?_)
  (refine wL (k := ?_); try (refine L.nil ?_))
  (((repeat refine S.seq ?_); refine S.ret ?_); refine wRt (k := Imp.of_eq ?_))
  rfl
theorem itoa_p (i : Int) (h0 : 0 ≤ i) (h1 : i < 100) : PFn Tryz.prog 63 [.v (.int .i64 i)] (.v (.string (numT i))) := by
  refine FnC.intro Tryz.func63 rfl Tryz.ntmps63 rfl ?_; intro off w0
  ((repeat refine S.seq ?_); refine wG (k := ?_); try (refine L.nil ?_))
  ((repeat refine S.seq ?_); refine wG (k := ?_); try (refine L.nil ?_))
  refine wP ((iitoa_p i h0 h1)) (k := ?_)
  (refine wL (k := ?_); try (refine L.nil ?_))
  (((repeat refine S.seq ?_); refine S.ret ?_); refine wRt (k := Imp.of_eq ?_))
  rfl

end Go.Proofs.YtbogfmgfafdjiaaGreatDoor

/- Points, marks. -/
namespace Go.Proofs.YtbogfmgfafdjiaaGreatDoor
set_option linter.unusedVariables false
set_option linter.unusedSimpArgs false
set_option maxHeartbeats 8000000
open Go.RowKit
set_option maxRecDepth 4000

theorem wf_u32 {z : Int} (h : (Lit.int .u32 z).wf = true) : 0 ≤ z ∧ z < 4294967296 := by
  have e1 : IntKind.u32.min = 0 := rfl
  have e2 : IntKind.u32.max = 4294967295 := rfl
  simp only [Lit.wf, Bool.and_eq_true, decide_eq_true_eq, e1, e2] at h
  omega

/-- Of a text. -/
def x32 (a b : Int) : Int := IntKind.u32.wrap (BitVec.ofInt IntKind.u32.bits a ^^^ BitVec.ofInt IntKind.u32.bits b).toNat
def ofTo (s : ByteArray) : Nat → Int
  | 0 => 2166136261
  | k + 1 => IntKind.u32.wrap (x32 (ofTo s k) (IntKind.u32.wrap (byteAt s k)) * 16777619)
def ofEnd (h : Int) : Int := IntKind.u32.wrap (x32 h (h.fdiv (2 ^ min (15 : Int).toNat IntKind.u32.bits)) * 2246822519)
def ofP (s : ByteArray) : Int := x32 (ofEnd (ofTo s s.size)) ((ofEnd (ofTo s s.size)).fdiv (2 ^ min (13 : Int).toNat IntKind.u32.bits))

theorem pof_p (s : ByteArray) (hs : fitS s) : PFn Tryz.prog 100 [.v (.string s)] (.v (.int .u32 (ofP s))) := by
  refine FnC.intro Tryz.func100 rfl Tryz.ntmps100 rfl ?_; intro off w0
  ((repeat refine S.seq ?_); refine wG (k := ?_); try (refine L.nil ?_))
  repeat refine S.seq ?_
  refine S.scopeE 0 (ι := { k : Nat // k ≤ s.size }) (fun k => [(0, .v (.string s)), (3, .v (.int .u32 (ofTo s k.1))), (4, .v (.int .i64 k.1))])
    (fun k => []) (fun k => s.size - k.1) rfl ?_ ?_
  · rintro ⟨k, hk⟩ J hJ
    dsimp only at hJ ⊢
    ((repeat refine S.seq ?_); refine wG (k := ?_); try (refine L.nil ?_))
    ((repeat refine S.seq ?_); refine S.cond rfl (fun h1 => ?_) (fun h1 => ?_) <;> (try first | refine S.skip ?_ | refine S.exit ?_))
    · have h1n : k < s.size := by
        simp only [decide_eq_true_eq] at h1
        omega
      unfold fitS at hs
      ((repeat refine S.seq ?_); refine wG (k := ?_); try (refine L.nil ?_))
      ((repeat refine S.seq ?_); refine wG (k := ?_); try (refine L.nil ?_))
      repeat refine S.seq ?_
      refine S.goto ?_
      exact fun a w hR => ⟨rfl, hJ a w ⟨k + 1, by omega⟩ (by simp only; omega) (hR.weak (by (repeat' (first | exact True.intro | exact Imp.refl _ | refine ⟨?_, ?_⟩))) (by (repeat (first | exact List.nil_sublist _ | refine List.Sublist.cons_cons _ ?_ | refine List.Sublist.cons _ ?_))))⟩
    have hk0 : k = s.size := by
      simp only [decide_eq_false_iff_not] at h1
      omega
    subst hk0
    ((repeat refine S.seq ?_); refine wG (k := ?_); try (refine L.nil ?_))
    ((repeat refine S.seq ?_); refine wG (k := ?_); try (refine L.nil ?_))
    ((repeat refine S.seq ?_); refine wG (k := ?_); try (refine L.nil ?_))
    (((repeat refine S.seq ?_); refine S.ret ?_); refine wRt (k := Imp.of_eq ?_))
    rfl
  · intro hp
    ((repeat refine S.seq ?_); refine wG (k := ?_); try (refine L.nil ?_))
    ((repeat refine S.seq ?_); refine wG (k := ?_); try (refine L.nil ?_))
    repeat refine S.seq ?_
    refine S.label ?_
    exact fun a w hR => hp ⟨0, Nat.zero_le _⟩ a w (hR.weak (by (repeat' (first | exact True.intro | exact Imp.refl _ | refine ⟨?_, ?_⟩))) (by (repeat (first | exact List.nil_sublist _ | refine List.Sublist.cons_cons _ ?_ | refine List.Sublist.cons _ ?_))))
theorem rof_p (s : ByteArray) (hs : fitS s) : PFn Tryz.prog 249 [.v (.string s)] (.v (.int .u32 (ofP s))) := by
  unfold fitS at hs
  refine FnC.intro Tryz.func249 rfl Tryz.ntmps249 rfl ?_; intro off w0
  ((repeat refine S.seq ?_); refine wG (k := ?_); try (refine L.nil ?_))
  ((repeat refine S.seq ?_); refine wG (k := ?_); try (refine L.nil ?_))
  ((repeat refine S.seq ?_); refine wG (k := ?_); try (refine L.nil ?_))
  repeat refine S.seq ?_
  refine S.block (S.loop (ι := { k : Nat // k ≤ s.size }) (fun k => [(0, .v (.string s)), (3, .v (.int .u32 (ofTo s k.1))), (4, .v (.int .i64 k.1))])
    (fun k => []) (fun k => s.size - k.1) ?_ ?_)
  · exact fun a w h => ⟨⟨0, Nat.zero_le _⟩, h.weak (by (repeat' (first | exact True.intro | exact Imp.refl _ | refine ⟨?_, ?_⟩))) (by (repeat (first | exact List.nil_sublist _ | refine List.Sublist.cons_cons _ ?_ | refine List.Sublist.cons _ ?_)))⟩
  rintro ⟨k, hk⟩
  dsimp only
  ((repeat refine S.seq ?_); refine wG (k := ?_); try (refine L.nil ?_))
  ((repeat refine S.seq ?_); refine S.cond rfl (fun h1 => ?_) (fun h1 => ?_) <;> (try first | refine S.skip ?_ | refine S.exit ?_))
  · have h1 := of_dec h1
    repeat refine S.seq ?_
    refine S.block ?_
    ((repeat refine S.seq ?_); refine wG (k := ?_); try (refine L.nil ?_))
    ((repeat refine S.seq ?_); refine wG (k := ?_); try (refine L.nil ?_))
    exact fun a w hR => ⟨⟨k + 1, by omega⟩, by simp only; omega, hR.weak (by (repeat' (first | exact True.intro | exact Imp.refl _ | refine ⟨?_, ?_⟩))) (by (repeat (first | exact List.nil_sublist _ | refine List.Sublist.cons_cons _ ?_ | refine List.Sublist.cons _ ?_)))⟩
  · have h1 := of_dec' h1
    have hk0 : k = s.size := by omega
    subst hk0
    ((repeat refine S.seq ?_); refine wG (k := ?_); try (refine L.nil ?_))
    ((repeat refine S.seq ?_); refine wG (k := ?_); try (refine L.nil ?_))
    (((repeat refine S.seq ?_); refine S.ret ?_); refine wRt (k := Imp.of_eq ?_))
    rfl

def wayF (a b : Int) : Int := IntKind.u32.wrap (b - a)
theorem way_p (a b : Int) : PFn Tryz.prog 315 [.v (.int .u32 a), .v (.int .u32 b)] (.v (.int .u32 (wayF a b))) := by
  refine FnC.intro Tryz.func315 rfl Tryz.ntmps315 rfl ?_; intro off w0
  ((repeat refine S.seq ?_); refine wG (k := ?_); try (refine L.nil ?_))
  ((repeat refine S.seq ?_); refine wG (k := ?_); try (refine L.nil ?_))
  (((repeat refine S.seq ?_); refine S.ret ?_); refine wRt (k := Imp.of_eq ?_))
  rfl
def markT (a b : Int) : ByteArray := numT a ++ ⟨#[47]⟩ ++ numT b
theorem pmark_p (a b : Int) (a0 : 0 ≤ a) (a1 : a < 100) (b0 : 0 ≤ b) (b1 : b < 100) : PFn Tryz.prog 130 [.v (.int .i64 a), .v (.int .i64 b)] (.v (.int .u32 (ofP (markT a b)))) := by
  have sa := numT_size a0 a1
  have sb := numT_size b0 b1
  have sc : (numT a ++ (⟨#[47]⟩ : ByteArray)).size = (numT a).size + 1 := by rw [ByteArray.size_append]; rfl
  have sd : (markT a b).size = (numT a).size + 1 + (numT b).size := by rw [markT, ByteArray.size_append, sc]
  refine FnC.intro Tryz.func130 rfl Tryz.ntmps130 rfl ?_; intro off w0
  ((repeat refine S.seq ?_); refine wG (k := ?_); try (refine L.nil ?_))
  ((repeat refine S.seq ?_); refine wG (k := ?_); try (refine L.nil ?_))
  refine wP ((itoa_p a a0 a1)) (k := ?_)
  (refine wL (k := ?_); try (refine L.nil ?_))
  refine wP ((itoa_p b b0 b1)) (k := ?_)
  (refine wL (k := ?_); try (refine L.nil ?_))
  refine wP ((pof_p (markT a b) (by unfold fitS; omega))) (k := ?_)
  (refine wL (k := ?_); try (refine L.nil ?_))
  (((repeat refine S.seq ?_); refine S.ret ?_); refine wRt (k := Imp.of_eq ?_))
  rfl

def numS (n : Int) : ByteArray := ⟨(Lib.itoa n).toArray⟩
theorem numS_size {n : Int} (h : fitI n) : (numS n).size ≤ 21 := by
  show (Lib.itoa n).toArray.size ≤ 21
  have := Lib.itoa_length_le n h.1 h.2
  simpa using this
def mrkT (a b : Int) : ByteArray := numS a ++ ⟨#[47]⟩ ++ numS b
def mrkF (a b : Int) : Int := ofP (mrkT a b)
theorem mrkT_size {a b : Int} (ha : fitI a) (hb : fitI b) : (numS a ++ (⟨#[47]⟩ : ByteArray)).size ≤ 22 ∧ (mrkT a b).size ≤ 43 := by
  have sa := numS_size ha
  have sb := numS_size hb
  have sc : (numS a ++ (⟨#[47]⟩ : ByteArray)).size = (numS a).size + 1 := by rw [ByteArray.size_append]; rfl
  have sd : (mrkT a b).size = (numS a).size + 1 + (numS b).size := by rw [mrkT, ByteArray.size_append, sc]
  omega
def d10 : ByteArray := ⟨#[48, 49, 50, 51, 52, 53, 54, 55, 56, 57]⟩
theorem d10_size : d10.size = 10 := rfl
theorem d10_at {d : Nat} (h : d < 10) : d10.extract d (d + 1) = ⟨#[UInt8.ofNat (48 + d)]⟩ := by
  have : d = 0 ∨ d = 1 ∨ d = 2 ∨ d = 3 ∨ d = 4 ∨ d = 5 ∨ d = 6 ∨ d = 7 ∨ d = 8 ∨ d = 9 := by omega
  rcases this with rfl | rfl | rfl | rfl | rfl | rfl | rfl | rfl | rfl | rfl <;> decide +kernel
def dgL (l : List UInt8) : ByteArray := ⟨l.toArray⟩
theorem dgL_cons (x : UInt8) (l : List UInt8) : (⟨#[x]⟩ : ByteArray) ++ dgL l = dgL (x :: l) := by
  apply ByteArray.ext
  rw [ByteArray.data_append]
  simp [dgL]
theorem dgL_size (l : List UInt8) : (dgL l).size = l.length := by
  show l.toArray.size = _
  simp
theorem dec_big {u : Nat} (h : ¬ u < 10) : Lib.decDigits u = Lib.decDigits (u / 10) ++ [UInt8.ofNat (48 + u % 10)] := by rw [Lib.decDigits, dif_neg h]
theorem dec_len {u : Nat} (h : u ≤ 9223372036854775808) : (Lib.decDigits u).length ≤ 21 := by
  rcases Nat.eq_zero_or_pos u with h0 | h0
  · subst h0
    rw [Lib.decDigits_one (by decide)]
    decide
  · have := Lib.itoa_length_le (-(u : Int)) (by omega) (by omega)
    rw [Lib.itoa_neg u h0, List.length_cons] at this
    omega
theorem u64w (z : Int) : IntKind.u64.wrap z = z % 18446744073709551616 := rfl

theorem decimal_p (n : Int) (hn : fitI n) : PFn Tryz.prog 311 [.v (.int .i64 n)] (.v (.string (numS n))) := by
  unfold fitI at hn
  have hd10 := d10_size
  unfold d10 at hd10
  obtain ⟨u0, hu0⟩ : ∃ u0, u0 = n.natAbs := ⟨_, rfl⟩
  have hlen := dec_len (u := u0) (by omega)
  refine FnC.intro Tryz.func311 rfl Tryz.ntmps311 rfl ?_; intro off w0
  ((repeat refine S.seq ?_); refine wG (k := ?_); try (refine L.nil ?_))
  ((repeat refine S.seq ?_); refine wG (k := ?_); try (refine L.nil ?_))
  ((repeat refine S.seq ?_); refine wG (k := ?_); try (refine L.nil ?_))
  ((repeat refine S.seq ?_); refine wG (k := ?_); try (refine L.nil ?_))
  refine S.cut (ι := Unit) (fun _ => [(3, .v (.string (dgL []))), (4, .v (.bool (decide (n < 0)))), (5, .v (.int .u64 (u0 : Int)))]) (fun _ => []) ?_ ?_
  · ((repeat refine S.seq ?_); refine S.cond rfl (fun h1 => ?_) (fun h1 => ?_) <;> (try first | refine S.skip ?_ | refine S.exit ?_))
    · have h1n : n < 0 := of_dec h1
      ((repeat refine S.seq ?_); refine wG (k := ?_); try (refine L.nil ?_))
      refine slotAs 5 (.v (.int .u64 (u0 : Int))) rfl (Imp.of_eq (by
        have : IntKind.u64.wrap (0 - IntKind.u64.wrap n) = (u0 : Int) := by rw [u64w, u64w]; omega
        rw [this])) ?_
      exact fun a w hR => ⟨(), hR.weak (by (repeat' (first | exact True.intro | exact Imp.refl _ | refine ⟨?_, ?_⟩))) (by (repeat (first | exact List.nil_sublist _ | refine List.Sublist.cons_cons _ ?_ | refine List.Sublist.cons _ ?_)))⟩
    · have h1n : ¬ n < 0 := of_dec' h1
      refine slotAs 5 (.v (.int .u64 (u0 : Int))) rfl (Imp.of_eq (by
        have : IntKind.u64.wrap n = (u0 : Int) := by rw [u64w]; omega
        rw [this])) ?_
      exact fun a w hR => ⟨(), hR.weak (by (repeat' (first | exact True.intro | exact Imp.refl _ | refine ⟨?_, ?_⟩))) (by (repeat (first | exact List.nil_sublist _ | refine List.Sublist.cons_cons _ ?_ | refine List.Sublist.cons _ ?_)))⟩
  rintro ⟨⟩
  try dsimp only
  repeat refine S.seq ?_
  refine S.block (S.loop (ι := { q : Nat × List UInt8 // q.1 ≤ u0 ∧ Lib.decDigits q.1 ++ q.2 = Lib.decDigits u0 }) (fun q => [(3, .v (.string (dgL q.1.2))), (4, .v (.bool (decide (n < 0)))), (5, .v (.int .u64 (q.1.1 : Int)))]) (fun _ => []) (fun q => q.1.1) ?_ ?_)
  · exact fun a w h => ⟨⟨(u0, []), Nat.le_refl _, List.append_nil _⟩, h.weak (by (repeat' (first | exact True.intro | exact Imp.refl _ | refine ⟨?_, ?_⟩))) (by (repeat (first | exact List.nil_sublist _ | refine List.Sublist.cons_cons _ ?_ | refine List.Sublist.cons _ ?_)))⟩
  rintro ⟨⟨u, l⟩, hu, hul⟩
  dsimp only at hu hul ⊢
  have hll : l.length ≤ 21 := by
    have := congrArg List.length hul
    rw [List.length_append] at this
    omega
  have hbl := dgL_size l
  have htm : (u : Int).tmod 10 = ((u % 10 : Nat) : Int) := by rw [Int.tmod_eq_emod_of_nonneg (by omega)]; omega
  have hw1 : IntKind.u64.wrap (((u % 10 : Nat) : Int) + 1) = ((u % 10 : Nat) : Int) + 1 := by rw [u64w]; omega
  ((repeat refine S.seq ?_); refine wG (k := ?_); try (refine L.nil ?_))
  ((repeat refine S.seq ?_); refine S.cond rfl (fun h1 => ?_) (fun h1 => ?_) <;> (try first | refine S.skip ?_ | refine S.exit ?_))
  · have h1n : ¬ u < 10 := by have := of_dec h1; omega
    have hx := d10_at (d := u % 10) (by omega)
    unfold d10 at hx
    have e20 : (⟨#[48, 49, 50, 51, 52, 53, 54, 55, 56, 57]⟩ : ByteArray).extract ((u : Int).tmod 10).toNat (IntKind.u64.wrap ((u : Int).tmod 10 + 1)).toNat = ⟨#[UInt8.ofNat (48 + u % 10)]⟩ := by
      rw [htm, hw1, show (((u % 10 : Nat) : Int) + 1).toNat = u % 10 + 1 by omega, Int.toNat_natCast, hx]
    have s20 : (⟨#[UInt8.ofNat (48 + u % 10)]⟩ : ByteArray).size = 1 := rfl
    have c1 : 0 ≤ (u : Int).tmod 10 ∧ (u : Int).tmod 10 ≤ IntKind.u64.wrap ((u : Int).tmod 10 + 1) ∧ IntKind.u64.wrap ((u : Int).tmod 10 + 1) ≤ 10 := by rw [htm, hw1]; omega
    repeat refine S.seq ?_
    refine S.block ?_
    ((repeat refine S.seq ?_); refine wG (k := ?_); try (refine L.nil ?_))
    refine slotAs 3 (.v (.string (dgL (UInt8.ofNat (48 + u % 10) :: l)))) rfl (Imp.of_eq (by rw [← dgL_cons, ← e20])) ?_
    ((repeat refine S.seq ?_); refine wG (k := ?_); try (refine L.nil ?_))
    have hq : IntKind.u64.wrap ((u : Int).tdiv 10) = ((u / 10 : Nat) : Int) := by rw [u64w, Int.tdiv_eq_ediv_of_nonneg (by omega)]; omega
    refine slotAs 5 (.v (.int .u64 ((u / 10 : Nat) : Int))) rfl (Imp.of_eq (by rw [hq])) ?_
    exact fun a w hR => ⟨⟨(u / 10, UInt8.ofNat (48 + u % 10) :: l), by show u / 10 ≤ u0; omega, by rw [← hul, dec_big h1n, List.append_assoc]; rfl⟩, by show u / 10 < u; omega, hR.weak (by (repeat' (first | exact True.intro | exact Imp.refl _ | refine ⟨?_, ?_⟩))) (by (repeat (first | exact List.nil_sublist _ | refine List.Sublist.cons_cons _ ?_ | refine List.Sublist.cons _ ?_)))⟩
  · have h1n : u < 10 := by have := of_dec' h1; omega
    have hx := d10_at h1n
    unfold d10 at hx
    have hwu : IntKind.u64.wrap ((u : Int) + 1) = (u : Int) + 1 := by rw [u64w]; omega
    have e20 : (⟨#[48, 49, 50, 51, 52, 53, 54, 55, 56, 57]⟩ : ByteArray).extract ((u : Int)).toNat (IntKind.u64.wrap ((u : Int) + 1)).toNat = ⟨#[UInt8.ofNat (48 + u)]⟩ := by
      rw [hwu, show ((u : Int) + 1).toNat = u + 1 by omega, Int.toNat_natCast, hx]
    have s20 : (⟨#[UInt8.ofNat (48 + u)]⟩ : ByteArray).size = 1 := rfl
    have c1 : 0 ≤ (u : Int) ∧ (u : Int) ≤ IntKind.u64.wrap ((u : Int) + 1) ∧ IntKind.u64.wrap ((u : Int) + 1) ≤ 10 := by rw [hwu]; omega
    have hfin : UInt8.ofNat (48 + u) :: l = Lib.decDigits u0 := by rw [← hul, Lib.decDigits_one h1n]; rfl
    ((repeat refine S.seq ?_); refine wG (k := ?_); try (refine L.nil ?_))
    refine slotAs 3 (.v (.string (dgL (Lib.decDigits u0)))) rfl (Imp.of_eq (by rw [← hfin, ← dgL_cons, ← e20])) ?_
    have hds := dgL_size (Lib.decDigits u0)
    ((repeat refine S.seq ?_); refine wG (k := ?_); try (refine L.nil ?_))
    ((repeat refine S.seq ?_); refine S.cond rfl (fun h2 => ?_) (fun h2 => ?_) <;> (try first | refine S.skip ?_ | refine S.exit ?_))
    · have h2n : n < 0 := of_dec h2
      have s45 : (⟨#[45]⟩ : ByteArray).size = 1 := rfl
      ((repeat refine S.seq ?_); refine wG (k := ?_); try (refine L.nil ?_))
      (((repeat refine S.seq ?_); refine S.ret ?_); refine wRt (k := Imp.of_eq ?_))
      have : numS n = (⟨#[45]⟩ : ByteArray) ++ dgL (Lib.decDigits u0) := by
        rw [dgL_cons, hu0, numS, Lib.itoa, if_pos h2n]; rfl
      rw [this]
      rfl
    · have h2n : ¬ n < 0 := of_dec' h2
      ((repeat refine S.seq ?_); refine wG (k := ?_); try (refine L.nil ?_))
      (((repeat refine S.seq ?_); refine S.ret ?_); refine wRt (k := Imp.of_eq ?_))
      have : numS n = dgL (Lib.decDigits u0) := by
        rw [hu0, numS, Lib.itoa, if_neg h2n, show n.toNat = n.natAbs by omega]; rfl
      rw [this]
      rfl

theorem numT_numS : ∀ n : Fin 100, numT ((n.1 : Nat) : Int) = numS ((n.1 : Nat) : Int) := by decide +kernel
theorem markT_eq {a b : Int} (a0 : 0 ≤ a) (a1 : a < 100) (b0 : 0 ≤ b) (b1 : b < 100) : ofP (markT a b) = mrkF a b := by
  have ha := numT_numS ⟨a.toNat, by omega⟩
  have hb := numT_numS ⟨b.toNat, by omega⟩
  simp only [Int.toNat_of_nonneg a0, Int.toNat_of_nonneg b0] at ha hb
  rw [markT, mrkF, mrkT, ha, hb]
end Go.Proofs.YtbogfmgfafdjiaaGreatDoor

/- Arcs. -/
namespace Go.Proofs.YtbogfmgfafdjiaaGreatDoor
set_option linter.unusedVariables false
set_option linter.unusedSimpArgs false
set_option maxHeartbeats 8000000
open Go.RowKit
set_option maxRecDepth 4000

structure Arc where
  at0 : Int
  shard : Int
instance : Inhabited Arc := ⟨⟨0, 0⟩⟩
def Arc.cells (a : Arc) : List AV := [.v (.int .u32 a.at0), .v (.int .i64 a.shard)]
def arcs (l : List Arc) : AV := .lst 2 l.length (gOf Arc.cells l)
def badA (l : List Arc) (i : Nat) : Bool := (decide ((l.getD i default).shard < 0) || decide ((l.getD i default).shard ≥ 16)) || (decide ((i : Int) > 0) && decide ((l.getD (i - 1) default).at0 ≥ (l.getD i default).at0))
def fitA (l : List Arc) (k : Nat) : Bool := (List.range k).all fun i => !badA l i
def mayA (l : List Arc) : Bool := !(decide ((l.length : Int) < 1) || decide ((l.length : Int) > 1024)) && fitA l l.length
theorem fitA_succ {l : List Arc} {k : Nat} (h : fitA l k = true) (h1 : badA l k = false) : fitA l (k + 1) = true := by
  unfold fitA at h ⊢
  rw [List.range_succ, List.all_append, h]
  simp [h1]
theorem fitA_bad {l : List Arc} {k : Nat} (hk : k < l.length) (h1 : badA l k = true) : fitA l l.length = false := by
  unfold fitA
  rw [Bool.eq_false_iff]
  intro h
  have := List.all_eq_true.1 h k (List.mem_range.2 hk)
  rw [h1] at this
  cases this
theorem subn (k : Nat) : ((k : Int) - 1).toNat = k - 1 := by omega

/-- The last arc at or ahead of a point. -/
def plcTo (l : List Arc) (p : Int) : Nat → Nat
  | 0 => l.length - 1
  | k + 1 => if (l.getD k default).at0 ≤ p then k else plcTo l p k
def placeA (l : List Arc) (p : Int) : Nat := plcTo l p l.length
def ownerA (l : List Arc) (p : Int) : Int := if mayA l then (l.getD (placeA l p) default).shard else -1
theorem plcTo_lt {l : List Arc} (p : Int) (h : 0 < l.length) : ∀ k, k ≤ l.length → plcTo l p k < l.length
  | 0, _ => by unfold plcTo; omega
  | k + 1, hk => by
    unfold plcTo
    split
    · omega
    · exact plcTo_lt p h k (by omega)
theorem plcTo_lo {l : List Arc} {p : Int} {lo : Nat} (h1 : ∀ i, i < lo → (l.getD i default).at0 ≤ p) (h2 : ∀ i, lo ≤ i → i < l.length → ¬ (l.getD i default).at0 ≤ p) : ∀ k, k ≤ l.length → lo ≤ k → plcTo l p k = if lo = 0 then l.length - 1 else lo - 1
  | 0, _, h => by
    have : lo = 0 := by omega
    rw [if_pos this]; rfl
  | k + 1, hk, h => by
    unfold plcTo
    by_cases e : lo = k + 1
    · rw [if_pos (h1 k (by omega)), if_neg (by omega)]; omega
    · rw [if_neg (h2 k (by omega) (by omega)), plcTo_lo h1 h2 k (by omega) (by omega)]
structure MayA (l : List Arc) : Prop where
  one : 1 ≤ l.length
  most : l.length ≤ 1024
  shard : ∀ i, i < l.length → 0 ≤ (l.getD i default).shard ∧ (l.getD i default).shard < 16
  up : ∀ i j, i < j → j < l.length → (l.getD i default).at0 < (l.getD j default).at0
theorem mayA_of {l : List Arc} (h : mayA l = true) : MayA l := by
  unfold mayA at h
  simp only [Bool.and_eq_true, Bool.not_eq_true', Bool.or_eq_false_iff, decide_eq_false_iff_not] at h
  have hb : ∀ i, i < l.length → badA l i = false := fun i hi => by
    have := List.all_eq_true.1 h.2 i (List.mem_range.2 hi)
    simpa using this
  have key : ∀ i, i < l.length → (0 ≤ (l.getD i default).shard ∧ (l.getD i default).shard < 16) ∧ (0 < i → (l.getD (i - 1) default).at0 < (l.getD i default).at0) := fun i hi => by
    have := hb i hi
    simp only [badA, Bool.or_eq_false_iff, Bool.and_eq_false_iff, decide_eq_false_iff_not] at this
    refine ⟨by omega, fun h0 => ?_⟩
    omega
  refine ⟨by omega, by omega, fun i hi => (key i hi).1, fun i j hij => ?_⟩
  induction j with
  | zero => omega
  | succ j ih =>
    intro hj
    have h1 := (key (j + 1) hj).2 (by omega)
    rw [Nat.add_sub_cancel] at h1
    by_cases e : i = j
    · rw [e]; exact h1
    · have := ih (by omega) (by omega)
      omega

theorem ringmay_p (l : List Arc) : PFn Tryz.prog 162 [arcs l] (.v (.bool (mayA l))) := by
  refine FnC.intro Tryz.func162 rfl Tryz.ntmps162 rfl ?_; intro off w0
  ((repeat refine S.seq ?_); refine wG (k := ?_); try (refine L.nil ?_))
  ((repeat refine S.seq ?_); refine wG (k := ?_); try (refine L.nil ?_))
  ((repeat refine S.seq ?_); refine S.cond rfl (fun h1 => ?_) (fun h1 => ?_) <;> (try first | refine S.skip ?_ | refine S.exit ?_))
  · skip
    ((repeat refine S.seq ?_); refine wG (k := ?_); try (refine L.nil ?_))
    (((repeat refine S.seq ?_); refine S.ret ?_); refine wRt (k := Imp.of_eq ?_))
    rw [mayA]
    rw [show (decide ((l.length : Int) < 1) || decide ((l.length : Int) > 1024)) = true from h1]
    rfl
  have h1n : (decide ((l.length : Int) < 1) || decide ((l.length : Int) > 1024)) = false := h1
  have h1o := h1n
  simp only [Bool.or_eq_false_iff, decide_eq_false_iff_not] at h1o
  ((repeat refine S.seq ?_); refine wG (k := ?_); try (refine L.nil ?_))
  repeat refine S.seq ?_
  refine S.block (S.loop (ι := { k : Nat // k ≤ l.length ∧ fitA l k = true }) (fun k => [(0, arcs l), (13, arcs l), (14, .v (.int .i64 (l.length : Int))), (15, .v (.int .i64 k.1))])
    (fun k => []) (fun k => l.length - k.1) ?_ ?_)
  · refine fun a w h => ⟨⟨0, Nat.zero_le _, ?_⟩, h.weak (by (repeat' (first | exact True.intro | exact Imp.refl _ | refine ⟨?_, ?_⟩))) (by (repeat (first | exact List.nil_sublist _ | refine List.Sublist.cons_cons _ ?_ | refine List.Sublist.cons _ ?_)))⟩
    rfl
  rintro ⟨k, hk, ik⟩
  dsimp only at hk ik ⊢
  ((repeat refine S.seq ?_); refine wG (k := ?_); try (refine L.nil ?_))
  ((repeat refine S.seq ?_); refine S.cond rfl (fun h2 => ?_) (fun h2 => ?_) <;> (try first | refine S.skip ?_ | refine S.exit ?_))
  · have h2 := of_dec h2
    have h2n : k < l.length := by omega
    repeat refine S.seq ?_
    refine S.block ?_
    ((repeat refine S.seq ?_); refine wG (k := ?_); try (refine L.nil ?_))
    refine wA 4 (k := fun b4 => ?_)
    (refine wL (k := ?_); try (refine L.nil ?_))
    refine wS (k := ?_)
    refine L.nil ?_
    repeat refine S.seq ?_
    refine S.draw [(1, [4]), (5, [4]), (19, [4])] mixed ?_
    refine wT [0, 1, 2, 3, 4, 5, 6, 7, 8, 9, 10, 11, 12, 13, 14, 15, 16, 17, 18, 19, 20, 21, 22] (k := ?_)
    refine wD (k := ?_)
    ((repeat refine S.seq ?_); refine S.cond rfl (fun h3 => ?_) (fun h3 => ?_) <;> (try first | refine S.skip ?_ | refine S.exit ?_))
    · skip
      ((repeat refine S.seq ?_); refine wG (k := ?_); try (refine L.nil ?_))
      (((repeat refine S.seq ?_); refine S.ret ?_); refine wRt (k := Imp.of_eq ?_))
      have hb : badA l k = true := by
        rw [← h3]
        unfold badA
        rw [← subn]
        rfl
      rw [mayA, fitA_bad h2n hb, Bool.and_false]
      rfl
    have hb : badA l k = false := by
      rw [← h3]
      unfold badA
      rw [← subn]
      rfl
    ((repeat refine S.seq ?_); refine wG (k := ?_); try (refine L.nil ?_))
    refine fun a w hR => ⟨⟨k + 1, by omega, ?_⟩, by simp only; omega, hR.weak (by (repeat' (first | exact True.intro | exact Imp.refl _ | refine ⟨?_, ?_⟩))) (by (repeat (first | exact List.nil_sublist _ | refine List.Sublist.cons_cons _ ?_ | refine List.Sublist.cons _ ?_)))⟩
    exact fitA_succ ik hb
  · have h2 := of_dec' h2
    have hk0 : k = l.length := by omega
    subst hk0
    ((repeat refine S.seq ?_); refine wG (k := ?_); try (refine L.nil ?_))
    (((repeat refine S.seq ?_); refine S.ret ?_); refine wRt (k := Imp.of_eq ?_))
    rw [mayA, h1n, ik]
    rfl

theorem place_p (l : List Arc) (p : Int) (m : MayA l) : PFn Tryz.prog 165 [arcs l, .v (.int .u32 p)] (.v (.int .i64 (placeA l p))) := by
  refine FnC.intro Tryz.func165 rfl Tryz.ntmps165 rfl ?_; intro off w0
  ((repeat refine S.seq ?_); refine wG (k := ?_); try (refine L.nil ?_))
  repeat refine S.seq ?_
  refine S.scopeE 0 (ι := { k : Nat × Nat // k.1 ≤ k.2 ∧ k.2 ≤ l.length ∧ (∀ i, i < k.1 → (l.getD i default).at0 ≤ p) ∧ ∀ i, k.2 ≤ i → i < l.length → ¬ (l.getD i default).at0 ≤ p }) (fun k => [(0, arcs l), (1, .v (.int .u32 p)), (5, .v (.int .i64 k.1.1)), (6, .v (.int .i64 k.1.2))])
    (fun k => []) (fun k => k.1.2 - k.1.1) rfl ?_ ?_
  · rintro ⟨⟨lo, hi⟩, hk, hk2, i1, i2⟩ J hJ
    dsimp only at hk hk2 i1 i2 hJ ⊢
    have m1 := m.one
    have m2 := m.most
    ((repeat refine S.seq ?_); refine wG (k := ?_); try (refine L.nil ?_))
    ((repeat refine S.seq ?_); refine S.cond rfl (fun h1 => ?_) (fun h1 => ?_) <;> (try first | refine S.skip ?_ | refine S.exit ?_))
    · have h1n : lo < hi := by
        simp only [decide_eq_true_eq] at h1
        omega
      have htd : ((lo : Int) + (hi : Int)).tdiv 2 = (((lo + hi) / 2 : Nat) : Int) := by
        rw [Int.tdiv_eq_ediv_of_nonneg (by omega)]; rfl
      have hft : fits (((lo : Int) + (hi : Int)).tdiv 2) := by rw [htd]; unfold fits; omega
      ((repeat refine S.seq ?_); refine wG (k := ?_); try (refine L.nil ?_))
      refine slotAs 7 (.v (.int .i64 (((lo + hi) / 2 : Nat) : Int))) rfl (Imp.of_eq (by rw [htd])) ?_
      obtain ⟨q, hq⟩ : ∃ q, q = (lo + hi) / 2 := ⟨_, rfl⟩
      rw [← hq]
      ((repeat refine S.seq ?_); refine wG (k := ?_); try (refine L.nil ?_))
      refine S.cut (ι := { k : Nat × Nat // (k.1 ≤ k.2 ∧ k.2 ≤ l.length ∧ (∀ i, i < k.1 → (l.getD i default).at0 ≤ p) ∧ ∀ i, k.2 ≤ i → i < l.length → ¬ (l.getD i default).at0 ≤ p) ∧ k.2 - k.1 < hi - lo }) (fun k => [(0, arcs l), (1, .v (.int .u32 p)), (5, .v (.int .i64 k.1.1)), (6, .v (.int .i64 k.1.2))]) (fun _ => []) ?_ ?_
      · ((repeat refine S.seq ?_); refine S.cond rfl (fun h2 => ?_) (fun h2 => ?_) <;> (try first | refine S.skip ?_ | refine S.exit ?_))
        · have h2n : (l.getD q default).at0 ≤ p := of_dec h2
          ((repeat refine S.seq ?_); refine wG (k := ?_); try (refine L.nil ?_))
          exact fun a w hR => ⟨⟨(q + 1, hi), ⟨by omega, hk2, fun i hi' => by
            rcases Nat.lt_or_eq_of_le (Nat.le_of_lt_succ hi') with e | e
            · have := m.up i q e (by omega)
              omega
            · rw [e]; exact h2n, i2⟩, by dsimp only; omega⟩, hR.weak (by (repeat' (first | exact True.intro | exact Imp.refl _ | refine ⟨?_, ?_⟩))) (by (repeat (first | exact List.nil_sublist _ | refine List.Sublist.cons_cons _ ?_ | refine List.Sublist.cons _ ?_)))⟩
        · have h2n : ¬ (l.getD q default).at0 ≤ p := of_dec' h2
          ((repeat refine S.seq ?_); refine wG (k := ?_); try (refine L.nil ?_))
          exact fun a w hR => ⟨⟨(lo, q), ⟨by omega, by omega, i1, fun i hi' hl => by
            rcases Nat.lt_or_eq_of_le hi' with e | e
            · have := m.up q i e hl
              omega
            · rw [← e]; exact h2n⟩, by dsimp only; omega⟩, hR.weak (by (repeat' (first | exact True.intro | exact Imp.refl _ | refine ⟨?_, ?_⟩))) (by (repeat (first | exact List.nil_sublist _ | refine List.Sublist.cons_cons _ ?_ | refine List.Sublist.cons _ ?_)))⟩
      rintro ⟨⟨x, y⟩, hxy, hlt⟩
      dsimp only at hxy hlt ⊢
      repeat refine S.seq ?_
      refine S.goto ?_
      exact fun a w hR => ⟨rfl, hJ a w ⟨(x, y), hxy⟩ hlt (hR.weak (by (repeat' (first | exact True.intro | exact Imp.refl _ | refine ⟨?_, ?_⟩))) (by (repeat (first | exact List.nil_sublist _ | refine List.Sublist.cons_cons _ ?_ | refine List.Sublist.cons _ ?_))))⟩
    have hlh : lo = hi := by
      simp only [decide_eq_false_iff_not] at h1
      omega
    subst hlh
    ((repeat refine S.seq ?_); refine wG (k := ?_); try (refine L.nil ?_))
    (((repeat refine S.seq ?_); refine S.ret ?_); refine wRt (k := Imp.of_eq ?_))
    have hpl := plcTo_lo i1 i2 l.length (Nat.le_refl _) (by omega)
    have hplace : ((lo : Int) + l.length - 1).tmod l.length = ((placeA l p : Nat) : Int) := by
      rw [placeA, hpl, Int.tmod_eq_emod_of_nonneg (by omega)]
      split
      · rename_i e
        subst e
        rw [Int.emod_eq_of_lt (by omega) (by omega)]
        omega
      · rw [show (lo : Int) + l.length - 1 = (lo : Int) - 1 + l.length by omega, Int.add_emod_right, Int.emod_eq_of_lt (by omega) (by omega)]
        omega
    rw [hplace]
    rfl
  · intro hp
    ((repeat refine S.seq ?_); refine wG (k := ?_); try (refine L.nil ?_))
    repeat refine S.seq ?_
    refine S.label ?_
    exact fun a w hR => hp ⟨(0, l.length), Nat.zero_le _, Nat.le_refl _, fun i hi => absurd hi (Nat.not_lt_zero i), fun i h1 h2 => absurd h1 (Nat.not_le.2 h2)⟩ a w (hR.weak (by (repeat' (first | exact True.intro | exact Imp.refl _ | refine ⟨?_, ?_⟩))) (by (repeat (first | exact List.nil_sublist _ | refine List.Sublist.cons_cons _ ?_ | refine List.Sublist.cons _ ?_))))

theorem owner_p (l : List Arc) (p : Int) : PFn Tryz.prog 99 [arcs l, .v (.int .u32 p)] (.v (.int .i64 (ownerA l p))) := by
  refine FnC.intro Tryz.func99 rfl Tryz.ntmps99 rfl ?_; intro off w0
  ((repeat refine S.seq ?_); refine wG (k := ?_); try (refine L.nil ?_))
  ((repeat refine S.seq ?_); refine wG (k := ?_); try (refine L.nil ?_))
  refine wP ((ringmay_p l)) (k := ?_)
  (refine wL (k := ?_); try (refine L.nil ?_))
  ((repeat refine S.seq ?_); refine S.cond rfl (fun h1 => ?_) (fun h1 => ?_) <;> (try first | refine S.skip ?_ | refine S.exit ?_))
  · skip
    ((repeat refine S.seq ?_); refine wG (k := ?_); try (refine L.nil ?_))
    (((repeat refine S.seq ?_); refine S.ret ?_); refine wRt (k := Imp.of_eq ?_))
    rw [ownerA, if_neg (by simpa using h1)]
    rfl
  have h1n : mayA l = true := by simpa using h1
  have m := mayA_of h1n
  have hpl := plcTo_lt p m.one l.length (Nat.le_refl _)
  have hpl2 : placeA l p < l.length := hpl
  ((repeat refine S.seq ?_); refine wG (k := ?_); try (refine L.nil ?_))
  refine wP ((place_p l p m)) (k := ?_)
  (refine wL (k := ?_); try (refine L.nil ?_))
  (((repeat refine S.seq ?_); refine S.ret ?_); refine wRt (k := Imp.of_eq ?_))
  rw [ownerA, if_pos h1n]
  rfl

theorem rmayarcs_p (l : List Arc) : PFn Tryz.prog 175 [arcs l] (.v (.bool (mayA l))) := by
  refine FnC.intro Tryz.func175 rfl Tryz.ntmps175 rfl ?_; intro off w0
  ((repeat refine S.seq ?_); refine wG (k := ?_); try (refine L.nil ?_))
  ((repeat refine S.seq ?_); refine wG (k := ?_); try (refine L.nil ?_))
  ((repeat refine S.seq ?_); refine S.cond rfl (fun h1 => ?_) (fun h1 => ?_) <;> (try first | refine S.skip ?_ | refine S.exit ?_))
  · skip
    ((repeat refine S.seq ?_); refine wG (k := ?_); try (refine L.nil ?_))
    (((repeat refine S.seq ?_); refine S.ret ?_); refine wRt (k := Imp.of_eq ?_))
    rw [mayA]
    rw [show (decide ((l.length : Int) < 1) || decide ((l.length : Int) > 1024)) = true from h1]
    rfl
  have h1n : (decide ((l.length : Int) < 1) || decide ((l.length : Int) > 1024)) = false := h1
  have h1o := h1n
  simp only [Bool.or_eq_false_iff, decide_eq_false_iff_not] at h1o
  ((repeat refine S.seq ?_); refine wG (k := ?_); try (refine L.nil ?_))
  repeat refine S.seq ?_
  refine S.block (S.loop (ι := { k : Nat // k ≤ l.length ∧ fitA l k = true }) (fun k => [(0, arcs l), (3, .v (.int .i64 k.1))])
    (fun k => []) (fun k => l.length - k.1) ?_ ?_)
  · refine fun a w h => ⟨⟨0, Nat.zero_le _, ?_⟩, h.weak (by (repeat' (first | exact True.intro | exact Imp.refl _ | refine ⟨?_, ?_⟩))) (by (repeat (first | exact List.nil_sublist _ | refine List.Sublist.cons_cons _ ?_ | refine List.Sublist.cons _ ?_)))⟩
    rfl
  rintro ⟨k, hk, ik⟩
  dsimp only at hk ik ⊢
  ((repeat refine S.seq ?_); refine wG (k := ?_); try (refine L.nil ?_))
  ((repeat refine S.seq ?_); refine S.cond rfl (fun h2 => ?_) (fun h2 => ?_) <;> (try first | refine S.skip ?_ | refine S.exit ?_))
  · have h2 := of_dec h2
    have h2n : k < l.length := by omega
    repeat refine S.seq ?_
    refine S.block ?_
    repeat refine S.seq ?_
    refine S.draw [] mixed ?_
    refine wT [0, 1, 2, 3, 4, 5, 6, 7, 8, 9, 10, 11, 12, 13, 14, 15, 16, 17, 18, 19, 20, 21, 22, 23, 24, 25, 26, 27, 28, 29, 30, 31] (k := ?_)
    refine wD (k := ?_)
    ((repeat refine S.seq ?_); refine S.cond rfl (fun h3 => ?_) (fun h3 => ?_) <;> (try first | refine S.skip ?_ | refine S.exit ?_))
    · skip
      ((repeat refine S.seq ?_); refine wG (k := ?_); try (refine L.nil ?_))
      (((repeat refine S.seq ?_); refine S.ret ?_); refine wRt (k := Imp.of_eq ?_))
      have hb : badA l k = true := by
        rw [← h3]
        unfold badA
        rw [← subn]
        rfl
      rw [mayA, fitA_bad h2n hb, Bool.and_false]
      rfl
    have hb : badA l k = false := by
      rw [← h3]
      unfold badA
      rw [← subn]
      rfl
    ((repeat refine S.seq ?_); refine wG (k := ?_); try (refine L.nil ?_))
    refine fun a w hR => ⟨⟨k + 1, by omega, ?_⟩, by simp only; omega, hR.weak (by (repeat' (first | exact True.intro | exact Imp.refl _ | refine ⟨?_, ?_⟩))) (by (repeat (first | exact List.nil_sublist _ | refine List.Sublist.cons_cons _ ?_ | refine List.Sublist.cons _ ?_)))⟩
    exact fitA_succ ik hb
  · have h2 := of_dec' h2
    have hk0 : k = l.length := by omega
    subst hk0
    ((repeat refine S.seq ?_); refine wG (k := ?_); try (refine L.nil ?_))
    (((repeat refine S.seq ?_); refine S.ret ?_); refine wRt (k := Imp.of_eq ?_))
    rw [mayA, h1n, ik]
    rfl

theorem rplace_p (l : List Arc) (p : Int) (m : MayA l) : PFn Tryz.prog 312 [arcs l, .v (.int .u32 p)] (.v (.int .i64 (placeA l p))) := by
  have m1 := m.one
  have m2 := m.most
  refine FnC.intro Tryz.func312 rfl Tryz.ntmps312 rfl ?_; intro off w0
  ((repeat refine S.seq ?_); refine wG (k := ?_); try (refine L.nil ?_))
  ((repeat refine S.seq ?_); refine wG (k := ?_); try (refine L.nil ?_))
  refine slotAs 5 (.v (.int .i64 ((plcTo l p 0 : Nat) : Int))) rfl (Imp.of_eq (by rw [plcTo, show ((l.length - 1 : Nat) : Int) = (l.length : Int) - 1 by omega])) ?_
  ((repeat refine S.seq ?_); refine wG (k := ?_); try (refine L.nil ?_))
  repeat refine S.seq ?_
  refine S.block (S.loop (ι := { k : Nat // k ≤ l.length }) (fun k => [(0, arcs l), (1, .v (.int .u32 p)), (5, .v (.int .i64 ((plcTo l p k.1 : Nat) : Int))), (6, .v (.int .i64 k.1))])
    (fun k => []) (fun k => l.length - k.1) ?_ ?_)
  · exact fun a w h => ⟨⟨0, Nat.zero_le _⟩, h.weak (by (repeat' (first | exact True.intro | exact Imp.refl _ | refine ⟨?_, ?_⟩))) (by (repeat (first | exact List.nil_sublist _ | refine List.Sublist.cons_cons _ ?_ | refine List.Sublist.cons _ ?_)))⟩
  rintro ⟨k, hk⟩
  dsimp only
  ((repeat refine S.seq ?_); refine wG (k := ?_); try (refine L.nil ?_))
  ((repeat refine S.seq ?_); refine S.cond rfl (fun h1 => ?_) (fun h1 => ?_) <;> (try first | refine S.skip ?_ | refine S.exit ?_))
  · have h1 := of_dec h1
    repeat refine S.seq ?_
    refine S.block ?_
    ((repeat refine S.seq ?_); refine wG (k := ?_); try (refine L.nil ?_))
    refine S.cut (ι := Unit) (fun _ => [(0, arcs l), (1, .v (.int .u32 p)), (5, .v (.int .i64 ((plcTo l p (k + 1) : Nat) : Int))), (6, .v (.int .i64 k))]) (fun _ => []) ?_ ?_
    · ((repeat refine S.seq ?_); refine S.cond rfl (fun h2 => ?_) (fun h2 => ?_) <;> (try first | refine S.skip ?_ | refine S.exit ?_))
      · skip
        ((repeat refine S.seq ?_); refine wG (k := ?_); try (refine L.nil ?_))
        refine slotAs 5 (.v (.int .i64 ((plcTo l p (k + 1) : Nat) : Int))) rfl (Imp.of_eq (by rw [plcTo, if_pos (show (l.getD k default).at0 ≤ p from of_dec h2)])) ?_
        exact fun a w hR => ⟨(), hR.weak (by (repeat' (first | exact True.intro | exact Imp.refl _ | refine ⟨?_, ?_⟩))) (by (repeat (first | exact List.nil_sublist _ | refine List.Sublist.cons_cons _ ?_ | refine List.Sublist.cons _ ?_)))⟩
      · skip
        refine slotAs 5 (.v (.int .i64 ((plcTo l p (k + 1) : Nat) : Int))) rfl (Imp.of_eq (by rw [plcTo, if_neg (show ¬ (l.getD k default).at0 ≤ p from of_dec' h2)])) ?_
        exact fun a w hR => ⟨(), hR.weak (by (repeat' (first | exact True.intro | exact Imp.refl _ | refine ⟨?_, ?_⟩))) (by (repeat (first | exact List.nil_sublist _ | refine List.Sublist.cons_cons _ ?_ | refine List.Sublist.cons _ ?_)))⟩
    rintro ⟨⟩
    ((repeat refine S.seq ?_); refine wG (k := ?_); try (refine L.nil ?_))
    exact fun a w hR => ⟨⟨k + 1, by omega⟩, by simp only; omega, hR.weak (by (repeat' (first | exact True.intro | exact Imp.refl _ | refine ⟨?_, ?_⟩))) (by (repeat (first | exact List.nil_sublist _ | refine List.Sublist.cons_cons _ ?_ | refine List.Sublist.cons _ ?_)))⟩
  · have h1 := of_dec' h1
    have hk0 : k = l.length := by omega
    subst hk0
    -- HOLE 3
    ((repeat refine S.seq ?_); refine wG (k := ?_); try (refine L.nil ?_))
    (((repeat refine S.seq ?_); refine S.ret ?_); refine wRt (k := Imp.of_eq ?_))
    rfl
    -- HOLE 4

theorem rowner_p (l : List Arc) (p : Int) : PFn Tryz.prog 248 [arcs l, .v (.int .u32 p)] (.v (.int .i64 (ownerA l p))) := by
  refine FnC.intro Tryz.func248 rfl Tryz.ntmps248 rfl ?_; intro off w0
  ((repeat refine S.seq ?_); refine wG (k := ?_); try (refine L.nil ?_))
  ((repeat refine S.seq ?_); refine wG (k := ?_); try (refine L.nil ?_))
  refine wP ((rmayarcs_p l)) (k := ?_)
  (refine wL (k := ?_); try (refine L.nil ?_))
  ((repeat refine S.seq ?_); refine S.cond rfl (fun h1 => ?_) (fun h1 => ?_) <;> (try first | refine S.skip ?_ | refine S.exit ?_))
  · skip
    ((repeat refine S.seq ?_); refine wG (k := ?_); try (refine L.nil ?_))
    (((repeat refine S.seq ?_); refine S.ret ?_); refine wRt (k := Imp.of_eq ?_))
    rw [ownerA, if_neg (by simpa using h1)]
    rfl
  have h1n : mayA l = true := by simpa using h1
  have m := mayA_of h1n
  have hpl := plcTo_lt p m.one l.length (Nat.le_refl _)
  have hpl2 : placeA l p < l.length := hpl
  ((repeat refine S.seq ?_); refine wG (k := ?_); try (refine L.nil ?_))
  refine wP ((rplace_p l p m)) (k := ?_)
  (refine wL (k := ?_); try (refine L.nil ?_))
  (((repeat refine S.seq ?_); refine S.ret ?_); refine wRt (k := Imp.of_eq ?_))
  rw [ownerA, if_pos h1n]
  rfl

end Go.Proofs.YtbogfmgfafdjiaaGreatDoor

/- Arcs, in plain words. -/
namespace Go.Proofs.YtbogfmgfafdjiaaGreatDoor
set_option linter.unusedVariables false
set_option linter.unusedSimpArgs false
set_option maxHeartbeats 8000000
open Go.RowKit

def hd : List Arc → Int → Int
  | [], E => E
  | b :: _, _ => b.at0
def shr : List Arc → Int → Int → Int
  | [], _, _ => 0
  | a :: t, E, s => (if a.shard = s then hd t E - a.at0 else 0) + shr t E s
def wids : List Arc → Int → Int
  | [], _ => 0
  | a :: t, E => (hd t E - a.at0) + wids t E
def own : List Arc → Int → Int → Int
  | [], _, _ => -1
  | a :: t, E, p => if p < hd t E then a.shard else own t E p
def ups : List Arc → Int → Prop
  | [], _ => True
  | a :: t, E => a.at0 < hd t E ∧ ups t E
def hvE (a : Arc) (n s o : Int) : List Arc := if a.shard = s ∧ n - a.at0 ≥ 2 then [⟨a.at0 + (n - a.at0) / 2, o⟩] else []
def hv : List Arc → Int → Int → Int → List Arc
  | [], _, _, _ => []
  | a :: t, E, s, o => a :: (hvE a (hd t E) s o ++ hv t E s o)
theorem hd_hv (l : List Arc) (E s o : Int) : hd (hv l E s o) E = hd l E := by cases l <;> rfl
theorem wids_eq : ∀ (l : List Arc) (E : Int), wids l E = E - hd l E
  | [], E => by simp [wids, hd]
  | a :: t, E => by rw [wids, wids_eq t E]; show _ = E - a.at0; omega
theorem ups_hv : ∀ (l : List Arc) (E s o : Int), ups l E → ups (hv l E s o) E
  | [], _, _, _, _ => trivial
  | a :: t, E, s, o, h => by
    have ih := ups_hv t E s o h.2
    have h1 := h.1
    have e := hd_hv t E s o
    rw [hv, hvE]
    split
    · rename_i hc
      refine ⟨?_, ?_, ih⟩
      · show a.at0 < a.at0 + (hd t E - a.at0) / 2
        omega
      · show a.at0 + (hd t E - a.at0) / 2 < hd (hv t E s o) E
        rw [e]
        omega
    · refine ⟨?_, ih⟩
      show a.at0 < hd (hv t E s o) E
      rw [e]
      exact h1
theorem shr_hv : ∀ (l : List Arc) (E s o : Int), s ≠ o → shr (hv l E s o) E s + shr (hv l E s o) E o = shr l E s + shr l E o
  | [], _, _, _, _ => rfl
  | a :: t, E, s, o, hso => by
    have ih := shr_hv t E s o hso
    have e := hd_hv t E s o
    rw [hv, hvE]
    split
    · rename_i hc
      have hao : a.shard ≠ o := fun h => hso (hc.1.symm.trans h)
      show ((if a.shard = s then _ else 0) + ((if o = s then _ else 0) + shr (hv t E s o) E s)) + ((if a.shard = o then _ else 0) + ((if o = o then _ else 0) + shr (hv t E s o) E o)) = ((if a.shard = s then _ else 0) + shr t E s) + ((if a.shard = o then _ else 0) + shr t E o)
      rw [if_pos hc.1, if_neg (fun h => hso h.symm), if_neg hao, if_pos rfl, if_pos hc.1, if_neg hao]
      show (a.at0 + (hd t E - a.at0) / 2 - a.at0 + (0 + _)) + (0 + (hd (hv t E s o) E - (a.at0 + (hd t E - a.at0) / 2) + _)) = _
      rw [e]
      omega
    · show ((if a.shard = s then hd (hv t E s o) E - a.at0 else 0) + shr (hv t E s o) E s) + ((if a.shard = o then hd (hv t E s o) E - a.at0 else 0) + shr (hv t E s o) E o) = ((if a.shard = s then _ else 0) + shr t E s) + ((if a.shard = o then _ else 0) + shr t E o)
      rw [e]
      omega
theorem shr_hv_else : ∀ (l : List Arc) (E s o x : Int), x ≠ s → x ≠ o → shr (hv l E s o) E x = shr l E x
  | [], _, _, _, _, _, _ => rfl
  | a :: t, E, s, o, x, h1, h2 => by
    have ih := shr_hv_else t E s o x h1 h2
    have e := hd_hv t E s o
    rw [hv, hvE]
    split
    · rename_i hc
      have hax : a.shard ≠ x := fun h => h1 (h.symm.trans hc.1)
      show (if a.shard = x then _ else 0) + ((if o = x then _ else 0) + shr (hv t E s o) E x) = (if a.shard = x then _ else 0) + shr t E x
      rw [if_neg hax, if_neg hax, if_neg (fun h => h2 h.symm), ih]
      omega
    · show (if a.shard = x then hd (hv t E s o) E - a.at0 else 0) + shr (hv t E s o) E x = (if a.shard = x then _ else 0) + shr t E x
      rw [e, ih]
def cnt (l : List Arc) (s : Int) : Int := ((l.filter fun a => a.shard == s).length : Int)
theorem cnt_cons (a : Arc) (t : List Arc) (s : Int) : cnt (a :: t) s = (if a.shard = s then 1 else 0) + cnt t s := by
  unfold cnt
  rw [List.filter_cons]
  by_cases h : a.shard = s
  · rw [if_pos (by simpa using h), if_pos h, List.length_cons]; omega
  · rw [if_neg (by simpa using h), if_neg h]; omega
theorem shr_bal : ∀ (l : List Arc) (E s o : Int), s ≠ o → ups l E → shr (hv l E s o) E o - shr l E o ≤ shr (hv l E s o) E s + cnt l s ∧ shr (hv l E s o) E s ≤ shr (hv l E s o) E o - shr l E o + cnt l s
  | [], _, _, _, _, _ => by simp [hv, shr, cnt]
  | a :: t, E, s, o, hso, hu => by
    have ih := shr_bal t E s o hso hu.2
    have hu1 := hu.1
    have e := hd_hv t E s o
    have hso' : ¬ o = s := fun h => hso h.symm
    rw [cnt_cons, hv, hvE]
    split
    · rename_i hc
      have hao : a.shard ≠ o := fun h => hso (hc.1.symm.trans h)
      show (((if a.shard = o then _ else 0) + ((if o = o then _ else 0) + shr (hv t E s o) E o)) - ((if a.shard = o then _ else 0) + shr t E o) ≤ ((if a.shard = s then _ else 0) + ((if o = s then _ else 0) + shr (hv t E s o) E s)) + _) ∧ (((if a.shard = s then _ else 0) + ((if o = s then _ else 0) + shr (hv t E s o) E s)) ≤ ((if a.shard = o then _ else 0) + ((if o = o then _ else 0) + shr (hv t E s o) E o)) - ((if a.shard = o then _ else 0) + shr t E o) + _)
      simp only [if_pos hc.1, if_neg hso', if_neg hao, if_true]
      show (0 + (hd (hv t E s o) E - (a.at0 + (hd t E - a.at0) / 2) + _) - (0 + _) ≤ (a.at0 + (hd t E - a.at0) / 2 - a.at0 + (0 + _)) + _) ∧ ((a.at0 + (hd t E - a.at0) / 2 - a.at0 + (0 + _)) ≤ 0 + (hd (hv t E s o) E - (a.at0 + (hd t E - a.at0) / 2) + _) - (0 + _) + _)
      rw [e]
      omega
    · rename_i hc
      show ((if a.shard = o then hd (hv t E s o) E - a.at0 else 0) + shr (hv t E s o) E o) - ((if a.shard = o then _ else 0) + shr t E o) ≤ ((if a.shard = s then hd (hv t E s o) E - a.at0 else 0) + shr (hv t E s o) E s) + _ ∧ ((if a.shard = s then hd (hv t E s o) E - a.at0 else 0) + shr (hv t E s o) E s) ≤ ((if a.shard = o then hd (hv t E s o) E - a.at0 else 0) + shr (hv t E s o) E o) - ((if a.shard = o then _ else 0) + shr t E o) + _
      rw [e]
      have hw : a.shard = s → hd t E - a.at0 < 2 := fun h => by
        have := fun h2 => hc ⟨h, h2⟩
        omega
      by_cases hs : a.shard = s
      · have hao : a.shard ≠ o := fun h => hso (hs.symm.trans h)
        have := hw hs
        simp only [if_pos hs, if_neg hao]
        omega
      · simp only [if_neg hs]
        omega
theorem own_hv : ∀ (l : List Arc) (E s o p : Int), p < E → own (hv l E s o) E p = own l E p ∨ own l E p = s ∧ own (hv l E s o) E p = o
  | [], _, _, _, _, _ => .inl rfl
  | a :: t, E, s, o, p, hp => by
    have ih := own_hv t E s o p hp
    have e := hd_hv t E s o
    rw [hv, hvE]
    split
    · rename_i hc
      have hl : own (a :: t) E p = if p < hd t E then a.shard else own t E p := rfl
      have hr : own (a :: ([⟨a.at0 + (hd t E - a.at0) / 2, o⟩] ++ hv t E s o)) E p = if p < a.at0 + (hd t E - a.at0) / 2 then a.shard else if p < hd (hv t E s o) E then o else own (hv t E s o) E p := rfl
      rw [hl, hr, e]
      have h2 := hc.2
      by_cases h1 : p < a.at0 + (hd t E - a.at0) / 2
      · rw [if_pos h1, if_pos (show p < hd t E by omega)]
        exact .inl rfl
      · rw [if_neg h1]
        by_cases h3 : p < hd t E
        · rw [if_pos h3, if_pos h3]
          exact .inr ⟨hc.1, rfl⟩
        · rw [if_neg h3, if_neg h3]
          exact ih
    · have hl : own (a :: t) E p = if p < hd t E then a.shard else own t E p := rfl
      have hr : own (a :: ([] ++ hv t E s o)) E p = if p < hd (hv t E s o) E then a.shard else own (hv t E s o) E p := rfl
      rw [hl, hr, e]
      by_cases h3 : p < hd t E
      · rw [if_pos h3, if_pos h3]
        exact .inl rfl
      · rw [if_neg h3, if_neg h3]
        exact ih
end Go.Proofs.YtbogfmgfafdjiaaGreatDoor
