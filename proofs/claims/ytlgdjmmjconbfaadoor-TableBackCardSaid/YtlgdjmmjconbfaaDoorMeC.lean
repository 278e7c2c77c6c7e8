/- Texts of this proof, laid together: SymTac, SymCut, SymOld, SymRow, SymLen, SymReb, SymBlk, SymRd, SymArg, SymFrz, SymArr, SymSlc, SymExt, SymBor, SymEnt, SymFam. -/
import Derived.Test.YtlgdjmmjconbfaaDoorMgB
import Derived.Test.YtlgdjmmjconbfaaDoorSymTabM
import Derived.ChangeArms
import Derived.DataReads
/- Short words for walks. -/
namespace Go.Proofs.YtlgdjmmjconbfaaDoor
set_option linter.unusedVariables false
set_option linter.unusedSimpArgs false
set_option maxHeartbeats 8000000
open Go.RowKit

theorem zA {p : Prop} : p → True := fun _ => True.intro
theorem zB {p : Prop} : p → p := fun h => h
theorem zC {p : Prop} : p → p ∧ True := fun h => And.intro h True.intro
theorem zD {p : Prop} : p → p ∧ p ∧ True := fun h => And.intro h (And.intro h True.intro)
theorem zE {p : Prop} : p → p ∧ True ∧ True := fun h => And.intro h (And.intro True.intro True.intro)
theorem zN {n m : Nat} (h : Nat.ble n m = true) : n ≤ m := Nat.le_of_ble_eq_true h
theorem zI {p q : Prop} (h : p) (g : q) : p ∧ q := ⟨h, g⟩
theorem mixed : Tryd.prog.follows .mixedOrders = true := by kernel_rfl





theorem of_dec {p : Prop} [Decidable p] (h : decide p = true) : p := of_decide_eq_true h
theorem of_dec' {p : Prop} [Decidable p] (h : decide p = false) : ¬ p := of_decide_eq_false h

def pidx (p : Nat → Bool) (n : Nat) : Int := match (List.range n).find? p with | some k => k | none => -1
theorem pidx_some {p : Nat → Bool} {n k : Nat} (hk : k < n) (hp : p k = true) (hno : ∀ j, j < k → p j = false) : pidx p n = k := by
  unfold pidx
  rw [List.find?_range_eq_some.2 ⟨hp, by simpa using hk, fun j hj => by simpa using hno j hj⟩]
theorem pidx_none {p : Nat → Bool} {n : Nat} (hno : ∀ j, j < n → p j = false) : pidx p n = -1 := by
  unfold pidx
  rw [List.find?_eq_none.2 fun j hj => by simp [hno j (by simpa using hj)]]
theorem pidx_cases (p : Nat → Bool) (n : Nat) : (pidx p n = -1 ∧ ∀ j, j < n → p j = false) ∨ ∃ k, k < n ∧ p k = true ∧ (∀ j, j < k → p j = false) ∧ pidx p n = k := by
  unfold pidx
  cases h : (List.range n).find? p with
  | none => exact .inl ⟨rfl, fun j hj => by simpa using List.find?_eq_none.1 h j (by simpa using hj)⟩
  | some k =>
    obtain ⟨h1, h2, h3⟩ := List.find?_range_eq_some.1 h
    exact .inr ⟨k, by simpa using h2, h1, fun j hj => by simpa using h3 j hj, rfl⟩

/-- A list's elements, each as its cells. -/
def gOf {α : Type} [Inhabited α] (f : α → List AV) (l : List α) (i : Nat) : List AV := f (l.getD i default)

/-- Numbers and texts that a value may have. -/
def fitI (z : Int) : Prop := -9223372036854775808 ≤ z ∧ z ≤ 9223372036854775807
def fitS (b : ByteArray) : Prop := b.size ≤ 9223372036854775807

end Go.Proofs.YtlgdjmmjconbfaaDoor

/- Cuts, and rows in another order. -/
namespace Go.Proofs.YtlgdjmmjconbfaaDoor
set_option linter.unusedVariables false
set_option linter.unusedSimpArgs false
set_option maxHeartbeats 8000000
open Go.RowKit

theorem R.perm {c : Ctx} {σ : Slots} {F G : Rows} {a : Act} {w : World} (h : R c σ F a w) (hp : F.Perm G) : R c σ G a w := by
  obtain ⟨g1, g2⟩ := h.sat.perm hp
  exact ⟨h.len, h.defers, h.hoff, h.kept, fun r hr => h.fresh r (hp.mem_iff.2 hr), g1, fun k A hA => (h.slots k A hA).ext (Ext.less (fun b hb => (g2 b).1 hb) w)⟩

/-- Another view of one slot. -/
theorem slotAs {c : Ctx} {σ : Slots} {F : Rows} {K : Act → World → Prop} (d : Nat) {A : AV} (B : AV) (hd : σ.lookup d = some A) (hi : Imp A B) (next : ∀ a w, R c ((d, B) :: σ) F a w → K a w) : ∀ a w, R c σ F a w → K a w := renum F d B rfl hd hi next

theorem umod (n m : Int) (hm : 0 < m) (h2 : m ≤ 4611686018427387904) : ∃ K : Nat, (K : Int) < m ∧ IntKind.i64.wrap ((IntKind.u64.wrap n).tmod m) = K := by
  have h := urem n m hm
  refine ⟨((IntKind.u64.wrap n).tmod m).toNat, by omega, ?_⟩
  rw [wrap_fits ⟨by omega, by omega⟩]
  omega

section
variable {P : Program} {c : Ctx} {σ : Slots} {F : Rows} {Q : Exit → Act → World → Prop} {x : Code}
/-- What holds behind a piece of code, told once. -/
theorem S.cut {ι : Type} (sl : ι → Slots) (ro : ι → Rows) (h : S P c x σ F (Exit.then (fun a w => ∃ i, R c (sl i) (ro i) a w) Q)) (next : ∀ i, E c .normal (sl i) (ro i) Q) : S P c x σ F Q := fun a w hR =>
  wp_mono (h a w hR) fun e a' w' h' => by
    cases e with
    | normal => obtain ⟨i, hi⟩ := h'; exact next i a' w' hi
    | _ => exact h'
end

end Go.Proofs.YtlgdjmmjconbfaaDoor

/- Contracts out of laws on rows of one's own. -/
namespace Go.Proofs.YtlgdjmmjconbfaaDoor
set_option linter.unusedVariables false
set_option linter.unusedSimpArgs false
set_option maxHeartbeats 8000000
open Go.RowKit

/-- The cells of one element. -/
structure Cz (sz : Nat) where
  l : List Value
  len : l.length = sz
  one : ∀ u ∈ l, u.oneCell' = true

theorem chunks {sz : Nat} : ∀ (n : Nat) (us : List Value), us.length = n * sz → (∀ u ∈ us, u.oneCell' = true) → ∃ L : List (Cz sz), L.length = n ∧ fl Cz.l L = us
  | 0, us, h, _ => ⟨[], rfl, by have : us = [] := List.eq_nil_of_length_eq_zero (by simpa using h); rw [this]; rfl⟩
  | n + 1, us, h, h1 => by
    have hl : us.length = n * sz + sz := by rw [h, Nat.add_mul, Nat.one_mul]
    obtain ⟨L, e1, e2⟩ := chunks (sz := sz) n (us.drop sz) (by rw [List.length_drop]; omega) fun u hu => h1 u (List.mem_of_mem_drop hu)
    refine ⟨⟨us.take sz, by rw [List.length_take]; omega, fun u hu => h1 u (List.mem_of_mem_take hu)⟩ :: L, by simp [e1], ?_⟩
    rw [fl_cons, e2]
    exact List.take_append_drop sz us

/-- A row of one's own, by elements. -/
theorem Row.sat.elems {own : Nat → Prop} {w : World} {x : Value} {E sz n : Nat} {g : Nat → List AV} (h : Row.sat own w (.own x E sz n g)) : ∃ L : List (Cz sz), L.length = n ∧ w.ownsRow 0 E sz x L.length (fl Cz.l L) ∧ (∀ i, i < n → (g i).length = sz) ∧
    ∀ i (hi : i < L.length) (j : Nat) A, (g i)[j]? = some A → ∃ u, L[i].l[j]? = some u ∧ Rep own w A u := by
  obtain ⟨us, ho, hlen, h1, hr⟩ := h
  obtain ⟨L, rfl, rfl⟩ := chunks n us ho.1 h1
  refine ⟨L, rfl, ho, hlen, fun i hi j A hA => ?_⟩
  obtain ⟨u, hu, hrep⟩ := hr i hi j A hA
  have hj : j < sz := by have := (List.getElem?_eq_some_iff.1 hA).1; rw [hlen i hi] at this; exact this
  rw [fl_get (fun c : Cz sz => c.len) L i hi j hj] at hu
  exact ⟨u, hu, hrep⟩
theorem Row.sat.of_elems {own : Nat → Prop} {w : World} {x : Value} {E sz : Nat} {g : Nat → List AV} {L : List (Cz sz)} (ho : w.ownsRow 0 E sz x L.length (fl Cz.l L)) (hlen : ∀ i, i < L.length → (g i).length = sz)
    (hr : ∀ i (hi : i < L.length) (j : Nat) A, (g i)[j]? = some A → ∃ u, L[i].l[j]? = some u ∧ Rep own w A u) : Row.sat own w (.own x E sz L.length g) := by
  refine ⟨fl Cz.l L, ho, hlen, fun u hu => ?_, fun i hi j A hA => ?_⟩
  · obtain ⟨c, _, hc⟩ := List.mem_flatMap.1 hu; exact c.one u hc
  · obtain ⟨u, hu, hrep⟩ := hr i hi j A hA
    have hj : j < sz := by have := (List.getElem?_eq_some_iff.1 hA).1; rw [hlen i hi] at this; exact this
    exact ⟨u, by rw [fl_get (fun c : Cz sz => c.len) L i hi j hj]; exact hu, hrep⟩

/-- What comes back where one row of one's own has turned. -/
theorem ret_row {off : Nat → Prop} {id : Nat} {r r' : Row} {w w' : World} (hS : Sat off [(id, r)] w) (hoff : ∀ b, off b → b < w.heap.size) {row : Option Nat} (hg : w.grownBy w' row) (hrow : ∀ b, row = some b → b < w.heap.size → r.block = some b)
    (hk : ∀ b, r'.block = some b → r.block = some b ∨ w.heap.size ≤ b) (hr : Ext (Own off [(id, r)]) (Own off [(id, r')]) w w' → r'.sat (Own off [(id, r')]) w') :
    Sat off [(id, r')] w' ∧ Kept (blocksOf [(id, r)]) w w' ∧ ∀ s ∈ [(id, r')], ∀ b, s.2.block = some b → blocksOf [(id, r)] b ∨ w.heap.size ≤ b := by
  obtain ⟨g1, -⟩ := Sat.turn (L1 := []) (L2 := []) (i' := id) (r' := r') hS hoff hg.size (fun b hlt hne => hg.block b hlt fun e => hne (hrow b e.symm hlt)) hk hr
  refine ⟨g1, ⟨hg.os, hg.tape, hg.output, hg.size, fun b hlt hn => hg.block b hlt fun e => hn ⟨(id, r), by simp, hrow b e.symm hlt⟩⟩, fun s hs b hb => ?_⟩
  rw [List.mem_singleton] at hs
  subst hs
  rcases hk b hb with h | h
  · exact .inl ⟨(id, r), by simp, h⟩
  · exact .inr h

end Go.Proofs.YtlgdjmmjconbfaaDoor

/- From a contract to a row. -/
namespace Go.Proofs.YtlgdjmmjconbfaaDoor
set_option linter.unusedVariables false
set_option linter.unusedSimpArgs false
set_option maxHeartbeats 8000000
open Go.RowKit

def Reps (own : Nat → Prop) (w : World) : List AV → List Value → Prop
  | [], [] => True
  | A :: l, v :: m => Rep own w A v ∧ Reps own w l m
  | _, _ => False
theorem Reps.get {own : Nat → Prop} {w : World} : ∀ {l : List AV} {m : List Value}, Reps own w l m → m.length = l.length ∧ ∀ (j : Nat) A u, l[j]? = some A → m[j]? = some u → Rep own w A u
  | [], [], _ => ⟨rfl, fun j A u h => by simp at h⟩
  | A :: l, v :: m, h => by
    obtain ⟨h1, h2⟩ := Reps.get h.2
    refine ⟨by simp [h1], fun j B u hB hu => ?_⟩
    cases j with
    | zero => simp at hB hu; subst hB; subst hu; exact h.1
    | succ j => exact h2 j B u (by simpa using hB) (by simpa using hu)
  | [], _ :: _, h => h.elim
  | _ :: _, [], h => h.elim

theorem PFn.row {P : Program} {f : FuncId} {As : List AV} {r : Bool} (h : PFn P f As (.v (.bool r))) {w : World} {vs : List Value} (hr : Reps (fun _ => False) w As vs) : Calls P f vs.toArray w fun e w' => e = .returned (.bool r) ∧ Below w.heap.size w w' := by
  obtain ⟨h1, h2⟩ := hr.get
  refine (h (fun _ => False) w vs (fun b h => h.elim) (Sat.nil _ _) h1 fun j A u hA hu => (h2 j A u hA hu).ext (Ext.less (fun b hb => by rcases hb with hb | ⟨s, hs, -⟩; exact hb; cases hs) w)).mono ?_
  rintro e w' ⟨v, r', F', ⟨rfl, rfl⟩, rfl, hrep, -, hk, -⟩
  cases hrep
  exact ⟨rfl, hk.os, hk.tape, hk.output, hk.size, fun b hlt => hk.block b hlt fun ⟨s, hs, _⟩ => by cases hs⟩

end Go.Proofs.YtlgdjmmjconbfaaDoor

/- Lengths of slices within structs. -/
namespace Go.Proofs.YtlgdjmmjconbfaaDoor
set_option linter.unusedVariables false
set_option linter.unusedSimpArgs false
set_option maxHeartbeats 8000000
open Go.RowKit

theorem lenAgg {c : Ctx} {σ : Slots} {F : Rows} {K : Act → World → Prop} (d j : Nat) {cs : List AV} {sz n : Nat} {g : Nat → List AV} (h : σ.lookup d = some (.agg cs)) (hj : cs[j]? = some (.lst sz n g)) (next : n ≤ 9223372036854775807 → ∀ a w, R c σ F a w → K a w) : ∀ a w, R c σ F a w → K a w := by
  intro a w hR
  refine next ?_ a w hR
  have h1 := hR.slots d _ h
  generalize a.tmps.getD d undef = v at h1
  cases h1 with
  | @agg _ us hl h1 hr =>
    have hlt : j < us.length := by rw [hl]; exact (List.getElem?_eq_some_iff.1 hj).1
    have h2 := hr j _ _ hj (List.getElem?_eq_getElem hlt)
    generalize us[j] = v at h2
    cases h2 with
    | lst u hn hm => simp only [maxLen] at hm; omega

theorem upto_succ {P : Nat → Prop} {k : Nat} (h : ∀ j, j < k → P j) (hk : P k) : ∀ j, j < k + 1 → P j := fun j hj => by
  rcases Nat.lt_or_eq_of_le (Nat.le_of_lt_succ hj) with h1 | rfl
  · exact h j h1
  · exact hk

/-- The same row of one's own, told otherwise. -/
theorem ownAs {c : Ctx} {σ : Slots} {F : Rows} {K : Act → World → Prop} (id : Nat) {x : Value} {E sz n n' : Nat} {g : Nat → List AV} (g' : Nat → List AV) (h : F.lookup id = some (.own x E sz n g)) (hn : n = n') (hg : ∀ i, i < n → g i = g' i)
    (next : ∀ a w, R c σ (setF id id (.own x E sz n' g') F) a w → K a w) : ∀ a w, R c σ F a w → K a w := by
  intro a w hR
  refine next a w ?_
  subst hn
  obtain ⟨L1, L2, h1, h2⟩ := setF_split h
  rw [h2]
  have hsat := hR.sat
  rw [h1] at hsat
  obtain ⟨g1, g2⟩ := hsat.turn (i' := id) (r' := .own x E sz n g') (w' := w) hR.off (Nat.le_refl _) (fun _ _ _ => rfl) (fun b hb => .inl hb) fun he => by
    obtain ⟨us, ho, hl, hu, hr⟩ := hsat.rows (id, .own x E sz n g) (by simp)
    exact ⟨us, ho, fun i hi => by rw [← hg i hi]; exact hl i hi, hu, fun i hi j A hA => by
      obtain ⟨u, hu, hrep⟩ := hr i hi j A (by rw [hg i hi]; exact hA)
      exact ⟨u, hu, hrep.ext he⟩⟩
  refine ⟨hR.len, hR.defers, hR.hoff, hR.kept, fun s hs b hb => ?_, g1, fun k A hA => (hR.slots k A hA).ext (by rw [h1]; exact g2)⟩
  rcases List.mem_append.1 hs with h3 | h3
  · exact hR.fresh s (by rw [h1]; simp [h3]) b hb
  · rcases List.mem_cons.1 h3 with rfl | h3
    · exact hR.fresh (id, .own x E sz n g) (by rw [h1]; simp) b hb
    · exact hR.fresh s (by rw [h1]; simp [h3]) b hb

end Go.Proofs.YtlgdjmmjconbfaaDoor

/- A drawn region, told anew from where it stands. -/
namespace Go.Proofs.YtlgdjmmjconbfaaDoor
set_option linter.unusedVariables false
set_option linter.unusedSimpArgs false
set_option maxHeartbeats 8000000
open Go.RowKit

theorem wpAnyG_base {P : Program} {ops : Array Oper} {Q : Exit → Act → World → Prop} {S S' : Nat → World → Prop} : ∀ (n : Nat) (listed : Array Bool) (a : Act) (u : World), (∀ k v v', Still ops listed k → S' k v → S' k v' → S k v → S k v') → (∀ k, Still ops listed k → S' k u) →
    wpAnyG P ops Q S' n listed a u → wpAnyG P ops Q S n listed a u
  | 0, _, _, _, _, _, h => h
  | n + 1, listed, a, u, hS, h0, h => by
    refine ⟨h.1, fun j hj => wpOp_mono (fun a' w' h' => ⟨fun k hk hs => ?_, ?_⟩) (h.2 j hj)⟩
    · exact hS k u w' hk.less (h0 k hk.less) (h'.1 k hk (h0 k hk.less)) hs
    · exact wpAnyG_base n _ a' w' (fun k v v' hk => hS k v v' hk.less) (fun k hk => h'.1 k hk (h0 k hk.less)) h'.2

section
variable {P : Program} {c : Ctx} {σ σ1 : Slots} {F F1 : Rows} {rdf : List (Nat × List Nat)} {Q : Exit → Act → World → Prop} {ops : Array Oper} {fuel : Nat} {listed : Array Bool}
theorem H.rebase (next : H P ops c σ F rdf fuel listed σ F Q) : H P ops c σ1 F1 rdf fuel listed σ F Q := by
  intro w1 a w hI
  have hI' : HI ops c σ F rdf listed σ F w a w := ⟨hI.now, hI.now, Ext.refl _ _, hI.closed, fun _ _ s hs _ => hs, fun i _ => ⟨Nat.le_refl _, fun _ _ _ => rfl⟩⟩
  refine wpAnyG_base fuel listed a w (fun k v v' hk h1 h2 h3 => ?_) (fun k _ => ⟨Nat.le_refl _, fun _ _ _ => rfl⟩) (next w a w hI')
  refine ⟨Nat.le_trans hI.ext.size h2.1, fun b hb hr => ?_⟩
  have hbw : b < w.heap.size := Nat.lt_of_lt_of_le hb hI.ext.size
  have hw : ¬ Own c.off F b ∨ ∃ s ∈ F, s.1 ∈ rdOf rdf k ∧ s.2.block = some b := by
    rcases hr with hr | ⟨s, g1, g2, g3⟩
    · exact .inl (hI.ext.own b hb hr)
    · exact .inr ⟨s, hI.keep k hk s g1 g2, g2, g3⟩
  rw [h2.2 b hbw hw, ← h1.2 b hbw hw]
  exact h3.2 b hb hr
end

/-- Rows in another order, some of them dropped. -/
inductive Sub : Rows → Rows → Prop
  | refl (F : Rows) : Sub F []
  | pick {F F' G : Rows} {r : Nat × Row} (h : F.Perm (r :: F')) (t : Sub F' G) : Sub F (r :: G)
theorem Sub.perm {F G : Rows} (h : Sub F G) : ∃ H, F.Perm (G ++ H) := by
  induction h with
  | refl F => exact ⟨F, List.Perm.refl _⟩
  | pick h _ ih =>
    obtain ⟨H, hH⟩ := ih
    exact ⟨H, h.trans (List.Perm.cons _ hH)⟩
theorem p0 {r : Nat × Row} {F : Rows} : (r :: F).Perm (r :: F) := List.Perm.refl _
theorem p1 {a r : Nat × Row} {F : Rows} : (a :: r :: F).Perm (r :: a :: F) := List.Perm.swap _ _ _
theorem pS {a r : Nat × Row} {F F' : Rows} (h : F.Perm (r :: F')) : (a :: F).Perm (r :: a :: F') := (List.Perm.cons _ h).trans (List.Perm.swap _ _ _)
theorem R.weakP {c : Ctx} {σ σ' : Slots} {F G : Rows} {a : Act} {w : World} (hs : WeakOk σ σ') (hF : Sub F G) (h : R c σ F a w) : R c σ' G a w := by
  obtain ⟨H, hH⟩ := hF.perm
  exact (h.perm hH).weak hs (List.sublist_append_left _ _)

/-- A scope whose label is jumped back to: a pass is shown once. -/
theorem S.scopeE {P : Program} {c : Ctx} {σ : Slots} {F : Rows} {Q : Exit → Act → World → Prop} {ι : Type} {x B : Code} (l : Nat) (sl : ι → Slots) (ro : ι → Rows) (μ : ι → Nat) (hf : findLabel x l = some (.seq .skip B))
    (pass : ∀ i (J : Act → World → Prop), (∀ a w j, μ j < μ i → R c (sl j) (ro j) a w → J a w) → S P c B (sl i) (ro i) (Exit.jump l J Q))
    (first : (∀ i, S P c B (sl i) (ro i) (Exit.jump l (fun a w => ∃ i, R c (sl i) (ro i) a w) Q)) → S P c x σ F (Exit.jump l (fun a w => ∃ i, R c (sl i) (ro i) a w) Q)) : S P c (.scope x) σ F Q :=
  S.scope l sl ro μ hf (first fun i => pass i _ fun a w j _ hR => ⟨j, hR⟩) fun i => S.seq (S.skip (pass i _ fun a w j hj hR => ⟨j, hj, hR⟩))

end Go.Proofs.YtlgdjmmjconbfaaDoor

/- A block told otherwise; rows picked for a call. -/
namespace Go.Proofs.YtlgdjmmjconbfaaDoor
set_option linter.unusedVariables false
set_option linter.unusedSimpArgs false
set_option maxHeartbeats 8000000
open Go.RowKit

theorem blkAs {c : Ctx} {σ : Slots} {F : Rows} {K : Act → World → Prop} (id : Nat) {b : Nat} {T : TypeId} {cs : List AV} (cs' : List AV) (h : F.lookup id = some (.blk b T cs)) (hi : Imps cs cs')
    (next : ∀ a w, R c σ (setF id id (.blk b T cs') F) a w → K a w) : ∀ a w, R c σ F a w → K a w := by
  intro a w hR
  refine next a w ?_
  obtain ⟨L1, L2, h1, h2⟩ := setF_split h
  rw [h2]
  have hsat := hR.sat
  rw [h1] at hsat
  obtain ⟨i1, i2⟩ := hi.get
  obtain ⟨g1, g2⟩ := hsat.turn (i' := id) (r' := .blk b T cs') (w' := w) hR.off (Nat.le_refl _) (fun _ _ _ => rfl) (fun b hb => .inl hb) fun he => by
    obtain ⟨us, hh, hl, hu, hr⟩ := hsat.rows (id, .blk b T cs) (by simp)
    exact ⟨us, hh, hl.trans i1, hu, fun j A u hA hu => by
      obtain ⟨B, hB, hi⟩ := i2 j A hA
      exact hi _ _ _ ((hr j B u hB hu).ext he)⟩
  refine ⟨hR.len, hR.defers, hR.hoff, hR.kept, fun s hs b hb => ?_, g1, fun k A hA => (hR.slots k A hA).ext (by rw [h1]; exact g2)⟩
  rcases List.mem_append.1 hs with h3 | h3
  · exact hR.fresh s (by rw [h1]; simp [h3]) b hb
  · rcases List.mem_cons.1 h3 with rfl | h3
    · exact hR.fresh (id, .blk _ T cs) (by rw [h1]; simp) b hb
    · exact hR.fresh s (by rw [h1]; simp [h3]) b hb

theorem pickS {r : Nat × Row} {F F' G H : Rows} (h : F.Perm (r :: F')) (t : F'.Perm (G ++ H)) : F.Perm ((r :: G) ++ H) := h.trans (List.Perm.cons _ t)
theorem pick0 {F : Rows} : F.Perm ([] ++ F) := List.Perm.refl _

section
variable {P : Program} {c : Ctx} {σ : Slots} {F : Rows} {Q : Exit → Act → World → Prop} {ops : Array Oper} {rest : List Oper} {o : Oper}
/-- A guarded call that is made. -/
theorem O.callT {cl : Call} {x : Operand} {f d : Nat} {bb tt' : Bool} {caps As Bs : List AV} {p q : Prop} {G H : Rows} {Post : AV → Rows → Prop} (ho : o.op = .call cl) (hcl : cl.callee = .value x) (hg : guardA ops σ o = some (some (bb, tt'))) (hb : bb = tt') (hd : o.dst = some d) (hdN : Nat.blt d c.N = true) (hx : evalS σ x = some (.fn (.func f) caps, p)) (ha : argsA σ cl.args.toList = some (As, q))
    (hpq : p ∧ q) (hf : callable P f = true) (himp : Imps (As ++ caps) Bs) (hp : F.Perm (G ++ H)) (h : FnC P f Bs G Post) : O P ops c o σ F Q (G.map (·.1)) (PostOf Post) (fun i => (d, i.1.1) :: σ) (fun i => i.1.2 ++ H) := by
  intro a w hR K hK
  unfold Op1
  rw [if_pos ((guard_iff hR hg).2 hb)]
  obtain ⟨vs, h1, h2, h3⟩ := exec_call hR ho hcl hx ha hpq hf
  obtain ⟨i1, i2⟩ := himp.get
  simp only [Oper.wp]
  rw [h1, Oper.upon_enter, hd]
  exact call_core hR hp h (h2.trans i1) (fun j A u hA hu => by obtain ⟨B, hB, hi⟩ := i2 j A hA; exact hi _ _ _ (h3 j B u hB hu)) hdN fun r G' hP a' w' hR' hS hv => hK ⟨(r, G'), hP⟩ a' w' hR' hS (by rw [hd]; exact hv)
theorem L.callT {cl : Call} {x : Operand} {f d : Nat} {bb tt' : Bool} {caps As Bs : List AV} {p q : Prop} {G H : Rows} {Post : AV → Rows → Prop} (ho : o.op = .call cl) (hcl : cl.callee = .value x) (hg : guardA ops σ o = some (some (bb, tt'))) (hb : bb = tt') (hd : o.dst = some d) (hdN : Nat.blt d c.N = true) (hx : evalS σ x = some (.fn (.func f) caps, p)) (ha : argsA σ cl.args.toList = some (As, q))
    (hpq : p ∧ q) (hf : callable P f = true) (himp : Imps (As ++ caps) Bs) (hp : F.Perm (G ++ H)) (h : FnC P f Bs G Post) (next : ∀ r G', Post r G' → L P ops c rest ((d, r) :: σ) (G' ++ H) Q) : L P ops c (o :: rest) σ F Q :=
  L.of (O.callT ho hcl hg hb hd hdN hx ha hpq hf himp hp h) fun i => next i.1.1 i.1.2 i.2
end

end Go.Proofs.YtlgdjmmjconbfaaDoor

/- Arguments that can be read as data, as abstract values. -/
namespace Go.Proofs.YtlgdjmmjconbfaaDoor
set_option linter.unusedVariables false
set_option linter.unusedSimpArgs false
set_option maxHeartbeats 8000000
open Go.RowKit

def Rds (w : World) (As : List AV) (cs : List Value) : Prop := cs.length = As.length ∧ (∀ u ∈ cs, u.oneCell' = true) ∧ ∀ (j : Nat) A u, As[j]? = some A → cs[j]? = some u → Rep (fun _ => False) w A u

/-- What is read as a type is such a thing. -/
def RdP {α : Type} (P : Program) (t : TypeId) (enc : α → List AV) (ok : α → Prop) : Prop := ∀ (H : Type) (en : TypeId × Value → H) (W : World) (base : Nat) (spare : Nat → Bool) (held : Bool) (fuel : Nat) (cs : List Value) (x : DataW H × List MemPlace),
  DataW.trod en P W base spare held fuel t cs = some x → ∃ d, ok d ∧ Rds W (enc d) cs

theorem Rds.one {w : World} {A : AV} {v : Value} (h1 : v.oneCell' = true) (h : Rep (fun _ => False) w A v) : Rds w [A] [v] :=
  ⟨rfl, fun u hu => by rw [List.mem_singleton.1 hu]; exact h1, fun j B u hB hu => by
    cases j with
    | zero => simp at hB hu; subst hB; subst hu; exact h
    | succ j => simp at hB⟩
theorem Rds.app {w : World} {As Bs : List AV} {cs ds : List Value} (h : Rds w As cs) (k : Rds w Bs ds) : Rds w (As ++ Bs) (cs ++ ds) := by
  refine ⟨by simp [h.1, k.1], fun u hu => (List.mem_append.1 hu).elim (h.2.1 u) (k.2.1 u), fun j A u hA hu => ?_⟩
  rw [List.getElem?_append] at hA hu
  rw [h.1] at hu
  split at hA
  · rename_i hj; rw [if_pos hj] at hu; exact h.2.2 j A u hA hu
  · rename_i hj; rw [if_neg hj] at hu; exact k.2.2 _ A u hA hu

section
variable {P : Program} {t e : TypeId}
theorem rd_int {k : IntKind} (ht : P.underlying t = some (.int k)) : RdP P t (fun z : Int => [.v (.int k z)]) (fun z => (Lit.int k z).wf = true) := by
  intro H en W base spare held fuel cs x h
  obtain ⟨n, rfl, -, hw⟩ := DataW.trod_int ht h
  exact ⟨n, hw, Rds.one rfl (.v _)⟩
theorem rd_bool (ht : P.underlying t = some .bool) : RdP P t (fun z : Bool => [.v (.bool z)]) (fun _ => True) := by
  intro H en W base spare held fuel cs x h
  obtain ⟨n, rfl, -⟩ := DataW.trod_bool ht h
  exact ⟨n, trivial, Rds.one rfl (.v _)⟩
theorem rd_str (ht : P.underlying t = some .string) : RdP P t (fun z : ByteArray => [.v (.string z)]) (fun z => z.size ≤ maxLen) := by
  intro H en W base spare held fuel cs x h
  obtain ⟨n, rfl, -, hw⟩ := DataW.trod_string ht h
  exact ⟨n, hw, Rds.one rfl (.v _)⟩
theorem RdP.map {α β : Type} {enc : α → List AV} {ok : α → Prop} {enc' : β → List AV} {ok' : β → Prop} (h : RdP P t enc ok) (f : α → β) (he : ∀ d, enc' (f d) = enc d) (hk : ∀ d, ok d → ok' (f d)) : RdP P t enc' ok' := by
  intro H en W base spare held fuel cs x hx
  obtain ⟨d, h1, h2⟩ := h H en W base spare held fuel cs x hx
  exact ⟨f d, hk d h1, by rw [he]; exact h2⟩

theorem list_of {α : Type} {Q : Nat → α → Prop} : ∀ (n : Nat), (∀ i, i < n → ∃ d, Q i d) → ∃ l : List α, l.length = n ∧ ∀ i (h : i < l.length), Q i l[i]
  | 0, _ => ⟨[], rfl, fun i h => absurd h (by simp)⟩
  | n + 1, h => by
    obtain ⟨l, h1, h2⟩ := list_of (Q := Q) n fun i hi => h i (by omega)
    obtain ⟨d, hd⟩ := h n (by omega)
    refine ⟨l ++ [d], by simp [h1], fun i hi => ?_⟩
    rw [List.getElem_append]
    split
    · rename_i h3; exact h2 i h3
    · rename_i h3
      have : i = n := by simp at hi; omega
      subst this
      simpa [h1] using hd

theorem rd_slice {α : Type} [Inhabited α] {enc : α → List AV} {ok : α → Prop} {sz : Nat} (ht : P.underlying t = some (.slice e)) (hc : P.cellsOf e = sz) (hl : ∀ d, (enc d).length = sz) (he : RdP P e enc ok) :
    RdP P t (fun l : List α => [.lst sz l.length (gOf enc l)]) (fun l => l.length ≤ maxLen ∧ ∀ d ∈ l, ok d) := by
  intro H en W base spare held fuel cs x h
  rcases DataW.trod_slice ht h with ⟨rfl, -⟩ | ⟨a, len, cap, elems, rest, n, -, rfl, -, hb, hle, hm, hlen, hel, -, -⟩
  · exact ⟨[], ⟨by simp [maxLen], by simp⟩, Rds.one rfl (Imp.nil _ _ _ _ _ (.v _))⟩
  · have each : ∀ i, i < len → ∃ d, ok d ∧ ∃ cs' : List Value, W.cells? base (a.add (i * sz)) sz = some cs' ∧ Rds W (enc d) cs' := by
      intro i hi
      have h1 := hel i hi
      rw [hc, List.getElem?_eq_getElem (by omega), Option.bind_eq_some_iff] at h1
      obtain ⟨cs', h2, h3⟩ := h1
      obtain ⟨d, h4, h5⟩ := he H en W base spare held n cs' _ h3
      exact ⟨d, h4, cs', h2, h5⟩
    obtain ⟨l, h1, h2⟩ := list_of len each
    have h3 : ∀ i, ∃ cs' : List Value, ∀ (hi : i < l.length), W.cells? base (a.add (i * sz)) sz = some cs' ∧ Rds W (enc l[i]) cs' := fun i => by
      by_cases hi : i < l.length
      · obtain ⟨-, cs', h4, h5⟩ := h2 i hi; exact ⟨cs', fun _ => ⟨h4, h5⟩⟩
      · exact ⟨[], fun h => absurd h hi⟩
    obtain ⟨cf, hcf⟩ := Classical.axiomOfChoice h3
    subst h1
    refine ⟨l, ⟨by omega, fun d hd => ?_⟩, Rds.one rfl ?_⟩
    · obtain ⟨i, hi, rfl⟩ := List.getElem_of_mem hd
      exact (h2 i hi).1
    have hg : ∀ i (hi : i < l.length), gOf enc l i = enc l[i] := fun i hi => by rw [gOf, List.getD_eq_getElem?_getD, List.getElem?_eq_getElem hi]; rfl
    refine .lst (fun i j => if i < l.length then (cf i).getD j (.bool false) else .bool false) hle hm (fun h => by cases h) (fun i hi => by rw [hg i hi]; exact hl _) (fun i j => ?_) (fun ad had i hi j hj => ?_) (fun _ _ _ _ h => h) (fun i hi j B hB => ?_)
    · split
      · rename_i hi
        rw [List.getD_eq_getElem?_getD]
        cases hq : (cf i)[j]? with
        | none => rfl
        | some u => exact (hcf i hi).2.2.1 u (List.mem_of_getElem? hq)
      · rfl
    · cases had
      obtain ⟨g1, g2⟩ := hcf i hi
      rw [if_pos hi, ← add_add]
      have hlen' : j < (cf i).length := by rw [g2.1, hl]; exact hj
      have g3 := World.cells?_some g1
      rw [List.getD_eq_getElem?_getD, List.getElem?_eq_getElem hlen']
      have := g3.2.2 j hj
      rw [this, List.getElem?_eq_getElem hlen']
      rfl
    · rw [hg i hi] at hB
      rw [if_pos hi]
      obtain ⟨g1, g2⟩ := hcf i hi
      have hlen' : j < (cf i).length := by rw [g2.1]; exact (List.getElem?_eq_some_iff.1 hB).1
      rw [List.getD_eq_getElem?_getD, List.getElem?_eq_getElem hlen']
      exact g2.2.2 j B _ hB (List.getElem?_eq_getElem hlen')

/-- Fields, from a place on. -/
def RdF {α : Type} (P : Program) (fs : List (Nat × TypeId × Nat)) (k : Nat) (enc : α → List AV) (ok : α → Prop) : Prop := ∀ (H : Type) (en : TypeId × Value → H) (W : World) (base : Nat) (spare : Nat → Bool) (held : Bool) (cs : List Value),
  (∀ f ∈ fs, ∃ fuel x, DataW.trod en P W base spare held fuel f.2.1 ((cs.drop f.1).take f.2.2) = some x) → cs.length = k + (fs.map (·.2.2)).sum → ∃ d, ok d ∧ Rds W (enc d) (cs.drop k)
theorem rdf_nil {k : Nat} : RdF P [] k (fun _ : Unit => []) (fun _ => True) := by
  intro H en W base spare held cs _ hl
  refine ⟨(), trivial, ?_⟩
  rw [List.drop_of_length_le (by simp at hl; omega)]
  exact ⟨rfl, by simp, by simp⟩
theorem rdf_cons {α β : Type} {enc1 : α → List AV} {ok1 : α → Prop} {enc2 : β → List AV} {ok2 : β → Prop} {fs : List (Nat × TypeId × Nat)} {k n : Nat} (h1 : RdP P t enc1 ok1) (h2 : RdF P fs (k + n) enc2 ok2) :
    RdF P ((k, t, n) :: fs) k (fun d : α × β => enc1 d.1 ++ enc2 d.2) (fun d => ok1 d.1 ∧ ok2 d.2) := by
  intro H en W base spare held cs hf hl
  obtain ⟨fuel, x, hx⟩ := hf _ (List.mem_cons_self ..)
  obtain ⟨d1, g1, g2⟩ := h1 H en W base spare held fuel _ x hx
  simp only [List.map_cons, List.sum_cons] at hl
  obtain ⟨d2, g3, g4⟩ := h2 H en W base spare held cs (fun f hf' => hf f (List.mem_cons_of_mem _ hf')) (by omega)
  refine ⟨(d1, d2), ⟨g1, g3⟩, ?_⟩
  have e : cs.drop k = (cs.drop k).take n ++ cs.drop (k + n) := by
    rw [← List.drop_drop, List.take_append_drop]
  rw [e]
  exact g2.app g4
theorem rd_struct {α : Type} {T : Types} (hT : TOk P T) {i : TI} {fs : List (Nat × TypeId × Nat)} {enc : α → List AV} {ok : α → Prop} (ht : T.lookup t = some i) (hd : i.d = .struct fs) (hs : i.size = (fs.map (·.2.2)).sum) (h : RdF P fs 0 enc ok) : RdP P t enc ok := by
  intro H en W base spare held fuel cs x hx
  have told := hT.told ht
  obtain ⟨l, hu, hf⟩ := told.struct hd
  obtain ⟨xs, n, -, -, hl, hlen, hall⟩ := DataW.trod_struct hu hx
  have hsz : P.cellsOf t = i.size := by
    obtain ⟨j, z, h1, h2, -⟩ := told.info
    simp [Program.cellsOf, h1, h2]
  have hh : ∀ f ∈ fs, ∃ fuel x, DataW.trod en P W base spare held fuel f.2.1 ((cs.drop f.1).take f.2.2) = some x := by
    intro f hfm
    obtain ⟨j, hj⟩ := List.getElem?_of_mem hfm
    obtain ⟨o, tf, m⟩ := f
    obtain ⟨g, g1, rfl, rfl, g4, -⟩ := fsOk_get hf hj
    have hg : l[j]? = some g := by simpa using g1
    have hjl : j < xs.length := by rw [hlen]; exact (Array.getElem?_eq_some_iff.1 hg).1
    have h5 := hall j g hg
    have h6 : P.cellsOf g.type = m := by simp [Program.cellsOf, g4]
    rw [List.getElem?_eq_getElem hjl, h6] at h5
    exact ⟨n, _, h5⟩
  obtain ⟨d, h1, h2⟩ := h H en W base spare held cs hh (by omega)
  exact ⟨d, h1, by simpa using h2⟩
theorem RdP.read {α : Type} {enc : α → List AV} {ok : α → Prop} (h : RdP P t enc ok) {H : Type} {en : TypeId × Value → H} {W : World} {base : Nat} {spare : Nat → Bool} {held : Bool} {v : Value} {d : DataW H} {ps : List MemPlace} (hd : DataW.Trod en P W base spare held t v d ps) :
    ∃ d, ok d ∧ Rds W (enc d) v.cells.toList := by
  obtain ⟨fuel, hf⟩ := hd
  exact h H en W base spare held fuel _ _ hf
end

theorem wf_fit {z : Int} (h : (Lit.int .i64 z).wf = true) : fitI z := by
  have e1 : IntKind.i64.min = -9223372036854775808 := rfl
  have e2 : IntKind.i64.max = 9223372036854775807 := rfl
  simp only [Lit.wf, Bool.and_eq_true, decide_eq_true_eq, e1, e2] at h
  unfold fitI
  omega
theorem reads_slice {w : World} {A : AV} {v : Value} {a : Option Addr} {l c : Nat} (hv : v = .slice a l c) (h : Rds w [A] v.cells.toList) : Rep (fun _ => False) w A v := by
  subst hv
  exact h.2.2 0 A _ rfl rfl

end Go.Proofs.YtlgdjmmjconbfaaDoor

/- Structs that come in. -/
namespace Go.Proofs.YtlgdjmmjconbfaaDoor
set_option linter.unusedVariables false
set_option linter.unusedSimpArgs false
set_option maxHeartbeats 8000000
open Go.RowKit
theorem reads_agg {w : World} {cs : List AV} {v : Value} {us : Array Value} (hv : v = .agg us) (h : Rds w cs v.cells.toList) : Rep (fun _ => False) w (.agg cs) v := by
  subst hv
  have h' : Rds w cs us.toList := h
  have := Rep.agg (own := fun _ => False) (w := w) (us := us.toList) h'.1 h'.2.1 h'.2.2
  simpa using this
end Go.Proofs.YtlgdjmmjconbfaaDoor

/- A slice of one's own is given away in a region that draws its order. -/
namespace Go.Proofs.YtlgdjmmjconbfaaDoor
set_option linter.unusedVariables false
set_option linter.unusedSimpArgs false
set_option maxHeartbeats 8000000
open Go.RowKit

theorem delF_mem {F : Rows} {id : Nat} {s : Nat × Row} (h : s ∈ F) (hn : s.1 ≠ id) : s ∈ delF id F := by
  induction F with
  | nil => cases h
  | cons x t ih =>
    obtain ⟨k, r⟩ := x
    unfold delF
    split
    · rename_i e
      rcases List.mem_cons.1 h with rfl | h
      · exact absurd e hn
      · exact h
    · rcases List.mem_cons.1 h with rfl | h
      · exact List.mem_cons_self
      · exact List.mem_cons_of_mem _ (ih h)

section
variable {P : Program} {c : Ctx} {σ σ1 : Slots} {F F1 : Rows} {rdf : List (Nat × List Nat)} {Q : Exit → Act → World → Prop} {ops : Array Oper} {fuel : Nat} {listed : Array Bool}
theorem H.freeze (d id : Nat) {id' : Nat} {x x' : Value} {E sz n : Nat} {g : Nat → List AV} (hrow : F.lookup id = some (.own x E sz n g)) (hd : σ.lookup d = some (.ref id' x')) (hx : x' = x) (hnr : rdf.all (fun p => !p.2.contains id) = true)
    (next : H P ops c ((d, .lst sz n g) :: σ) (delF id F) rdf fuel listed ((d, .lst sz n g) :: σ) (delF id F) Q) : H P ops c σ1 F1 rdf fuel listed σ F Q := by
  intro w1 a w hI
  have hno : ∀ k, id ∉ rdOf rdf k := by
    intro k hk
    unfold rdOf at hk
    cases hl : rdf.lookup k with
    | none => rw [hl] at hk; cases hk
    | some l =>
      rw [hl] at hk
      have hm : (k, l) ∈ rdf := by
        clear next hI hnr
        induction rdf with
        | nil => cases hl
        | cons y t ih =>
          obtain ⟨j, m⟩ := y
          rw [List.lookup_cons] at hl
          split at hl
          · rename_i e
            cases hl
            rw [beq_iff_eq] at e
            subst e
            exact List.mem_cons_self
          · exact List.mem_cons_of_mem _ (ih hl)
      have := List.all_eq_true.1 hnr _ hm
      simp only [Bool.not_eq_true', Bool.eq_false_iff] at this
      exact this (List.contains_iff_mem.2 (by simpa using hk))
  have hnow : R c ((d, .lst sz n g) :: σ) (delF id F) a w := freezeSlot (K := R c ((d, .lst sz n g) :: σ) (delF id F)) d id hrow hd hx (fun _ _ h => h) a w hI.now
  obtain ⟨L1, L2, e1, e2⟩ := delF_split hrow
  have hown : ∀ b, Own c.off (delF id F) b → Own c.off F b := fun b hb => Own.tail (fun r hr => by rw [e2] at hr; rw [e1]; rcases List.mem_append.1 hr with h | h <;> simp [h]) hb
  have hI' : HI ops c ((d, .lst sz n g) :: σ) (delF id F) rdf listed ((d, .lst sz n g) :: σ) (delF id F) w a w := ⟨hnow, hnow, Ext.refl _ _, hI.closed, fun _ _ s hs _ => hs, fun i _ => ⟨Nat.le_refl _, fun _ _ _ => rfl⟩⟩
  refine wpAnyG_base fuel listed a w (fun k v v' hk h1 h2 h3 => ?_) (fun k _ => ⟨Nat.le_refl _, fun _ _ _ => rfl⟩) (next w a w hI')
  refine ⟨Nat.le_trans hI.ext.size h2.1, fun b hb hr => ?_⟩
  have hbw : b < w.heap.size := Nat.lt_of_lt_of_le hb hI.ext.size
  have hw : ¬ Own c.off (delF id F) b ∨ ∃ s ∈ delF id F, s.1 ∈ rdOf rdf k ∧ s.2.block = some b := by
    rcases hr with hr | ⟨s, g1, g2, g3⟩
    · exact .inl fun h => hI.ext.own b hb hr (hown b h)
    · exact .inr ⟨s, delF_mem (hI.keep k hk s g1 g2) (fun e => hno k (e ▸ g2)), g2, g3⟩
  rw [h2.2 b hbw hw, ← h1.2 b hbw hw]
  exact h3.2 b hb hr

/-- One of three operations may come up. -/
theorem H.o3 {o o' o'' : Oper} {ids ids' ids'' : List Nat} {ι ι' ι'' : Type} {sl : ι → Slots} {ro : ι → Rows} {sl' : ι' → Slots} {ro' : ι' → Rows} {sl'' : ι'' → Slots} {ro'' : ι'' → Rows} (i i' i'' : Nat) {n : Nat} (hi : ops[i]? = some o) (hi' : ops[i']? = some o') (hi'' : ops[i'']? = some o'') (hn : Nat.blt 0 n = true) (hrd : Region.ready .any ops listed = [i, i', i''])
    (h : O P ops c o σ F Q ids ι sl ro) (h' : O P ops c o' σ F Q ids' ι' sl' ro') (h'' : O P ops c o'' σ F Q ids'' ι'' sl'' ro'') (ht : tch ops i = true ∨ ids = []) (ht' : tch ops i' = true ∨ ids' = []) (ht'' : tch ops i'' = true ∨ ids'' = [])
    (hdis : apartOk ops rdf i ids = true) (hdis' : apartOk ops rdf i' ids' = true) (hdis'' : apartOk ops rdf i'' ids'' = true)
    (next : ∀ k, H P ops c (headW o.dst (sl k) (σ1.filter fun p => !(o.dst == some p.1))) F1 rdf (n - 1) (listed.setIfInBounds i true) (sl k) (ro k) Q) (next' : ∀ k, H P ops c (headW o'.dst (sl' k) (σ1.filter fun p => !(o'.dst == some p.1))) F1 rdf (n - 1) (listed.setIfInBounds i' true) (sl' k) (ro' k) Q)
    (next'' : ∀ k, H P ops c (headW o''.dst (sl'' k) (σ1.filter fun p => !(o''.dst == some p.1))) F1 rdf (n - 1) (listed.setIfInBounds i'' true) (sl'' k) (ro'' k) Q) : H P ops c σ1 F1 rdf n listed σ F Q := by
  obtain ⟨m, rfl⟩ : ∃ m, n = m + 1 := ⟨n - 1, by have := of_blt hn; omega⟩
  intro w1 a w hI
  refine ⟨fun h0 => (by rw [hrd] at h0; cases h0), fun j hj => ?_⟩
  have hj' := hj
  rw [hrd] at hj'
  rcases (by simpa using hj' : j = i ∨ j = i' ∨ j = i'') with rfl | rfl | rfl
  · exact H.run hi h ht hdis next hI hj
  · exact H.run hi' h' ht' hdis' next' hI hj
  · exact H.run hi'' h'' ht'' hdis'' next'' hI hj

/-- The same at a slot that is told otherwise. -/
theorem H.tell (d : Nat) {A : AV} (B : AV) (hd : σ.lookup d = some A) (hi : Imp A B) (next : H P ops c ((d, B) :: σ) F rdf fuel listed ((d, B) :: σ) F Q) : H P ops c σ1 F1 rdf fuel listed σ F Q := by
  refine H.rebase ?_
  intro w1 a w hI
  have hb : R c ((d, B) :: σ) F a w1 := slotAs (K := R c ((d, B) :: σ) F) d B hd hi (fun _ _ h => h) a w1 hI.base
  have hn : R c ((d, B) :: σ) F a w := slotAs (K := R c ((d, B) :: σ) F) d B hd hi (fun _ _ h => h) a w hI.now
  exact next w1 a w ⟨hb, hn, hI.ext, hI.closed, hI.keep, hI.st⟩
end

end Go.Proofs.YtlgdjmmjconbfaaDoor

/- An array in memory: its cells by place. -/
namespace Go.Proofs.YtlgdjmmjconbfaaDoor
set_option linter.unusedVariables false
set_option linter.unusedSimpArgs false
set_option maxHeartbeats 8000000
open Go.RowKit

def arrV (b n : Nat) : Value := .slice (some ⟨b, 0, none⟩) n n
theorem addr_zero (a : Addr) : a.add 0 = a := by unfold Addr.add; simp
theorem arrRow {c : Ctx} {σ : Slots} {F : Rows} {K : Act → World → Prop} (d id sz n : Nat) {b b' T : Nat} {cs : List AV} (g : Nat → List AV) (h : F.lookup id = some (.blk b T cs)) (hd : σ.lookup d = some (.ptr id b' 0)) (hb : b' = b) (hl : cs.length = n * sz) (hn : n ≤ maxLen)
    (hg : ∀ i, i < n → (g i).length = sz ∧ ∀ j A, (g i)[j]? = some A → cs[i * sz + j]? = some A)
    (next : ∀ a w, R c ((d, .eptr id (arrV b n) sz 0 0) :: σ) (setF id id (.own (arrV b n) T sz n g) F) a w → K a w) : ∀ a w, R c σ F a w → K a w := by
  intro a w hR
  subst hb
  refine next a w ?_
  obtain ⟨L1, L2, h1, h2⟩ := setF_split h
  rw [h2]
  have hsat := hR.sat
  rw [h1] at hsat
  obtain ⟨g1, g2⟩ := hsat.turn (i' := id) (r' := .own (arrV b' n) T sz n g) (w' := w) hR.off (Nat.le_refl _) (fun _ _ _ => rfl) (fun b hb => .inl hb) fun he => by
    obtain ⟨us, hh, hl', hu, hr⟩ := hsat.rows (id, .blk b' T cs) (by simp)
    refine ⟨us, ⟨hl'.trans hl, .inr ⟨b', n, us.toArray, rfl, Nat.zero_le _, hh, Nat.le_refl _, hn, by simpa using hl'.trans hl, ?_⟩⟩, fun i hi => (hg i hi).1, hu, fun i hi j A hA => ?_⟩
    · show us.take (n * sz) = us
      exact List.take_of_length_le (by omega)
    · have hc := (hg i hi).2 j A hA
      have hlt : i * sz + j < us.length := by
        rw [hl']
        exact (List.getElem?_eq_some_iff.1 hc).1
      exact ⟨us[i * sz + j], List.getElem?_eq_getElem hlt, (hr _ A _ hc (List.getElem?_eq_getElem hlt)).ext he⟩
  refine ⟨hR.len, hR.defers, hR.hoff, hR.kept, fun s hs b hb => ?_, g1, fun k A hA => ?_⟩
  · rcases List.mem_append.1 hs with h3 | h3
    · exact hR.fresh s (by rw [h1]; simp [h3]) b hb
    · rcases List.mem_cons.1 h3 with rfl | h3
      · exact hR.fresh (id, .blk _ T cs) (by rw [h1]; simp) b hb
      · exact hR.fresh s (by rw [h1]; simp [h3]) b hb
  · rw [lookup_cons] at hA
    split at hA
    · rename_i e
      cases hA
      have h3 := hR.slots d _ hd
      rw [e]
      generalize a.tmps.getD d undef = v at h3 ⊢
      cases h3
      have h4 := Rep.eptr (own := Own c.off (L1 ++ (id, .own (arrV b' n) T sz n g) :: L2)) (w := w) id (arrV b' n) sz 0 0
      rw [show 0 * sz + 0 = 0 by omega, addr_zero] at h4
      exact h4
    · exact (hR.slots k A hA).ext (by rw [h1]; exact g2)

end Go.Proofs.YtlgdjmmjconbfaaDoor

/- Slices of one's own: a beginning, an end that is cleared. -/
namespace Go.Proofs.YtlgdjmmjconbfaaDoor
set_option linter.unusedVariables false
set_option linter.unusedSimpArgs false
set_option maxHeartbeats 8000000
open Go.RowKit

def firstW : Value → Nat → Value
  | .slice a _ c, k => .slice a k c
  | v, _ => v
def restW (sz : Nat) : Value → Nat → Value
  | .slice a n c, k => .slice (if c = k then a else a.map (·.add (k * sz))) (n - k) (c - k)
  | v, _ => v

theorem own_head {w : World} {e sz n k : Nat} {v : Value} {us : List Value} (h : w.ownsRow 0 e sz v n us) (hk : k ≤ n) : w.ownsRow 0 e sz (firstW v k) k (us.take (k * sz)) ∧ (firstW v k).ownBlock = v.ownBlock := by
  obtain ⟨h1, h2⟩ := h
  have hm : k * sz ≤ n * sz := Nat.mul_le_mul_right sz hk
  rcases h2 with ⟨rfl, rfl⟩ | ⟨g, cap, cur, rfl, hb, hh, hn, hc, hs, ht⟩
  · obtain rfl : k = 0 := by omega
    exact ⟨⟨by simp, .inl ⟨rfl, rfl⟩⟩, rfl⟩
  · refine ⟨⟨by rw [List.length_take, h1, Nat.min_eq_left hm], .inr ⟨g, cap, cur, rfl, hb, hh, by omega, hc, hs, ?_⟩⟩, ?_⟩
    · rw [← ht, List.take_take, Nat.min_eq_left hm]
    · rfl

section
variable {P : Program} {T : Types} {c : Ctx} {σ : Slots} {F : Rows} {Q : Exit → Act → World → Prop} {ops : Array Oper} {rest : List Oper} {o : Oper}

theorem opt_zero (a : Option Addr) (k m : Nat) : (if k = 0 then a else a.map (·.add (0 * m))) = a := by
  split
  · rfl
  · cases a with
    | none => rfl
    | some a => simp [addr_zero]

/-- 's[:k]' of one's own. -/
theorem O.sliceHead {t e : TypeId} {i : TI} {x hi : Operand} {id d : Nat} {x0 x0' : Value} {E sz n : Nat} {g : Nat → List AV} {z : Int} {k : IntKind} {p q : Prop} (hT : TOk P T) (ho : o.op = .slice t x none (some hi) none) (hg : o.guard = none) (hd : o.dst = some d) (hdN : Nat.blt d c.N = true)
    (ht : tdOf T t = some (.slice e)) (he : T.lookup e = some i) (hs : evalS σ x = some (.ref id x0, p)) (hrow : F.lookup id = some (.own x0' E sz n g)) (hx : evalS σ hi = some (.v (.int k z), q)) (hC : x0 = x0' ∧ p ∧ q ∧ 0 ≤ z ∧ z ≤ n)
    : O P ops c o σ F Q [id] Unit (fun _ => (d, .ref id (firstW x0 z.toNat)) :: σ) (fun _ => setF id id (.own (firstW x0 z.toNat) E sz z.toNat g) F) := by
  intro a w hR K hK
  refine Op1.plain hg ?_
  obtain ⟨rfl, hp, hq, h0, hn⟩ := hC
  have hA := hR.evals hs hp
  have hA' : a.eval x = x0 := by generalize a.eval x = v at hA; cases hA; rfl
  have hB := hR.evals hx hq
  have hB' : a.eval hi = .int k z := by generalize a.eval hi = v at hB; cases hB; rfl
  obtain ⟨us, hown, hlen, h1, hr⟩ := hR.sat.at hrow
  obtain ⟨ti, hti, htd⟩ := tdOf_some ht
  have hzn : z.toNat ≤ n := by omega
  obtain ⟨o1, o2⟩ := own_head hown hzn
  obtain ⟨A, cap, hv, hnc, hcm⟩ := own_form0 hown
  obtain ⟨k1, k2, k3, k4⟩ := hR.write (i' := id) (r' := .own (firstW x0 z.toNat) E sz z.toNat g) hrow (w' := w) (Nat.le_refl _) rfl rfl rfl (fun _ _ _ => rfl) (fun b hb => .inl (o2.symm.trans hb)) (fun hext => by
      refine ⟨us.take (z.toNat * sz), o1, fun j hj => hlen j (by omega), fun u hu => h1 u (List.mem_of_mem_take hu), fun j hj l A hA => ?_⟩
      obtain ⟨u, hu, hrep⟩ := hr j (by omega) l A hA
      refine ⟨u, ?_, hrep.ext hext⟩
      have hl : l < sz := by rw [← hlen j (by omega)]; exact (List.getElem?_eq_some_iff.1 hA).1
      have hm : j * sz + sz ≤ z.toNat * sz := by
        have := Nat.mul_le_mul_right sz (show j + 1 ≤ z.toNat by omega)
        rwa [Nat.add_mul, Nat.one_mul] at this
      rw [List.getElem?_take, if_pos (by omega)]
      exact hu)
  have hgive : (execOp a.eval o).run P w = .ok (.value (firstW x0 z.toNat)) w := by
    subst hv
    have hzc : z ≤ (cap : Int) := by omega
    simp [execOp, ho, Instr.sliceAt, Instr.slice, Instr.sliceBounds, Instr.sliceBound, asIntOf, run_underlying ((hT.told hti).slice htd), (hT.told he).size, hA', hB', h0, hzc, firstW]
    intro _
    cases A with
    | none => rfl
    | some a => simp [addr_zero]
  simp only [Oper.wp]
  rw [hgive, Oper.upon_value, hd]
  have hone : (firstW x0 z.toNat).oneCell' = true := by subst hv; rfl
  exact hK () _ _ (hR.step (of_blt hdN) k1 k2 k3 k4.ext (.ref _ _ hone)) k4 ⟨_, by rw [hd]⟩

/-- 's[k:]' of one's own, as a value. -/
theorem O.sliceTail {t e : TypeId} {i : TI} {x lo : Operand} {id d : Nat} {x0 x0' : Value} {E sz n : Nat} {g : Nat → List AV} {z : Int} {k : IntKind} {p q : Prop} (hT : TOk P T) (ho : o.op = .slice t x (some lo) none none) (hg : o.guard = none) (hd : o.dst = some d) (hdN : Nat.blt d c.N = true)
    (ht : tdOf T t = some (.slice e)) (he : T.lookup e = some i) (hs : evalS σ x = some (.ref id x0, p)) (hrow : F.lookup id = some (.own x0' E sz n g)) (hx : evalS σ lo = some (.v (.int k z), q)) (hC : x0 = x0' ∧ p ∧ q ∧ 0 ≤ z ∧ z ≤ n)
    : O P ops c o σ F Q [] Unit (fun _ => (d, .v (restW i.size x0 z.toNat)) :: σ) (fun _ => F) := by
  intro a w hR K hK
  refine Op1.plain hg ?_
  obtain ⟨rfl, hp, hq, h0, hn⟩ := hC
  have hA := hR.evals hs hp
  have hA' : a.eval x = x0 := by generalize a.eval x = v at hA; cases hA; rfl
  have hB := hR.evals hx hq
  have hB' : a.eval lo = .int k z := by generalize a.eval lo = v at hB; cases hB; rfl
  obtain ⟨us, hown, hlen, h1, hr⟩ := hR.sat.at hrow
  obtain ⟨ti, hti, htd⟩ := tdOf_some ht
  obtain ⟨A, cap, hv, hnc, hcm⟩ := own_form0 hown
  have hgive : (execOp a.eval o).run P w = .ok (.value (restW i.size x0 z.toNat)) w := by
    subst hv
    simp [execOp, ho, Instr.sliceAt, Instr.slice, Instr.sliceBounds, Instr.sliceBound, asIntOf, run_underlying ((hT.told hti).slice htd), (hT.told he).size, hA', hB', h0, hn, restW]
  simp only [Oper.wp]
  rw [hgive, Oper.upon_value, hd]
  exact hK () _ _ (hR.pure (of_blt hdN) (.v _)) ⟨Ext.refl _ _, fun _ _ _ _ _ => rfl, fun s hs _ => hs⟩ ⟨_, by rw [hd]⟩

/-- 'clear(s[k:])'. -/
theorem O.clearTail {t e : TypeId} {i : TI} {x : Operand} {id k : Nat} {x0 : Value} {sz n : Nat} {g : Nat → List AV} {p : Prop} (hT : TOk P T) (ho : o.op = .call { callee := .builtin .clear, args := #[x], argTypes := #[t] }) (hg : o.guard = none) (hd : o.dst = none)
    (ht : tdOf T t = some (.slice e)) (he : T.lookup e = some i) (hs : evalS σ x = some (.v (restW i.size x0 k), p)) (hrow : F.lookup id = some (.own x0 e sz n g)) (hC : p ∧ sz = i.size ∧ k ≤ n)
    : O P ops c o σ F Q [id] Unit (fun _ => σ) (fun _ => setF id id (.own x0 e sz n (fun j => if j < k then g j else i.zero.map .v)) F) := by
  intro a w hR K hK
  refine Op1.plain hg ?_
  obtain ⟨hp, rfl, hk⟩ := hC
  have hA := hR.evals hs hp
  have hA' : a.eval x = restW i.size x0 k := by generalize a.eval x = v at hA; cases hA; rfl
  obtain ⟨us, hown, hlen, h1, hr⟩ := hR.sat.at hrow
  obtain ⟨ti, hti, htd⟩ := tdOf_some ht
  have told := hT.told he
  obtain ⟨z, hz, hzr⟩ := told.run_zero
  have hzs : z.cells.size = i.size := by rw [← Array.length_toList, hz, told.zsize]
  rcases Nat.lt_or_eq_of_le hk with hlt | rfl
  · rcases hown.2 with ⟨-, h0⟩ | ⟨b, cap, cur, hv, hb, hh, hnc, hcm, hcs, hct⟩
    · omega
    have hown' := hown
    rw [hv] at hown'
    have hkz : k * i.size + (n - k) * i.size = n * i.size := by rw [← Nat.add_mul]; congr 1; omega
    have hul : us.length = n * i.size := hown.1
    have hcells := fun j (hj : j < us.length) => own_cell hown' j hj
    have hclr := run_clear_cells (P := P) w t e o.type z ((hT.told hti).slice htd) hzr (fun u hu => told.zone u (by rw [← hz]; exact Array.mem_toList_iff.2 hu)) b (k * i.size) (n - k) (cap - k) (by omega)
      (fun j hj => by rw [(hcells _ (by rw [hzs] at hj; omega)).1, List.getElem?_eq_getElem (by rw [hzs] at hj; omega)]; rfl) (fun j hj => (hcells _ (by rw [hzs] at hj; omega)).2)
    have hzl : (Builtin.zeroCells z.cells (n - k)).toList.length = (n - k) * i.size := by rw [zeroCells_length, hzs]
    have hblk : Blk w b cur.toList e := by unfold Blk; simpa using hh
    have hcl : cur.toList.length = cap * i.size := by simpa using hcs
    have hcn : n * i.size ≤ cap * i.size := Nat.mul_le_mul_right _ hnc
    have hblk' := hblk.setCells (Builtin.zeroCells z.cells (n - k)).toList (k * i.size) w cur.toList (by rw [hzl, hcl]; omega)
    rw [hzl, hkz] at hblk'
    obtain ⟨s1, s2, s3, s4⟩ := setCells_same (g := b) (Builtin.zeroCells z.cells (n - k)).toList (k * i.size) w
    obtain ⟨k1, k2, k3, k4⟩ := hR.write (i' := id) (r' := .own x0 e i.size n (fun j => if j < k then g j else i.zero.map .v)) hrow (w' := w.setCells b (k * i.size) (Builtin.zeroCells z.cells (n - k)).toList) (by omega) s1 s2 s3
      (fun b' hlt' hne => setCells_heap _ _ _ _ (by
        rintro rfl
        exact hne (by rw [hv]; rfl))) (fun b' hb' => .inl hb') (fun hext => by
        refine ⟨us.take (k * i.size) ++ (Builtin.zeroCells z.cells (n - k)).toList, ⟨by rw [List.length_append, List.length_take, hul, hzl, Nat.min_eq_left (Nat.mul_le_mul_right _ hk)]; exact hkz, .inr ⟨b, cap, (cur.toList.take (k * i.size) ++ (Builtin.zeroCells z.cells (n - k)).toList ++ cur.toList.drop (n * i.size)).toArray, hv, hb, ?_, hnc, hcm, ?_, ?_⟩⟩, fun j hj => ?_, fun u hu => ?_, fun j hj l A hA => ?_⟩
        · have := hblk'
          unfold Blk at this
          exact this
        · simp only [List.size_toArray, List.length_append, List.length_take, List.length_drop, hzl, hcl]
          omega
        · show (cur.toList.take (k * i.size) ++ (Builtin.zeroCells z.cells (n - k)).toList ++ cur.toList.drop (n * i.size)).take (n * i.size) = _
          rw [List.take_left' (by rw [List.length_append, List.length_take, hcl, hzl, Nat.min_eq_left (Nat.le_trans (Nat.mul_le_mul_right _ hk) hcn)]; exact hkz), ← hct, List.take_take, Nat.min_eq_left (Nat.mul_le_mul_right _ hk)]
        · show (if j < k then g j else i.zero.map .v).length = _
          split
          · exact hlen j hj
          · simp [told.zsize]
        · rcases List.mem_append.1 hu with h | h
          · exact h1 u (List.mem_of_mem_take h)
          · unfold Builtin.zeroCells at h
            obtain ⟨y, hy, rfl⟩ := Array.mem_map.1 (Array.mem_toList_iff.1 h)
            have hp : y % z.cells.size < z.cells.size := Nat.mod_lt _ (by rw [hzs]; exact told.pos)
            rw [getElem!_pos z.cells _ hp]
            exact told.zone _ (by rw [← hz]; exact Array.mem_toList_iff.2 (Array.getElem_mem hp))
        · have hjm : j * i.size + i.size ≤ n * i.size := by
            have := Nat.mul_le_mul_right i.size (show j + 1 ≤ n by omega)
            rwa [Nat.add_mul, Nat.one_mul] at this
          replace hA : (if j < k then g j else i.zero.map .v)[l]? = some A := hA
          split at hA
          · rename_i hjk
            obtain ⟨u, hu, hrep⟩ := hr j (by omega) l A hA
            have hl : l < i.size := by rw [← hlen j (by omega)]; exact (List.getElem?_eq_some_iff.1 hA).1
            have hm : j * i.size + i.size ≤ k * i.size := by
              have := Nat.mul_le_mul_right i.size (show j + 1 ≤ k by omega)
              rwa [Nat.add_mul, Nat.one_mul] at this
            refine ⟨u, ?_, hrep.ext hext⟩
            rw [List.getElem?_append_left (by rw [List.length_take, hul, Nat.min_eq_left (Nat.mul_le_mul_right _ hk)]; omega), List.getElem?_take, if_pos (by omega)]
            exact hu
          · rename_i hjk
            rw [List.getElem?_map] at hA
            cases hu : i.zero[l]? with
            | none => rw [hu] at hA; cases hA
            | some u =>
              rw [hu] at hA
              cases hA
              have hl : l < i.size := by rw [← told.zsize]; exact (List.getElem?_eq_some_iff.1 hu).1
              have hge : k * i.size ≤ j * i.size := Nat.mul_le_mul_right _ (by omega)
              refine ⟨u, ?_, .v u⟩
              have e1 : (us.take (k * i.size)).length = k * i.size := by rw [List.length_take, hul, Nat.min_eq_left (Nat.mul_le_mul_right _ hk)]
              rw [List.getElem?_append_right (by rw [e1]; omega)]
              rw [e1]
              have e2 : j * i.size + l - k * i.size = (j - k) * i.size + l := by rw [Nat.sub_mul]; omega
              rw [e2]
              unfold Builtin.zeroCells
              have hlt2 : (j - k) * i.size + l < (n - k) * z.cells.size := by
                rw [hzs]
                have := Nat.mul_le_mul_right i.size (show (j - k) + 1 ≤ n - k by omega)
                rw [Nat.add_mul, Nat.one_mul] at this
                omega
              have hmod : ((j - k) * i.size + l) % z.cells.size = l := by rw [hzs, Nat.mul_comm, Nat.mul_add_mod, Nat.mod_eq_of_lt hl]
              have hget : z.cells[l]! = u := by
                rw [getElem!_pos z.cells l (by omega), ← Array.getElem_toList]
                have := (List.getElem?_eq_some_iff.1 hu).2
                simp only [hz]
                exact this
              simp [hlt2, hmod, hget])
    have hck : ¬ cap = k := by omega
    have hgive : (execOp a.eval o).run P w = .ok (.value (.tuple #[])) (w.setCells b (k * i.size) (Builtin.zeroCells z.cells (n - k)).toList) := by
      have hA2 : a.eval x = .slice (some ⟨b, k * i.size, none⟩) (n - k) (cap - k) := by
        rw [hA', hv]
        simp [restW, hck, addr_add_lit]
      simp [execOp, ho, resolve, invoke, builtin, hA2, hclr]
    simp only [Oper.wp]
    rw [hgive, Oper.upon_value, hd]
    exact hK () _ _ (hR.step_none k1 k2 k3 k4.ext) k4 ⟨.tuple #[], by rw [hd]⟩
  · obtain ⟨A, cap, hv, hnc, hcm⟩ := own_form0 hown
    have hgive : (execOp a.eval o).run P w = .ok (.value (.tuple #[])) w := by
      rw [hv] at hA'
      simp only [restW, Nat.sub_self] at hA'
      have hclr : ∀ B C, (Builtin.clear_ #[t] o.type #[.slice B 0 C]).run P w = .ok (.tuple #[]) w := fun B C => by
        cases B <;> simp [Builtin.clear_, run_underlying ((hT.told hti).slice htd)]
      simp [execOp, ho, resolve, invoke, builtin, hA', hclr]
    obtain ⟨k1, k2, k3, k4⟩ := hR.write (i' := id) (r' := .own x0 e i.size k (fun j => if j < k then g j else i.zero.map .v)) hrow (w' := w) (Nat.le_refl _) rfl rfl rfl (fun _ _ _ => rfl) (fun b hb => .inl hb) (fun hext => by
      refine ⟨us, hown, fun j hj => by show (if j < k then g j else i.zero.map .v).length = _; rw [if_pos hj]; exact hlen j hj, h1, fun j hj l A hA => ?_⟩
      replace hA : (if j < k then g j else i.zero.map .v)[l]? = some A := hA
      rw [if_pos hj] at hA
      obtain ⟨u, hu, hrep⟩ := hr j hj l A hA
      exact ⟨u, hu, hrep.ext hext⟩)
    simp only [Oper.wp]
    rw [hgive, Oper.upon_value, hd]
    exact hK () _ _ (hR.step_none k1 k2 k3 k4.ext) k4 ⟨.tuple #[], by rw [hd]⟩

theorem L.sliceHead {t e : TypeId} {i : TI} {x hi : Operand} {id d : Nat} {x0 x0' : Value} {E sz n : Nat} {g : Nat → List AV} {z : Int} {k : IntKind} {p q : Prop} (hT : TOk P T) (ho : o.op = .slice t x none (some hi) none) (hg : o.guard = none) (hd : o.dst = some d) (hdN : Nat.blt d c.N = true)
    (ht : tdOf T t = some (.slice e)) (he : T.lookup e = some i) (hs : evalS σ x = some (.ref id x0, p)) (hrow : F.lookup id = some (.own x0' E sz n g)) (hx : evalS σ hi = some (.v (.int k z), q)) (hC : x0 = x0' ∧ p ∧ q ∧ 0 ≤ z ∧ z ≤ n)
    (next : L P ops c rest ((d, .ref id (firstW x0 z.toNat)) :: σ) (setF id id (.own (firstW x0 z.toNat) E sz z.toNat g) F) Q) : L P ops c (o :: rest) σ F Q := L.of (O.sliceHead hT ho hg hd hdN ht he hs hrow hx hC) fun _ => next
theorem L.clearTail {t e : TypeId} {i : TI} {x lo y : Operand} {o' : Oper} {id d : Nat} {x0 : Value} {sz n : Nat} {g : Nat → List AV} {z : Int} {k : IntKind} {p q p' : Prop} (hT : TOk P T) (ho : o.op = .slice t x (some lo) none none) (hg : o.guard = none) (hd : o.dst = some d) (hdN : Nat.blt d c.N = true)
    (ht : tdOf T t = some (.slice e)) (he : T.lookup e = some i) (hs : evalS σ x = some (.ref id x0, p)) (hrow : F.lookup id = some (.own x0 e sz n g)) (hx : evalS σ lo = some (.v (.int k z), q)) (hC : p ∧ q ∧ 0 ≤ z ∧ z ≤ n)
    (ho' : o'.op = .call { callee := .builtin .clear, args := #[y], argTypes := #[t] }) (hg' : o'.guard = none) (hd' : o'.dst = none) (hs' : evalS ((d, .v (restW i.size x0 z.toNat)) :: σ) y = some (.v (restW i.size x0 z.toNat), p')) (hC' : p' ∧ sz = i.size)
    (next : L P ops c rest ((d, .v (restW i.size x0 z.toNat)) :: σ) (setF id id (.own x0 e sz n (fun j => if j < z.toNat then g j else i.zero.map .v)) F) Q) : L P ops c (o :: o' :: rest) σ F Q :=
  L.of (O.sliceTail hT ho hg hd hdN ht he hs hrow hx ⟨rfl, hC⟩) fun _ => L.of (O.clearTail hT ho' hg' hd' ht he hs' hrow ⟨hC'.1, hC'.2, by omega⟩) fun _ => next
end

end Go.Proofs.YtlgdjmmjconbfaaDoor

/- More words: rows in another order, looking at one's own. -/
namespace Go.Proofs.YtlgdjmmjconbfaaDoor
set_option linter.unusedVariables false
set_option linter.unusedSimpArgs false
set_option maxHeartbeats 8000000
open Go.RowKit
set_option maxRecDepth 4000

def intC (z : Int) : List AV := [.v (.int .i64 z)]
theorem getD_get {α : Type} [Inhabited α] {l : List α} {i : Nat} (h : i < l.length) : l.getD i default = l[i] := by
  rw [List.getD_eq_getElem?_getD, List.getElem?_eq_getElem h]; rfl
theorem app1_h {α : Type} [Inhabited α] (f : α → List AV) (l : List α) (x : α) {n : Nat} (h : Nat → List AV) (hn : n = l.length) (hx : h 0 = f x) {i : Nat} (hi : i < n + 1) : joinG n (gOf f l) h i = gOf f (l ++ [x]) i := by
  subst hn
  simp only [joinG, gOf, List.getD_eq_getElem?_getD, List.getElem?_append]
  split
  · rfl
  · have e : i - l.length = 0 := by omega
    rw [e, hx]; rfl

/-- Rows in another order, some of them dropped. -/
theorem rowsTo {c : Ctx} {σ : Slots} {F : Rows} {K : Act → World → Prop} (G : Rows) (h : Sub F G) (next : ∀ a w, R c σ G a w → K a w) : ∀ a w, R c σ F a w → K a w := fun a w hR => by
  obtain ⟨H, hH⟩ := h.perm
  have hR := hR.perm hH
  have hs : G.Sublist (G ++ H) := List.sublist_append_left _ _
  exact next a w ⟨hR.len, hR.defers, hR.hoff, hR.kept, fun s hs' b hb => hR.fresh s (hs.subset hs') b hb, hR.sat.tail hs, fun k A hk => (hR.slots k A hk).ext (Ext.less (fun b hb => Own.tail (fun s hs' => hs.subset hs') hb) w)⟩

/-- What only computes may look at one's own. -/
theorem borrow0 {P : Program} {f : FuncId} {id : Nat} {x : Value} {E sz n : Nat} {g : Nat → List AV} {t : List AV} {r : Value} (h : PFn P f (.lst sz n g :: t) (.v r)) :
    FnC P f (.ref id x :: t) [(id, .own x E sz n g)] (fun r' F' => r' = .v r ∧ F' = [(id, .own x E sz n g)]) := by
  intro off w vs hoff hS hl hr
  have hz : Ext (Own off [(id, Row.own x E sz n g)]) (Own off []) w w := Ext.less (fun b hb => by rcases hb with h | ⟨r, hr, -⟩; exact .inl h; cases hr) w
  have hf : Rep (Own off []) w (.lst sz n g) x := by
    have := freeze_rep hS (id := id) (x := x) (E := E) (sz := sz) (n := n) (g := g) (by simp [List.lookup])
    have e : delF id [(id, Row.own x E sz n g)] = [] := by simp [delF]
    rwa [e] at this
  refine (h off w vs hoff (Sat.nil off w) (by simpa using hl) fun j A u hA hu => ?_).mono fun e w' hp => ?_
  · cases j with
    | zero =>
      simp only [List.getElem?_cons_zero, Option.some.injEq] at hA
      subst hA
      have := hr 0 _ u rfl hu
      cases this
      exact hf
    | succ j => exact (hr (j + 1) A u (by simpa using hA) hu).ext hz
  · obtain ⟨v, r', F', ⟨rfl, rfl⟩, rfl, hv, -, hk, -⟩ := hp
    cases hv
    have hb : ∀ b, b < w.heap.size → w'.heap[b]? = w.heap[b]? := fun b hb => hk.block b hb (by rintro ⟨s, hs, -⟩; cases hs)
    refine ⟨_, _, _, ⟨rfl, rfl⟩, rfl, .v _, hS.still hk.size hb, hk.mono fun k _ hk' => ?_, fun s hs b hsb => .inl ⟨s, hs, hsb⟩⟩
    obtain ⟨s, hs, -⟩ := hk'
    cases hs

end Go.Proofs.YtlgdjmmjconbfaaDoor

/- Looking at one's own: what makes a new list of plain data may borrow a row. -/
namespace Go.Proofs.YtlgdjmmjconbfaaDoor
set_option linter.unusedVariables false
set_option linter.unusedSimpArgs false
set_option maxHeartbeats 8000000
open Go.RowKit
set_option maxRecDepth 4000

def PlainG (n : Nat) (g : Nat → List AV) : Prop := ∀ i, i < n → ∀ A ∈ g i, ∃ v, A = .v v
theorem sat_plain {own own' : Nat → Prop} {w : World} {y : Value} {E sz n : Nat} {g : Nat → List AV} (hp : PlainG n g) (h : Row.sat own w (.own y E sz n g)) : Row.sat own' w (.own y E sz n g) := by
  obtain ⟨us, h1, h2, h3, h4⟩ := h
  refine ⟨us, h1, h2, h3, fun i hi j A hA => ?_⟩
  obtain ⟨u, hu, hr⟩ := h4 i hi j A hA
  obtain ⟨v, rfl⟩ := hp i hi A (List.mem_of_getElem? hA)
  cases hr
  exact ⟨_, hu, .v _⟩

theorem borrow1 {P : Program} {f : FuncId} {id id2 : Nat} {x : Value} {E sz n E2 sz2 n2 : Nat} {g g2 : Nat → List AV} {t : List AV} (hp : PlainG n2 g2)
    (h : FnC P f (.lst sz n g :: t) [] (fun r F' => ∃ y, r = .ref id2 y ∧ F' = [(id2, .own y E2 sz2 n2 g2)])) :
    FnC P f (.ref id x :: t) [(id, .own x E sz n g)] (fun r F' => ∃ y, r = .ref id2 y ∧ F' = [(id2, .own y E2 sz2 n2 g2), (id, .own x E sz n g)]) := by
  intro off w vs hoff hS hl hr
  have hz : Ext (Own off [(id, Row.own x E sz n g)]) (Own off []) w w := Ext.less (fun b hb => by rcases hb with h | ⟨r, hr, -⟩; exact .inl h; cases hr) w
  have hf : Rep (Own off []) w (.lst sz n g) x := by
    have := freeze_rep hS (id := id) (x := x) (E := E) (sz := sz) (n := n) (g := g) (by simp [List.lookup])
    have e : delF id [(id, Row.own x E sz n g)] = [] := by simp [delF]
    rwa [e] at this
  refine (h off w vs hoff (Sat.nil off w) (by simpa using hl) fun j A u hA hu => ?_).mono fun e w' hp' => ?_
  · cases j with
    | zero =>
      simp only [List.getElem?_cons_zero, Option.some.injEq] at hA
      subst hA
      have := hr 0 _ u rfl hu
      cases this
      exact hf
    | succ j => exact (hr (j + 1) A u (by simpa using hA) hu).ext hz
  · obtain ⟨v, r', F', ⟨y, rfl, rfl⟩, rfl, hv, hS', hk, hfr⟩ := hp'
    cases hv
    rename_i h1
    have hb : ∀ b, b < w.heap.size → w'.heap[b]? = w.heap[b]? := fun b hb => hk.block b hb (by rintro ⟨s, hs, -⟩; cases hs)
    have hfresh : ∀ b, Row.block (.own v E2 sz2 n2 g2) = some b → w.heap.size ≤ b := fun b hb => by
      rcases hfr _ (List.mem_singleton.2 rfl) b hb with h | h
      · obtain ⟨s, hs, -⟩ := h; cases hs
      · exact h
    have hext : Ext (Own off [(id, Row.own x E sz n g)]) (Own off [(id2, Row.own v E2 sz2 n2 g2), (id, Row.own x E sz n g)]) w w' := ⟨hk.size, fun b hlt _ => hb b hlt, fun b hlt hn ho => by
      rcases ho with ho | ⟨s, hs, hsb⟩
      · exact hn (.inl ho)
      · rcases List.mem_cons.1 hs with rfl | hs
        · have := hfresh b hsb; omega
        · exact hn (.inr ⟨s, hs, hsb⟩)⟩
    refine ⟨_, _, _, ⟨v, rfl, rfl⟩, rfl, .ref id2 _ h1, ⟨fun s hs => ?_, ?_, fun s hs b hsb => ?_⟩, hk.mono fun k _ hk' => ?_, fun s hs b hsb => ?_⟩
    · rcases List.mem_cons.1 hs with rfl | hs
      · exact sat_plain hp (hS'.rows _ (List.mem_singleton.2 rfl))
      · rw [List.mem_singleton] at hs
        subst hs
        exact (hS.rows _ (List.mem_singleton.2 rfl)).ext hext fun b hb' => hb b (hS.lt (List.mem_singleton.2 rfl) hb')
    · refine List.pairwise_cons.2 ⟨fun s hs b hb1 hb2 => ?_, List.pairwise_singleton _ _⟩
      rw [List.mem_singleton] at hs
      subst hs
      have := hfresh b hb1
      have := hS.lt (List.mem_singleton.2 rfl) hb2
      omega
    · rcases List.mem_cons.1 hs with rfl | hs
      · exact hS'.off _ (List.mem_singleton.2 rfl) b hsb
      · exact hS.off s hs b hsb
    · obtain ⟨s, hs, -⟩ := hk'
      cases hs
    · rcases List.mem_cons.1 hs with rfl | hs
      · exact .inr (hfresh b hsb)
      · exact .inl ⟨s, hs, hsb⟩
theorem set_g {α : Type} [Inhabited α] (c : α → List AV) {l : List α} {i : Nat} {x : α} {o : Nat} {ds : List AV} (hi : i < l.length) (h : splice (c (l.getD i default)) o ds = c x) {j : Nat} (hj : j < l.length) : (if j = i then splice (gOf c l i) o ds else gOf c l j) = gOf c (l.set i x) j := by
  by_cases hji : j = i
  · subst hji
    rw [if_pos rfl, gOf, h, gOf, List.getD_eq_getElem?_getD, List.getElem?_set_self hi]
    rfl
  · rw [if_neg hji, gOf, gOf, List.getD_eq_getElem?_getD, List.getD_eq_getElem?_getD, List.getElem?_set_ne (fun e => hji e.symm)]
theorem set_g2 {α : Type} [Inhabited α] (c : α → List AV) {l : List α} {i : Nat} {x : α} {o o2 : Nat} {ds ds2 : List AV} (hi : i < l.length) (h : splice (splice (c (l.getD i default)) o ds) o2 ds2 = c x) {j : Nat} (hj : j < l.length) : (if j = i then splice (if i = i then splice (gOf c l i) o ds else gOf c l i) o2 ds2 else if j = i then splice (gOf c l i) o ds else gOf c l j) = gOf c (l.set i x) j := by
  by_cases hji : j = i
  · subst hji
    rw [if_pos rfl, if_pos rfl, gOf, h, gOf, List.getD_eq_getElem?_getD, List.getElem?_set_self hi]
    rfl
  · rw [if_neg hji, if_neg hji, gOf, gOf, List.getD_eq_getElem?_getD, List.getD_eq_getElem?_getD, List.getElem?_set_ne (fun e => hji e.symm)]
theorem set_g3 {α : Type} [Inhabited α] (c : α → List AV) {l : List α} {i : Nat} {x : α} {o o2 o3 : Nat} {ds ds2 ds3 : List AV} (hi : i < l.length) (h : splice (splice (splice (c (l.getD i default)) o ds) o2 ds2) o3 ds3 = c x) {j : Nat} (hj : j < l.length) :
    (if j = i then splice (if i = i then splice (if i = i then splice (gOf c l i) o ds else gOf c l i) o2 ds2 else if i = i then splice (gOf c l i) o ds else gOf c l i) o3 ds3 else if j = i then splice (if i = i then splice (gOf c l i) o ds else gOf c l i) o2 ds2 else if j = i then splice (gOf c l i) o ds else gOf c l j) = gOf c (l.set i x) j := by
  by_cases hji : j = i
  · subst hji
    rw [if_pos rfl, if_pos rfl, if_pos rfl, gOf, h, gOf, List.getD_eq_getElem?_getD, List.getElem?_set_self hi]
    rfl
  · rw [if_neg hji, if_neg hji, if_neg hji, gOf, gOf, List.getD_eq_getElem?_getD, List.getD_eq_getElem?_getD, List.getElem?_set_ne (fun e => hji e.symm)]
end Go.Proofs.YtlgdjmmjconbfaaDoor

/- More words for maps: a place of a map, what is stored there, a key that goes. -/
namespace Go.Proofs.YtlgdjmmjconbfaaDoor
set_option linter.unusedVariables false
set_option linter.unusedSimpArgs false
set_option maxHeartbeats 8000000
open Go.RowKit
open Go.Maps (Keyed)
set_option maxRecDepth 4000

theorem same_born : ∀ (l : List MapEntry), l.Pairwise (fun x y => x.born ≠ y.born) → ∀ x ∈ l, ∀ y ∈ l, x.born = y.born → x = y
  | [], _, x, hx, _, _, _ => by cases hx
  | a :: t, hp, x, hx, y, hy, hxy => by
    rw [List.pairwise_cons] at hp
    rcases List.mem_cons.1 hx with h | h
    · rcases List.mem_cons.1 hy with h' | h'
      · rw [h, h']
      · subst h; exact absurd hxy (hp.1 y h')
    · rcases List.mem_cons.1 hy with h' | h'
      · subst h'; exact absurd hxy.symm (hp.1 x h)
      · exact same_born t hp.2 x h y h' hxy

theorem keyed_set {l : List MapEntry} (h4 : l.Pairwise fun x y => x.key ≠ y.key) {j : Nat} {e2 e3 : MapEntry} (f2 : l[j]? = some e2) (hk : e3.key = e2.key) :
    ((l.set j e3).Pairwise fun x y => x.key ≠ y.key) ∧ (∀ e ∈ l.set j e3, (e ∈ l ∧ e.key ≠ e2.key) ∨ e = e3) ∧ ∀ key, (∀ e ∈ l.set j e3, e.key ≠ key) → key ≠ e2.key ∧ ∀ e ∈ l, e.key ≠ key := by
  have hjl := (List.getElem?_eq_some_iff.1 f2).1
  have hm : (l.set j e3).map (·.key) = l.map (·.key) := by
    apply List.ext_getElem?
    intro i
    simp only [List.getElem?_map, List.getElem?_set]
    by_cases hi : j = i
    · subst hi
      rw [if_pos rfl, if_pos hjl, f2]
      simp [hk]
    · rw [if_neg hi]
  refine ⟨?_, fun e he => ?_, fun key hne => ?_⟩
  · have h1 : (l.map (·.key)).Pairwise (· ≠ ·) := List.pairwise_map.2 h4
    rw [← hm] at h1
    exact List.pairwise_map.1 h1
  · obtain ⟨i, hi⟩ := List.getElem?_of_mem he
    rw [List.getElem?_set] at hi
    by_cases hji : j = i
    · rw [if_pos hji, if_pos (by omega)] at hi
      cases hi
      exact .inr rfl
    · rw [if_neg hji] at hi
      refine .inl ⟨List.mem_of_getElem? hi, fun hek => ?_⟩
      have := List.pairwise_iff_getElem.1 h4
      obtain ⟨hil, he1⟩ := List.getElem?_eq_some_iff.1 hi
      have he2 := (List.getElem?_eq_some_iff.1 f2).2
      rcases Nat.lt_or_gt_of_ne hji with hlt | hgt
      · exact this j i hjl hil hlt (by rw [he1, he2, hek])
      · exact this i j hil hjl hgt (by rw [he1, he2, hek])
  · have hn : key ∉ (l.set j e3).map (·.key) := fun h => by
      obtain ⟨e, he, hke⟩ := List.mem_map.1 h
      exact hne e he hke
    rw [hm] at hn
    exact ⟨fun h => hn (List.mem_map.2 ⟨e2, List.mem_of_getElem? f2, h.symm⟩), fun e he hke => hn (List.mem_map.2 ⟨e, he, hke⟩)⟩

section
variable {P : Program} {T : Types} {c : Ctx} {σ σ1 : Slots} {F F1 : Rows} {rdf : List (Nat × List Nat)} {Q : Exit → Act → World → Prop} {ops : Array Oper} {rest : List Oper} {o : Oper} {listed : Array Bool}

/-- The place of a key in a map. -/
theorem O.mapEntry {t k e : TypeId} {x y : Operand} {id b d : Nat} {X z kv : Value} {B : AV} {p q : Prop} {m : List (Value × AV)} (hT : TOk P T) (K : Keyed P k) (ho : o.op = .mapEntry t x y) (hg : o.guard = none) (hd : o.dst = some d) (hdN : Nat.blt d c.N = true) (ht : tdOf T t = some (.map k e)) (hz : (P.info? e).bind (·.zero) = some z)
    (hx : evalS σ x = some (.ref id X, p)) (hy : evalS σ y = some (B, q)) (hkv : keyV B = some kv) (hrow : F.lookup id = some (.map b (kOf P k) m)) (hC : p ∧ q ∧ X = .map (some b) ∧ kOf P k kv = true) :
    O P ops c o σ F Q [id] Nat (fun s => (d, .tup [mlook m kv z, .v (.int .i64 s)]) :: σ) (fun s => setF id id (.mapE b (kOf P k) ((kv, mlook m kv z) :: m) kv s) F) := by
  intro a w hR KK hK
  refine Op1.plain hg ?_
  obtain ⟨hp, hq, hX, hkey⟩ := hC
  obtain ⟨ti, hti, htd⟩ := tdOf_some ht
  have hm := (hT.told hti).map htd
  have hxv : a.eval x = .map (some b) := by
    have h := hR.evals hx hp
    generalize a.eval x = v at h
    cases h
    exact hX
  have hyv : a.eval y = kv := keyV_rep hkv (hR.evals hy hq)
  obtain ⟨zi, hzi, hzz⟩ := Option.bind_eq_some_iff.1 hz
  obtain ⟨es, clock, hh, h1, h2, h3, h4, hst⟩ := hR.sat.at hrow
  obtain ⟨lx, hlx⟩ := Option.isSome_iff_exists.1 hkey
  have hlt := hR.sat.lt (lookup_mem hrow) (b := b) rfl
  rcases find_at K h1 hkey w with ⟨f1, f2⟩ | ⟨j', e2, f1, f2, f3⟩
  · have hnone : mlook m kv z = .v z := by rw [mlook, h3 kv f2]; rfl
    have hrun : (execOp a.eval o).run P w = .ok (.value (.tuple #[z, .int .i64 clock])) (ChangeMaps.setBlock w b (.map (es.push ⟨kv, z, clock⟩) (clock + 1))) := by
      simp [execOp, ho, hxv, hyv, Instr.mapEntry, run_underlying hm, MapKept.run_getObj_map hh, K.check w false hlx, f1, zero_at hzi hzz, MapKept.run_setObj_map _ hh, Result.andThen, ChangeMaps.setBlock, goInt]
    obtain ⟨k1, k2, k3, k4⟩ := hR.write (i' := id) (r' := .mapE b (kOf P k) ((kv, mlook m kv z) :: m) kv clock) hrow (w' := ChangeMaps.setBlock w b (.map (es.push ⟨kv, z, clock⟩) (clock + 1))) (by simp [ChangeMaps.setBlock]) rfl rfl rfl
      (fun b' hlt' hne => heap_setBlock_ne w b b' _ (fun e => hne (by rw [e]; rfl))) (fun b' hb' => .inl hb') (fun he => by
        refine ⟨es.push ⟨kv, z, clock⟩, clock + 1, heap_setBlock_at w b _ hlt, fun e hm' => ?_, fun e hm' => ?_, fun key hne => ?_, ?_, hst.push _ _, ⟨kv, z, clock⟩, by simp, rfl, rfl⟩
        · simp only [Array.toList_push, List.mem_append, List.mem_singleton] at hm'
          rcases hm' with hm' | rfl
          · exact h1 e hm'
          · exact hkey
        · simp only [Array.toList_push, List.mem_append, List.mem_singleton] at hm'
          rcases hm' with hm' | rfl
          · obtain ⟨A', hA', hr'⟩ := h2 e hm'
            exact ⟨A', by rw [mget_cons_other _ _ (Ne.symm (f2 e hm'))]; exact hA', hr'.ext he⟩
          · exact ⟨_, mget_cons_same _ _ _, by rw [hnone]; exact .v z⟩
        · simp only [Array.toList_push, List.mem_append, List.mem_singleton] at hne
          rw [mget_cons_other _ _ (fun e => hne _ (.inr rfl) e)]
          exact h3 key fun e he' => hne e (.inl he')
        · simp only [Array.toList_push]
          refine List.pairwise_append.2 ⟨h4, by simp, fun x hx y hy => ?_⟩
          rw [List.mem_singleton] at hy
          subst hy
          exact f2 x hx)
    simp only [Oper.wp]
    rw [hrun, Oper.upon_value, hd]
    exact hK clock _ _ (hR.step (of_blt hdN) k1 k2 k3 k4.ext (.tup (us := [z, .int .i64 clock]) rfl fun j A u hA hu => by
      match j with
      | 0 => simp at hA hu; subst hA; subst hu; rw [hnone]; exact .v z
      | 1 => simp at hA hu; subst hA; subst hu; exact .v _
      | j + 2 => simp at hA)) k4 ⟨_, by rw [hd]⟩
  · have hget : es[j']? = some e2 := by simpa using f2
    have hsame : (es.modify j' fun e => { e with key := kv }) = es := by
      apply Array.ext'
      apply List.ext_getElem?
      intro i
      simp only [Array.toList_modify, List.getElem?_modify]
      by_cases hi : j' = i
      · subst hi
        rw [f2]
        simp [← f3]
      · simp [hi]
    have hmem2 := List.mem_of_getElem? f2
    obtain ⟨A2, hA2, hr2⟩ := h2 e2 hmem2
    rw [f3] at hA2
    have hr3 : Rep (Own c.off F) w (mlook m kv z) e2.val := by
      have hsome : mlook m kv z = A2 := by rw [mlook, hA2]; rfl
      rw [hsome]
      exact hr2
    have hrun : (execOp a.eval o).run P w = .ok (.value (.tuple #[e2.val, .int .i64 e2.born])) (ChangeMaps.setBlock w b (.map es clock)) := by
      simp [execOp, ho, hxv, hyv, Instr.mapEntry, run_underlying hm, MapKept.run_getObj_map hh, K.check w false hlx, f1, hget, f3, K.stays w hlx, MapKept.run_setObj_map _ hh, Result.andThen, ChangeMaps.setBlock, goInt, hsame]
    obtain ⟨k1, k2, k3, k4⟩ := hR.write (i' := id) (r' := .mapE b (kOf P k) ((kv, mlook m kv z) :: m) kv e2.born) hrow (w' := ChangeMaps.setBlock w b (.map es clock)) (by simp [ChangeMaps.setBlock]) rfl rfl rfl
      (fun b' hlt' hne => heap_setBlock_ne w b b' _ (fun e => hne (by rw [e]; rfl))) (fun b' hb' => .inl hb') (fun he => by
        refine ⟨es, clock, heap_setBlock_at w b _ hlt, h1, fun e hm' => ?_, fun key hne => ?_, h4, hst, e2, hmem2, f3, rfl⟩
        · obtain ⟨A', hA', hr'⟩ := h2 e hm'
          by_cases hek : e.key = kv
          · rw [hek] at hA'
            exact ⟨A', by rw [hek, mget_cons_same, mlook, hA']; rfl, hr'.ext he⟩
          · exact ⟨A', by rw [mget_cons_other _ _ (Ne.symm hek)]; exact hA', hr'.ext he⟩
        · rw [mget_cons_other _ _ (fun e => hne e2 hmem2 (f3.trans e))]
          exact h3 key hne)
    simp only [Oper.wp]
    rw [hrun, Oper.upon_value, hd]
    exact hK e2.born _ _ (hR.step (of_blt hdN) k1 k2 k3 k4.ext (.tup (us := [e2.val, .int .i64 e2.born]) rfl fun j A u hA hu => by
      match j with
      | 0 => simp at hA hu; subst hA; subst hu; exact hr3.ext k4.ext
      | 1 => simp at hA hu; subst hA; subst hu; exact .v _
      | j + 2 => simp at hA)) k4 ⟨_, by rw [hd]⟩

/-- What is stored at a place of a map. -/
theorem O.entryStore {t : TypeId} {x y z : Operand} {id b s : Nat} {s' : Int} {X kv : Value} {A : AV} {p q r : Prop} {Kf : Value → Bool} {m : List (Value × AV)} (ho : o.op = .entryStore t x y z) (hg : o.guard = none) (hd : o.dst = none)
    (hx : evalS σ x = some (.ref id X, p)) (hy : evalS σ y = some (.v (.int .i64 s'), q)) (hz : evalS σ z = some (A, r)) (hrow : F.lookup id = some (.mapE b Kf m kv s)) (hC : p ∧ q ∧ r ∧ X = .map (some b) ∧ s' = s) :
    O P ops c o σ F Q [id] Unit (fun _ => σ) (fun _ => setF id id (.map b Kf ((kv, A) :: m)) F) := by
  intro a w hR KK hK
  refine Op1.plain hg ?_
  obtain ⟨hp, hq, hr, hX, hs⟩ := hC
  have hxv : a.eval x = .map (some b) := by
    have h := hR.evals hx hp
    generalize a.eval x = v at h
    cases h
    exact hX
  have hyv : a.eval y = .int .i64 s := by
    have h := hR.evals hy hq
    generalize a.eval y = v at h
    cases h
    rw [hs]
  have hzr := hR.evals hz hr
  obtain ⟨es, clock, hh, h1, h2, h3, h4, hst, e0, he0, hek, heb⟩ := hR.sat.at hrow
  have hlt := hR.sat.lt (lookup_mem hrow) (b := b) rfl
  obtain ⟨i, hi, hie⟩ : ∃ i, es.findIdx? (fun e => (e.born : Int) == (s : Int)) = some i ∧ es.toList[i]? = some e0 := by
    cases hf : es.findIdx? (fun e => (e.born : Int) == (s : Int)) with
    | none =>
      rw [Array.findIdx?_eq_none_iff] at hf
      have := hf e0 (Array.mem_toList_iff.1 he0)
      simp [heb] at this
    | some i =>
      obtain ⟨hil, hpi, -⟩ := Array.findIdx?_eq_some_iff_getElem.1 hf
      refine ⟨i, rfl, ?_⟩
      have hb : es[i].born = s := by simp at hpi; omega
      have : es[i] = e0 := same_born _ hst.2 es[i] (by simp) e0 he0 (by rw [hb, heb])
      rw [← this]
      simp [hil]
  have hil : i < es.toList.length := (List.getElem?_eq_some_iff.1 hie).1
  have hlist : (es.modify i fun e => { e with val := a.eval z }).toList = es.toList.set i { e0 with val := a.eval z } := by
    apply List.ext_getElem?
    intro j
    simp only [Array.toList_modify, List.getElem?_modify, List.getElem?_set]
    by_cases hj : i = j
    · subst hj
      rw [hie]
      simp [hil]
      simpa using hil
    · simp [hj]
  obtain ⟨q1, q2, q3⟩ := keyed_set h4 hie (e3 := { e0 with val := a.eval z }) rfl
  have hrun : (execOp a.eval o).run P w = .ok .skip (ChangeMaps.setBlock w b (.map (es.modify i fun e => { e with val := a.eval z }) clock)) := by
    simp [execOp, ho, hxv, hyv, Instr.entryStore, MapKept.run_getObj_map hh, asInt, asIntOf, hi, MapKept.run_setObj_map _ hh, Result.andThen, ChangeMaps.setBlock]
  obtain ⟨k1, k2, k3, k4⟩ := hR.write (i' := id) (r' := .map b Kf ((kv, A) :: m)) hrow (w' := ChangeMaps.setBlock w b (.map (es.modify i fun e => { e with val := a.eval z }) clock)) (by simp [ChangeMaps.setBlock]) rfl rfl rfl
    (fun b' hlt' hne => heap_setBlock_ne w b b' _ (fun e => hne (by rw [e]; rfl))) (fun b' hb' => .inl hb') (fun he => by
      refine ⟨_, clock, heap_setBlock_at w b _ hlt, fun e hm' => ?_, fun e hm' => ?_, fun key hne => ?_, by rw [hlist]; exact q1, hst.mods (e3 := ⟨e0.key, a.eval z, 0⟩) hie (by rw [hlist])⟩
      · rw [hlist] at hm'
        rcases q2 e hm' with ⟨g1, -⟩ | rfl
        · exact h1 e g1
        · exact h1 e0 he0
      · rw [hlist] at hm'
        rcases q2 e hm' with ⟨g1, g2⟩ | rfl
        · obtain ⟨A', hA', hr'⟩ := h2 e g1
          exact ⟨A', by rw [mget_cons_other _ _ (fun e' => g2 (by rw [hek, ← e']))]; exact hA', hr'.ext he⟩
        · exact ⟨A, by rw [show ({ e0 with val := a.eval z } : MapEntry).key = kv from hek, mget_cons_same], hzr.ext he⟩
      · rw [hlist] at hne
        obtain ⟨g1, g2⟩ := q3 key hne
        rw [mget_cons_other _ _ (fun e' => g1 (by rw [hek, ← e']))]
        exact h3 key g2)
  simp only [Oper.wp]
  rw [hrun, Oper.upon_skip, hd]
  exact hK () _ _ (hR.step_none k1 k2 k3 k4.ext) k4 ⟨undef, by rw [hd]⟩

/-- 'delete(m, k)'. -/
theorem O.mapDel {t k e : TypeId} {x y : Operand} {id b : Nat} {X kv : Value} {B : AV} {p q : Prop} {m : List (Value × AV)} (hT : TOk P T) (K : Keyed P k) (ho : o.op = .call { callee := .builtin .delete, args := #[x, y], argTypes := #[t, k] }) (hg : o.guard = none) (hd : o.dst = none) (ht : tdOf T t = some (.map k e))
    (hx : evalS σ x = some (.ref id X, p)) (hy : evalS σ y = some (B, q)) (hkv : keyV B = some kv) (hrow : F.lookup id = some (.map b (kOf P k) m)) (hC : p ∧ q ∧ X = .map (some b) ∧ kOf P k kv = true) :
    O P ops c o σ F Q [id] Unit (fun _ => σ) (fun _ => setF id id (.map b (kOf P k) (mdel m kv)) F) := by
  intro a w hR KK hK
  refine Op1.plain hg ?_
  obtain ⟨hp, hq, hX, hkey⟩ := hC
  obtain ⟨ti, hti, htd⟩ := tdOf_some ht
  have hm := (hT.told hti).map htd
  have hxv : a.eval x = .map (some b) := by
    have h := hR.evals hx hp
    generalize a.eval x = v at h
    cases h
    exact hX
  have hyv : a.eval y = kv := keyV_rep hkv (hR.evals hy hq)
  obtain ⟨es, clock, hh, h1, h2, h3, h4, hst⟩ := hR.sat.at hrow
  obtain ⟨lx, hlx⟩ := Option.isSome_iff_exists.1 hkey
  have hlt := hR.sat.lt (lookup_mem hrow) (b := b) rfl
  obtain ⟨es', hrun, hsub, q1, q2⟩ : ∃ es', (execOp a.eval o).run P w = .ok (.value (.tuple #[])) (ChangeMaps.setBlock w b (.map es' clock)) ∧ es'.toList.Sublist es.toList ∧ (∀ e ∈ es'.toList, e.key ≠ kv) ∧ ∀ e ∈ es.toList, e.key ≠ kv → e ∈ es'.toList := by
    rcases find_at K h1 hkey w with ⟨f1, f2⟩ | ⟨j', e2, f1, f2, f3⟩
    · refine ⟨es, ?_, List.Sublist.refl _, f2, fun e he _ => he⟩
      simp [execOp, ho, resolve, invoke, builtin, hxv, hyv, Builtin.delete_, run_underlying hm, MapKept.run_getObj_map hh, K.check w _ hlx, f1, MapKept.run_setObj_map _ hh, Result.andThen, ChangeMaps.setBlock]
    · have hjl : j' < es.toList.length := (List.getElem?_eq_some_iff.1 f2).1
      have hl : (es.eraseIdxIfInBounds j').toList = es.toList.eraseIdx j' := by
        unfold Array.eraseIdxIfInBounds
        rw [dif_pos (by simpa using hjl)]
        simp
      refine ⟨es.eraseIdxIfInBounds j', ?_, by rw [hl]; exact List.eraseIdx_sublist _ _, fun e he hek => ?_, fun e he hne => ?_⟩
      · simp [execOp, ho, resolve, invoke, builtin, hxv, hyv, Builtin.delete_, run_underlying hm, MapKept.run_getObj_map hh, K.check w _ hlx, f1, MapKept.run_setObj_map _ hh, Result.andThen, ChangeMaps.setBlock]
      · rw [hl, List.mem_eraseIdx_iff_getElem?] at he
        obtain ⟨i, hij, hi⟩ := he
        have := List.pairwise_iff_getElem.1 h4
        obtain ⟨hil, he1⟩ := List.getElem?_eq_some_iff.1 hi
        have he2 := (List.getElem?_eq_some_iff.1 f2).2
        rcases Nat.lt_or_gt_of_ne hij with hlt' | hgt
        · exact this i j' hil hjl hlt' (by rw [he1, he2, hek, f3])
        · exact this j' i hjl hil hgt (by rw [he1, he2, hek, f3])
      · rw [hl, List.mem_eraseIdx_iff_getElem?]
        obtain ⟨i, hi⟩ := List.getElem?_of_mem he
        exact ⟨i, fun e' => hne (by rw [e', f2] at hi; cases hi; exact f3), hi⟩
  obtain ⟨k1, k2, k3, k4⟩ := hR.write (i' := id) (r' := .map b (kOf P k) (mdel m kv)) hrow (w' := ChangeMaps.setBlock w b (.map es' clock)) (by simp [ChangeMaps.setBlock]) rfl rfl rfl
    (fun b' hlt' hne => heap_setBlock_ne w b b' _ (fun e => hne (by rw [e]; rfl))) (fun b' hb' => .inl hb') (fun he => by
      refine ⟨es', clock, heap_setBlock_at w b _ hlt, fun e hm' => h1 e (hsub.subset hm'), fun e hm' => ?_, fun key hne => ?_, h4.sublist hsub, fun e hm' => hst.1 e (hsub.subset hm'), hst.2.sublist hsub⟩
      · obtain ⟨A', hA', hr'⟩ := h2 e (hsub.subset hm')
        exact ⟨A', by rw [mget_del_other (Ne.symm (q1 e hm'))]; exact hA', hr'.ext he⟩
      · by_cases hk : kv = key
        · rw [← hk]; exact mget_del_same kv m
        · rw [mget_del_other hk]
          exact h3 key fun e he' hek => hne e (q2 e he' (fun e' => hk (e'.symm.trans hek))) hek)
  simp only [Oper.wp]
  rw [hrun, Oper.upon_value, hd]
  exact hK () _ _ (hR.step_none k1 k2 k3 k4.ext) k4 ⟨_, by rw [hd]⟩
end

end Go.Proofs.YtlgdjmmjconbfaaDoor

/- Rows that nobody names: families of objects behind the rows that are named. -/
namespace Go.Proofs.YtlgdjmmjconbfaaDoor
set_option linter.unusedVariables false
set_option linter.unusedSimpArgs false
set_option maxHeartbeats 8000000
open Go.RowKit
set_option maxRecDepth 4000

theorem Sub.of : ∀ (G : Rows) {F H : Rows}, F.Perm (G ++ H) → Sub F G
  | [], _, _, _ => .refl _
  | r :: t, F, H, h => .pick (by simpa using h) (Sub.of t (List.Perm.refl _))
theorem Sub.self (D : Rows) : Sub D D := Sub.of D (by rw [List.append_nil])
theorem Sub.drop {r : Nat × Row} {F G : Rows} (h : Sub F G) : Sub (r :: F) G := by
  obtain ⟨H, hH⟩ := h.perm
  exact Sub.of G (H := r :: H) ((List.Perm.cons r hH).trans List.perm_middle.symm)

/-- The same rows in another order, under other numbers. -/
theorem R.rows {c : Ctx} {σ : Slots} {F G : Rows} {a : Act} {w : World} (h : R c σ F a w) (hF : (F.map (·.2)).Perm (G.map (·.2))) : R c σ G a w := by
  have hmem : ∀ r : Row, (∃ i, (i, r) ∈ G) ↔ ∃ i, (i, r) ∈ F := fun r => by
    have h1 : r ∈ G.map (·.2) ↔ r ∈ F.map (·.2) := hF.symm.mem_iff
    simpa using h1
  have hown : ∀ b, Own c.off G b ↔ Own c.off F b := fun b => by
    unfold Own
    constructor
    · rintro (h | ⟨⟨i, r⟩, h1, h2⟩)
      · exact .inl h
      · obtain ⟨j, hj⟩ := (hmem r).1 ⟨i, h1⟩; exact .inr ⟨_, hj, h2⟩
    · rintro (h | ⟨⟨i, r⟩, h1, h2⟩)
      · exact .inl h
      · obtain ⟨j, hj⟩ := (hmem r).2 ⟨i, h1⟩; exact .inr ⟨_, hj, h2⟩
  have hless : Ext (Own c.off F) (Own c.off G) w w := Ext.less (fun b hb => (hown b).1 hb) w
  refine ⟨h.len, h.defers, h.hoff, h.kept, fun ⟨i, r⟩ hr b hb => ?_, ⟨fun ⟨i, r⟩ hr => ?_, ?_, fun ⟨i, r⟩ hr b hb => ?_⟩, fun k A hA => (h.slots k A hA).ext hless⟩
  · obtain ⟨j, hj⟩ := (hmem r).1 ⟨i, hr⟩; exact h.fresh _ hj b hb
  · obtain ⟨j, hj⟩ := (hmem r).1 ⟨i, hr⟩; exact (h.sat.rows _ hj).ext hless fun _ _ => rfl
  · have h1 : (G.map (·.2)).Pairwise fun r s : Row => ∀ b, r.block = some b → s.block ≠ some b :=
      (hF.pairwise_iff (fun {x y} hxy b h1 h2 => hxy b h2 h1)).1 (List.pairwise_map.2 h.sat.nodup)
    exact List.pairwise_map.1 h1
  · obtain ⟨j, hj⟩ := (hmem r).1 ⟨i, hr⟩; exact h.sat.off _ hj b hb
theorem rowsPm {c : Ctx} {σ : Slots} {F : Rows} {K : Act → World → Prop} (G : Rows) (h : (F.map (·.2)).Perm (G.map (·.2))) (next : ∀ a w, R c σ G a w → K a w) : ∀ a w, R c σ F a w → K a w := fun a w hR => next a w (hR.rows h)

def tl (l : List Row) : Rows := l.map fun r => (900, r)
theorem tl_snd (l : List Row) : (tl l).map (·.2) = l := by
  unfold tl
  rw [List.map_map]
  exact List.map_id' l

/-- Four families. -/
def dyn4 (A B C M : List Row) : List Row := A ++ (B ++ (C ++ M))
theorem pull {X Y Z : List Row} {r : Row} (h : Y.Perm (r :: Z)) : (X ++ Y).Perm (r :: (X ++ Z)) := (List.Perm.append_left X h).trans List.perm_middle
theorem erase_pm : ∀ {l : List Row} {k : Nat} (h : k < l.length), (l[k] :: l.eraseIdx k).Perm l
  | [], k, h => absurd h (Nat.not_lt_zero k)
  | a :: t, 0, h => List.Perm.refl _
  | a :: t, k + 1, h => (List.Perm.swap _ _ _).trans (List.Perm.cons a (erase_pm (l := t) (by simpa using h)))
theorem pull1 {l : List Row} {k : Nat} {r : Row} (h : l[k]? = some r) : l.Perm (r :: l.eraseIdx k) := by
  obtain ⟨hk, rfl⟩ := List.getElem?_eq_some_iff.1 h
  exact (erase_pm hk).symm
theorem push1 {l : List Row} {k : Nat} {r : Row} (h : k < l.length) : (r :: l.eraseIdx k).Perm (l.set k r) := by
  have h1 := erase_pm (l := l.set k r) (k := k) (by simpa using h)
  rwa [List.getElem_set_self, List.eraseIdx_set_eq] at h1
theorem last1 {l : List Row} {r : Row} : (r :: l).Perm (l ++ [r]) := (List.perm_append_singleton r l).symm
section
variable {A B C M A' B' C' M' : List Row} {r : Row}
theorem inA (h : A.Perm (r :: A')) : (dyn4 A B C M).Perm (r :: dyn4 A' B C M) := List.Perm.append_right _ h
theorem inB (h : B.Perm (r :: B')) : (dyn4 A B C M).Perm (r :: dyn4 A B' C M) := pull (List.Perm.append_right _ h)
theorem inC (h : C.Perm (r :: C')) : (dyn4 A B C M).Perm (r :: dyn4 A B C' M) := pull (pull (List.Perm.append_right _ h))
theorem inM (h : M.Perm (r :: M')) : (dyn4 A B C M).Perm (r :: dyn4 A B C M') := pull (pull (pull h))
end

/-- The same of a map is known. -/
theorem Row.sat.same {own : Nat → Prop} {w : World} {b : Nat} {K : Value → Bool} {m m' : List (Value × AV)} (h : Row.sat own w (.map b K m)) (hm : ∀ k, mget m k = mget m' k) : Row.sat own w (.map b K m') := by
  obtain ⟨es, clock, hh, h1, h2, h3, h4⟩ := h
  exact ⟨es, clock, hh, h1, fun e he => by obtain ⟨A, hA, hr⟩ := h2 e he; exact ⟨A, (hm _).symm.trans hA, hr⟩, fun key hk => (hm _).symm.trans (h3 key hk), h4⟩

/-- Rows that say less, one by one. -/
inductive Says : List Row → List Row → Prop
  | nil : Says [] []
  | cons {r s : Row} {F G : List Row} (hb : s.block = r.block) (hs : ∀ own w, Row.sat own w r → Row.sat own w s) (t : Says F G) : Says (r :: F) (s :: G)
theorem Says.refl : ∀ F : List Row, Says F F
  | [] => .nil
  | r :: t => .cons rfl (fun _ _ h => h) (Says.refl t)
theorem Says.app {A B C D : List Row} (h : Says A B) (k : Says C D) : Says (A ++ C) (B ++ D) := by
  induction h with
  | nil => exact k
  | cons hb hs _ ih => exact .cons hb hs ih
theorem Says.blocks {A B : List Row} (h : Says A B) : A.map Row.block = B.map Row.block := by
  induction h with
  | nil => rfl
  | cons hb _ _ ih => rw [List.map_cons, List.map_cons, ih, hb]
theorem Says.mem {A B : List Row} (h : Says A B) {s : Row} (hm : s ∈ B) : ∃ r ∈ A, s.block = r.block ∧ ∀ own w, Row.sat own w r → Row.sat own w s := by
  induction h with
  | nil => cases hm
  | cons hb hs _ ih =>
    rcases List.mem_cons.1 hm with rfl | hm
    · exact ⟨_, List.mem_cons_self, hb, hs⟩
    · obtain ⟨r, h1, h2⟩ := ih hm
      exact ⟨r, List.mem_cons_of_mem _ h1, h2⟩
theorem R.says {c : Ctx} {σ : Slots} {F G : Rows} {a : Act} {w : World} (h : R c σ F a w) (hF : Says (F.map (·.2)) (G.map (·.2))) : R c σ G a w := by
  have hbl := hF.blocks
  have own0 : ∀ (X : Rows) b, Own c.off X b ↔ c.off b ∨ some b ∈ (X.map (·.2)).map Row.block := fun X b => by
    unfold Own
    simp only [List.map_map, List.mem_map, Function.comp]
  have hown : ∀ b, Own c.off G b ↔ Own c.off F b := fun b => by rw [own0, own0, hbl]
  have hless : Ext (Own c.off F) (Own c.off G) w w := Ext.less (fun b hb => (hown b).1 hb) w
  have hmem : ∀ i r, (i, r) ∈ G → ∃ j s, (j, s) ∈ F ∧ r.block = s.block ∧ ∀ own w, Row.sat own w s → Row.sat own w r := fun i r hr => by
    obtain ⟨s, h1, h2, h3⟩ := hF.mem (s := r) (List.mem_map.2 ⟨(i, r), hr, rfl⟩)
    obtain ⟨⟨j, s'⟩, h4, rfl⟩ := List.mem_map.1 h1
    exact ⟨j, s', h4, h2, h3⟩
  refine ⟨h.len, h.defers, h.hoff, h.kept, fun ⟨i, r⟩ hr b hb => ?_, ⟨fun ⟨i, r⟩ hr => ?_, ?_, fun ⟨i, r⟩ hr b hb => ?_⟩, fun k A hA => (h.slots k A hA).ext hless⟩
  · obtain ⟨j, s, h1, h2, -⟩ := hmem i r hr; exact h.fresh _ h1 b (by rw [← h2]; exact hb)
  · obtain ⟨j, s, h1, h2, h3⟩ := hmem i r hr; exact h3 _ _ ((h.sat.rows _ h1).ext hless fun _ _ => rfl)
  · have h1 : ((F.map (·.2)).map Row.block).Pairwise fun x y => ∀ b, x = some b → y ≠ some b := List.pairwise_map.2 (List.pairwise_map.2 h.sat.nodup)
    rw [hbl] at h1
    exact List.pairwise_map.1 (List.pairwise_map.1 h1)
  · obtain ⟨j, s, h1, h2, -⟩ := hmem i r hr; exact h.sat.off _ h1 b (by rw [← h2]; exact hb)
theorem rowsSay {c : Ctx} {σ : Slots} {F : Rows} {K : Act → World → Prop} (G : Rows) (h : Says (F.map (·.2)) (G.map (·.2))) (next : ∀ a w, R c σ G a w → K a w) : ∀ a w, R c σ F a w → K a w := fun a w hR => next a w (hR.says h)

/-- A row that says less. -/
theorem rowSay {c : Ctx} {σ : Slots} {F : Rows} {K : Act → World → Prop} (id : Nat) {r : Row} (r' : Row) (hrow : F.lookup id = some r) (hb : r'.block = r.block) (hs : ∀ own w, Row.sat own w r → Row.sat own w r') (next : ∀ a w, R c σ (setF id id r' F) a w → K a w) : ∀ a w, R c σ F a w → K a w := fun a w hR => by
  refine next a w ?_
  obtain ⟨L1, L2, h1, h2⟩ := setF_split hrow
  rw [h2]
  have hsat := hR.sat
  rw [h1] at hsat
  obtain ⟨g1, g2⟩ := hsat.turn (i' := id) (r' := r') (w' := w) hR.off (Nat.le_refl _) (fun _ _ _ => rfl) (fun b h => .inl (by rw [← hb]; exact h)) fun he => hs _ _ ((hsat.rows (id, r) (by simp)).ext he fun _ _ => rfl)
  refine ⟨hR.len, hR.defers, hR.hoff, hR.kept, fun s hs b hbk => ?_, g1, fun k A hA => (hR.slots k A hA).ext (by rw [h1]; exact g2)⟩
  rcases List.mem_append.1 hs with h3 | h3
  · exact hR.fresh s (by rw [h1]; simp [h3]) b hbk
  · rcases List.mem_cons.1 h3 with rfl | h3
    · exact hR.fresh (id, r) (by rw [h1]; simp) b (by rw [← hb]; exact hbk)
    · exact hR.fresh s (by rw [h1]; simp [h3]) b hbk
theorem mapSay {c : Ctx} {σ : Slots} {F : Rows} {K : Act → World → Prop} (id : Nat) {b : Nat} {Kf : Value → Bool} {m : List (Value × AV)} (m' : List (Value × AV)) (hrow : F.lookup id = some (.map b Kf m)) (hm : ∀ k, mget m k = mget m' k) (next : ∀ a w, R c σ (setF id id (.map b Kf m') F) a w → K a w) : ∀ a w, R c σ F a w → K a w :=
  rowSay id (.map b Kf m') hrow rfl (fun _ _ h => h.same hm) next
/-- The elements of a row, told otherwise. -/
theorem ownSay {own : Nat → Prop} {w : World} {x : Value} {E sz n n' : Nat} {g g' : Nat → List AV} (hn : n = n') (hg : ∀ i, i < n → Imps (g i) (g' i)) (h : Row.sat own w (.own x E sz n g)) : Row.sat own w (.own x E sz n' g') := by
  subst hn
  obtain ⟨us, ho, hl, h1, hr⟩ := h
  refine ⟨us, ho, fun i hi => by rw [← ((hg i hi).get).1]; exact hl i hi, h1, fun i hi j A hA => ?_⟩
  have hlt := (List.getElem?_eq_some_iff.1 hA).1
  obtain ⟨h2, h3⟩ := (hg i hi).get
  obtain ⟨B, hB, hi'⟩ := h3 j A hA
  obtain ⟨u, hu, hrep⟩ := hr i hi j B hB
  exact ⟨u, hu, hi' _ _ _ hrep⟩

/-- What is known of a slot, by the rows. -/
theorem slotW {c : Ctx} {σ : Slots} {F : Rows} {K : Act → World → Prop} (d : Nat) {A : AV} (B : AV) (hd : σ.lookup d = some A) (hi : ∀ w, Sat c.off F w → ∀ x, Rep (Own c.off F) w A x → Rep (Own c.off F) w B x) (next : ∀ a w, R c ((d, B) :: σ) F a w → K a w) : ∀ a w, R c σ F a w → K a w := fun a w hR => by
  refine next a w ⟨hR.len, hR.defers, hR.hoff, hR.kept, hR.fresh, hR.sat, fun k C hC => ?_⟩
  rw [lookup_cons] at hC
  split at hC
  · rename_i e; subst e; cases hC; exact hi w hR.sat _ (hR.slots k A hd)
  · exact hR.slots k C hC
theorem ownRef {off : Nat → Prop} {F : Rows} (id : Nat) {x : Value} {E sz n : Nat} {g : Nat → List AV} (h : F.lookup id = some (.own x E sz n g)) : ∀ w, Sat off F w → ∀ u, Rep (Own off F) w (.v x) u → Rep (Own off F) w (.ref id x) u := fun w hS u hu => by
  cases hu
  obtain ⟨us, ho, -⟩ := hS.at h
  obtain ⟨A, cap, rfl, -⟩ := own_form0 ho
  exact .ref id _ rfl
theorem H.tellW {P : Program} {c : Ctx} {σ σ1 : Slots} {F F1 : Rows} {rdf : List (Nat × List Nat)} {Q : Exit → Act → World → Prop} {ops : Array Oper} {fuel : Nat} {listed : Array Bool} (d : Nat) {A : AV} (B : AV) (hd : σ.lookup d = some A) (hi : ∀ w, Sat c.off F w → ∀ x, Rep (Own c.off F) w A x → Rep (Own c.off F) w B x) (next : H P ops c ((d, B) :: σ) F rdf fuel listed ((d, B) :: σ) F Q) : H P ops c σ1 F1 rdf fuel listed σ F Q := by
  refine H.rebase ?_
  intro w1 a w hI
  have hb : R c ((d, B) :: σ) F a w1 := slotW (K := R c ((d, B) :: σ) F) d B hd hi (fun _ _ h => h) a w1 hI.base
  have hn : R c ((d, B) :: σ) F a w := slotW (K := R c ((d, B) :: σ) F) d B hd hi (fun _ _ h => h) a w hI.now
  exact next w1 a w ⟨hb, hn, hI.ext, hI.closed, hI.keep, hI.st⟩

theorem sureRef {P : Program} {c : Ctx} {σ : Slots} {F : Rows} {rd : List Nat} {o : Oper} (id : Nat) {x : Value} {E sz n : Nat} {g : Nat → List AV} (h : Sure P c σ F rd o (.v x)) (hrow : F.lookup id = some (.own x E sz n g)) : Sure P c σ F rd o (.ref id x) := fun a w1 hR => by
  obtain ⟨u, h1, h2⟩ := h a w1 hR
  exact ⟨u, ownRef id hrow w1 hR.sat u h1, h2⟩

theorem Imp.ptrv (id b o : Nat) : Imp (.ptr id b o) (.v (.pointer (some ⟨b, o, none⟩))) := fun own w u h => by cases h; exact .v _
theorem Imp.vptr (id b o : Nat) : Imp (.v (.pointer (some ⟨b, o, none⟩))) (.ptr id b o) := fun own w u h => by cases h; exact .ptr id b o
theorem Imp.refv (id : Nat) (x : Value) : Imp (.ref id x) (.v x) := fun own w u h => by cases h; exact .v _

end Go.Proofs.YtlgdjmmjconbfaaDoor
