/- Texts of this proof, laid together: SymTac, SymCut, SymOld, SymRow, SymLen, SymReb, SymBlk, SymRd, SymArg. -/
import Derived.Test.YtglmdoghknpgkaaDoorMgB
import Derived.Test.YtglmdoghknpgkaaDoorSymTabM
import Derived.ChangeArms
import Derived.DataReads
/- Short words for walks. -/
namespace Go.Proofs.YtglmdoghknpgkaaDoor
set_option linter.unusedVariables false
set_option linter.unusedSimpArgs false
set_option maxHeartbeats 8000000
open Go.RowKit

theorem zA {p : Prop} : p → True := fun _ => True.intro
theorem zB {p : Prop} : p → p := fun h => h
theorem zC {p : Prop} : p → p ∧ True := fun h => And.intro h True.intro
theorem zD {p : Prop} : p → p ∧ p ∧ True := fun h => And.intro h (And.intro h True.intro)
theorem zE {p : Prop} : p → p ∧ True ∧ True := fun h => And.intro h (And.intro True.intro True.intro)
theorem zN {n m : Nat} (h : Nat.ble n m = true) : n ≤ m := Nat.le_of_ble_eq_true h
theorem zI {p q : Prop} (h : p) (g : q) : p ∧ q := ⟨h, g⟩
theorem mixed : Tryd.prog.follows .mixedOrders = true := by kernel_rfl





theorem of_dec {p : Prop} [Decidable p] (h : decide p = true) : p := of_decide_eq_true h
theorem of_dec' {p : Prop} [Decidable p] (h : decide p = false) : ¬ p := of_decide_eq_false h

def pidx (p : Nat → Bool) (n : Nat) : Int := match (List.range n).find? p with | some k => k | none => -1
theorem pidx_some {p : Nat → Bool} {n k : Nat} (hk : k < n) (hp : p k = true) (hno : ∀ j, j < k → p j = false) : pidx p n = k := by
  unfold pidx
  rw [List.find?_range_eq_some.2 ⟨hp, by simpa using hk, fun j hj => by simpa using hno j hj⟩]
theorem pidx_none {p : Nat → Bool} {n : Nat} (hno : ∀ j, j < n → p j = false) : pidx p n = -1 := by
  unfold pidx
  rw [List.find?_eq_none.2 fun j hj => by simp [hno j (by simpa using hj)]]
theorem pidx_cases (p : Nat → Bool) (n : Nat) : (pidx p n = -1 ∧ ∀ j, j < n → p j = false) ∨ ∃ k, k < n ∧ p k = true ∧ (∀ j, j < k → p j = false) ∧ pidx p n = k := by
  unfold pidx
  cases h : (List.range n).find? p with
  | none => exact .inl ⟨rfl, fun j hj => by simpa using List.find?_eq_none.1 h j (by simpa using hj)⟩
  | some k =>
    obtain ⟨h1, h2, h3⟩ := List.find?_range_eq_some.1 h
    exact .inr ⟨k, by simpa using h2, h1, fun j hj => by simpa using h3 j hj, rfl⟩

/-- A list's elements, each as its cells. -/
def gOf {α : Type} [Inhabited α] (f : α → List AV) (l : List α) (i : Nat) : List AV := f (l.getD i default)

/-- Numbers and texts that a value may have. -/
def fitI (z : Int) : Prop := -9223372036854775808 ≤ z ∧ z ≤ 9223372036854775807
def fitS (b : ByteArray) : Prop := b.size ≤ 9223372036854775807

end Go.Proofs.YtglmdoghknpgkaaDoor

/- Cuts, and rows in another order. -/
namespace Go.Proofs.YtglmdoghknpgkaaDoor
set_option linter.unusedVariables false
set_option linter.unusedSimpArgs false
set_option maxHeartbeats 8000000
open Go.RowKit

theorem R.perm {c : Ctx} {σ : Slots} {F G : Rows} {a : Act} {w : World} (h : R c σ F a w) (hp : F.Perm G) : R c σ G a w := by
  obtain ⟨g1, g2⟩ := h.sat.perm hp
  exact ⟨h.len, h.defers, h.hoff, h.kept, fun r hr => h.fresh r (hp.mem_iff.2 hr), g1, fun k A hA => (h.slots k A hA).ext (Ext.less (fun b hb => (g2 b).1 hb) w)⟩

/-- Another view of one slot. -/
theorem slotAs {c : Ctx} {σ : Slots} {F : Rows} {K : Act → World → Prop} (d : Nat) {A : AV} (B : AV) (hd : σ.lookup d = some A) (hi : Imp A B) (next : ∀ a w, R c ((d, B) :: σ) F a w → K a w) : ∀ a w, R c σ F a w → K a w := renum F d B rfl hd hi next

theorem umod (n m : Int) (hm : 0 < m) (h2 : m ≤ 4611686018427387904) : ∃ K : Nat, (K : Int) < m ∧ IntKind.i64.wrap ((IntKind.u64.wrap n).tmod m) = K := by
  have h := urem n m hm
  refine ⟨((IntKind.u64.wrap n).tmod m).toNat, by omega, ?_⟩
  rw [wrap_fits ⟨by omega, by omega⟩]
  omega

section
variable {P : Program} {c : Ctx} {σ : Slots} {F : Rows} {Q : Exit → Act → World → Prop} {x : Code}
/-- What holds behind a piece of code, told once. -/
theorem S.cut {ι : Type} (sl : ι → Slots) (ro : ι → Rows) (h : S P c x σ F (Exit.then (fun a w => ∃ i, R c (sl i) (ro i) a w) Q)) (next : ∀ i, E c .normal (sl i) (ro i) Q) : S P c x σ F Q := fun a w hR =>
  wp_mono (h a w hR) fun e a' w' h' => by
    cases e with
    | normal => obtain ⟨i, hi⟩ := h'; exact next i a' w' hi
    | _ => exact h'
end

end Go.Proofs.YtglmdoghknpgkaaDoor

/- Contracts out of laws on rows of one's own. -/
namespace Go.Proofs.YtglmdoghknpgkaaDoor
set_option linter.unusedVariables false
set_option linter.unusedSimpArgs false
set_option maxHeartbeats 8000000
open Go.RowKit

/-- The cells of one element. -/
structure Cz (sz : Nat) where
  l : List Value
  len : l.length = sz
  one : ∀ u ∈ l, u.oneCell' = true

theorem chunks {sz : Nat} : ∀ (n : Nat) (us : List Value), us.length = n * sz → (∀ u ∈ us, u.oneCell' = true) → ∃ L : List (Cz sz), L.length = n ∧ fl Cz.l L = us
  | 0, us, h, _ => ⟨[], rfl, by have : us = [] := List.eq_nil_of_length_eq_zero (by simpa using h); rw [this]; rfl⟩
  | n + 1, us, h, h1 => by
    have hl : us.length = n * sz + sz := by rw [h, Nat.add_mul, Nat.one_mul]
    obtain ⟨L, e1, e2⟩ := chunks (sz := sz) n (us.drop sz) (by rw [List.length_drop]; omega) fun u hu => h1 u (List.mem_of_mem_drop hu)
    refine ⟨⟨us.take sz, by rw [List.length_take]; omega, fun u hu => h1 u (List.mem_of_mem_take hu)⟩ :: L, by simp [e1], ?_⟩
    rw [fl_cons, e2]
    exact List.take_append_drop sz us

/-- A row of one's own, by elements. -/
theorem Row.sat.elems {own : Nat → Prop} {w : World} {x : Value} {E sz n : Nat} {g : Nat → List AV} (h : Row.sat own w (.own x E sz n g)) : ∃ L : List (Cz sz), L.length = n ∧ w.ownsRow 0 E sz x L.length (fl Cz.l L) ∧ (∀ i, i < n → (g i).length = sz) ∧
    ∀ i (hi : i < L.length) (j : Nat) A, (g i)[j]? = some A → ∃ u, L[i].l[j]? = some u ∧ Rep own w A u := by
  obtain ⟨us, ho, hlen, h1, hr⟩ := h
  obtain ⟨L, rfl, rfl⟩ := chunks n us ho.1 h1
  refine ⟨L, rfl, ho, hlen, fun i hi j A hA => ?_⟩
  obtain ⟨u, hu, hrep⟩ := hr i hi j A hA
  have hj : j < sz := by have := (List.getElem?_eq_some_iff.1 hA).1; rw [hlen i hi] at this; exact this
  rw [fl_get (fun c : Cz sz => c.len) L i hi j hj] at hu
  exact ⟨u, hu, hrep⟩
theorem Row.sat.of_elems {own : Nat → Prop} {w : World} {x : Value} {E sz : Nat} {g : Nat → List AV} {L : List (Cz sz)} (ho : w.ownsRow 0 E sz x L.length (fl Cz.l L)) (hlen : ∀ i, i < L.length → (g i).length = sz)
    (hr : ∀ i (hi : i < L.length) (j : Nat) A, (g i)[j]? = some A → ∃ u, L[i].l[j]? = some u ∧ Rep own w A u) : Row.sat own w (.own x E sz L.length g) := by
  refine ⟨fl Cz.l L, ho, hlen, fun u hu => ?_, fun i hi j A hA => ?_⟩
  · obtain ⟨c, _, hc⟩ := List.mem_flatMap.1 hu; exact c.one u hc
  · obtain ⟨u, hu, hrep⟩ := hr i hi j A hA
    have hj : j < sz := by have := (List.getElem?_eq_some_iff.1 hA).1; rw [hlen i hi] at this; exact this
    exact ⟨u, by rw [fl_get (fun c : Cz sz => c.len) L i hi j hj]; exact hu, hrep⟩

/-- What comes back where one row of one's own has turned. -/
theorem ret_row {off : Nat → Prop} {id : Nat} {r r' : Row} {w w' : World} (hS : Sat off [(id, r)] w) (hoff : ∀ b, off b → b < w.heap.size) {row : Option Nat} (hg : w.grownBy w' row) (hrow : ∀ b, row = some b → b < w.heap.size → r.block = some b)
    (hk : ∀ b, r'.block = some b → r.block = some b ∨ w.heap.size ≤ b) (hr : Ext (Own off [(id, r)]) (Own off [(id, r')]) w w' → r'.sat (Own off [(id, r')]) w') :
    Sat off [(id, r')] w' ∧ Kept (blocksOf [(id, r)]) w w' ∧ ∀ s ∈ [(id, r')], ∀ b, s.2.block = some b → blocksOf [(id, r)] b ∨ w.heap.size ≤ b := by
  obtain ⟨g1, -⟩ := Sat.turn (L1 := []) (L2 := []) (i' := id) (r' := r') hS hoff hg.size (fun b hlt hne => hg.block b hlt fun e => hne (hrow b e.symm hlt)) hk hr
  refine ⟨g1, ⟨hg.os, hg.tape, hg.output, hg.size, fun b hlt hn => hg.block b hlt fun e => hn ⟨(id, r), by simp, hrow b e.symm hlt⟩⟩, fun s hs b hb => ?_⟩
  rw [List.mem_singleton] at hs
  subst hs
  rcases hk b hb with h | h
  · exact .inl ⟨(id, r), by simp, h⟩
  · exact .inr h

end Go.Proofs.YtglmdoghknpgkaaDoor

/- From a contract to a row. -/
namespace Go.Proofs.YtglmdoghknpgkaaDoor
set_option linter.unusedVariables false
set_option linter.unusedSimpArgs false
set_option maxHeartbeats 8000000
open Go.RowKit

def Reps (own : Nat → Prop) (w : World) : List AV → List Value → Prop
  | [], [] => True
  | A :: l, v :: m => Rep own w A v ∧ Reps own w l m
  | _, _ => False
theorem Reps.get {own : Nat → Prop} {w : World} : ∀ {l : List AV} {m : List Value}, Reps own w l m → m.length = l.length ∧ ∀ (j : Nat) A u, l[j]? = some A → m[j]? = some u → Rep own w A u
  | [], [], _ => ⟨rfl, fun j A u h => by simp at h⟩
  | A :: l, v :: m, h => by
    obtain ⟨h1, h2⟩ := Reps.get h.2
    refine ⟨by simp [h1], fun j B u hB hu => ?_⟩
    cases j with
    | zero => simp at hB hu; subst hB; subst hu; exact h.1
    | succ j => exact h2 j B u (by simpa using hB) (by simpa using hu)
  | [], _ :: _, h => h.elim
  | _ :: _, [], h => h.elim

theorem PFn.row {P : Program} {f : FuncId} {As : List AV} {r : Bool} (h : PFn P f As (.v (.bool r))) {w : World} {vs : List Value} (hr : Reps (fun _ => False) w As vs) : Calls P f vs.toArray w fun e w' => e = .returned (.bool r) ∧ Below w.heap.size w w' := by
  obtain ⟨h1, h2⟩ := hr.get
  refine (h (fun _ => False) w vs (fun b h => h.elim) (Sat.nil _ _) h1 fun j A u hA hu => (h2 j A u hA hu).ext (Ext.less (fun b hb => by rcases hb with hb | ⟨s, hs, -⟩; exact hb; cases hs) w)).mono ?_
  rintro e w' ⟨v, r', F', ⟨rfl, rfl⟩, rfl, hrep, -, hk, -⟩
  cases hrep
  exact ⟨rfl, hk.os, hk.tape, hk.output, hk.size, fun b hlt => hk.block b hlt fun ⟨s, hs, _⟩ => by cases hs⟩

end Go.Proofs.YtglmdoghknpgkaaDoor

/- Lengths of slices within structs. -/
namespace Go.Proofs.YtglmdoghknpgkaaDoor
set_option linter.unusedVariables false
set_option linter.unusedSimpArgs false
set_option maxHeartbeats 8000000
open Go.RowKit

theorem lenAgg {c : Ctx} {σ : Slots} {F : Rows} {K : Act → World → Prop} (d j : Nat) {cs : List AV} {sz n : Nat} {g : Nat → List AV} (h : σ.lookup d = some (.agg cs)) (hj : cs[j]? = some (.lst sz n g)) (next : n ≤ 9223372036854775807 → ∀ a w, R c σ F a w → K a w) : ∀ a w, R c σ F a w → K a w := by
  intro a w hR
  refine next ?_ a w hR
  have h1 := hR.slots d _ h
  generalize a.tmps.getD d undef = v at h1
  cases h1 with
  | @agg _ us hl h1 hr =>
    have hlt : j < us.length := by rw [hl]; exact (List.getElem?_eq_some_iff.1 hj).1
    have h2 := hr j _ _ hj (List.getElem?_eq_getElem hlt)
    generalize us[j] = v at h2
    cases h2 with
    | lst u hn hm => simp only [maxLen] at hm; omega

theorem upto_succ {P : Nat → Prop} {k : Nat} (h : ∀ j, j < k → P j) (hk : P k) : ∀ j, j < k + 1 → P j := fun j hj => by
  rcases Nat.lt_or_eq_of_le (Nat.le_of_lt_succ hj) with h1 | rfl
  · exact h j h1
  · exact hk

/-- The same row of one's own, told otherwise. -/
theorem ownAs {c : Ctx} {σ : Slots} {F : Rows} {K : Act → World → Prop} (id : Nat) {x : Value} {E sz n n' : Nat} {g : Nat → List AV} (g' : Nat → List AV) (h : F.lookup id = some (.own x E sz n g)) (hn : n = n') (hg : ∀ i, i < n → g i = g' i)
    (next : ∀ a w, R c σ (setF id id (.own x E sz n' g') F) a w → K a w) : ∀ a w, R c σ F a w → K a w := by
  intro a w hR
  refine next a w ?_
  subst hn
  obtain ⟨L1, L2, h1, h2⟩ := setF_split h
  rw [h2]
  have hsat := hR.sat
  rw [h1] at hsat
  obtain ⟨g1, g2⟩ := hsat.turn (i' := id) (r' := .own x E sz n g') (w' := w) hR.off (Nat.le_refl _) (fun _ _ _ => rfl) (fun b hb => .inl hb) fun he => by
    obtain ⟨us, ho, hl, hu, hr⟩ := hsat.rows (id, .own x E sz n g) (by simp)
    exact ⟨us, ho, fun i hi => by rw [← hg i hi]; exact hl i hi, hu, fun i hi j A hA => by
      obtain ⟨u, hu, hrep⟩ := hr i hi j A (by rw [hg i hi]; exact hA)
      exact ⟨u, hu, hrep.ext he⟩⟩
  refine ⟨hR.len, hR.defers, hR.hoff, hR.kept, fun s hs b hb => ?_, g1, fun k A hA => (hR.slots k A hA).ext (by rw [h1]; exact g2)⟩
  rcases List.mem_append.1 hs with h3 | h3
  · exact hR.fresh s (by rw [h1]; simp [h3]) b hb
  · rcases List.mem_cons.1 h3 with rfl | h3
    · exact hR.fresh (id, .own x E sz n g) (by rw [h1]; simp) b hb
    · exact hR.fresh s (by rw [h1]; simp [h3]) b hb

end Go.Proofs.YtglmdoghknpgkaaDoor

/- A drawn region, told anew from where it stands. -/
namespace Go.Proofs.YtglmdoghknpgkaaDoor
set_option linter.unusedVariables false
set_option linter.unusedSimpArgs false
set_option maxHeartbeats 8000000
open Go.RowKit

theorem wpAnyG_base {P : Program} {ops : Array Oper} {Q : Exit → Act → World → Prop} {S S' : Nat → World → Prop} : ∀ (n : Nat) (listed : Array Bool) (a : Act) (u : World), (∀ k v v', Still ops listed k → S' k v → S' k v' → S k v → S k v') → (∀ k, Still ops listed k → S' k u) →
    wpAnyG P ops Q S' n listed a u → wpAnyG P ops Q S n listed a u
  | 0, _, _, _, _, _, h => h
  | n + 1, listed, a, u, hS, h0, h => by
    refine ⟨h.1, fun j hj => wpOp_mono (fun a' w' h' => ⟨fun k hk hs => ?_, ?_⟩) (h.2 j hj)⟩
    · exact hS k u w' hk.less (h0 k hk.less) (h'.1 k hk (h0 k hk.less)) hs
    · exact wpAnyG_base n _ a' w' (fun k v v' hk => hS k v v' hk.less) (fun k hk => h'.1 k hk (h0 k hk.less)) h'.2

section
variable {P : Program} {c : Ctx} {σ σ1 : Slots} {F F1 : Rows} {rdf : List (Nat × List Nat)} {Q : Exit → Act → World → Prop} {ops : Array Oper} {fuel : Nat} {listed : Array Bool}
theorem H.rebase (next : H P ops c σ F rdf fuel listed σ F Q) : H P ops c σ1 F1 rdf fuel listed σ F Q := by
  intro w1 a w hI
  have hI' : HI ops c σ F rdf listed σ F w a w := ⟨hI.now, hI.now, Ext.refl _ _, hI.closed, fun _ _ s hs _ => hs, fun i _ => ⟨Nat.le_refl _, fun _ _ _ => rfl⟩⟩
  refine wpAnyG_base fuel listed a w (fun k v v' hk h1 h2 h3 => ?_) (fun k _ => ⟨Nat.le_refl _, fun _ _ _ => rfl⟩) (next w a w hI')
  refine ⟨Nat.le_trans hI.ext.size h2.1, fun b hb hr => ?_⟩
  have hbw : b < w.heap.size := Nat.lt_of_lt_of_le hb hI.ext.size
  have hw : ¬ Own c.off F b ∨ ∃ s ∈ F, s.1 ∈ rdOf rdf k ∧ s.2.block = some b := by
    rcases hr with hr | ⟨s, g1, g2, g3⟩
    · exact .inl (hI.ext.own b hb hr)
    · exact .inr ⟨s, hI.keep k hk s g1 g2, g2, g3⟩
  rw [h2.2 b hbw hw, ← h1.2 b hbw hw]
  exact h3.2 b hb hr
end

/-- Rows in another order, some of them dropped. -/
inductive Sub : Rows → Rows → Prop
  | refl (F : Rows) : Sub F []
  | pick {F F' G : Rows} {r : Nat × Row} (h : F.Perm (r :: F')) (t : Sub F' G) : Sub F (r :: G)
theorem Sub.perm {F G : Rows} (h : Sub F G) : ∃ H, F.Perm (G ++ H) := by
  induction h with
  | refl F => exact ⟨F, List.Perm.refl _⟩
  | pick h _ ih =>
    obtain ⟨H, hH⟩ := ih
    exact ⟨H, h.trans (List.Perm.cons _ hH)⟩
theorem p0 {r : Nat × Row} {F : Rows} : (r :: F).Perm (r :: F) := List.Perm.refl _
theorem p1 {a r : Nat × Row} {F : Rows} : (a :: r :: F).Perm (r :: a :: F) := List.Perm.swap _ _ _
theorem pS {a r : Nat × Row} {F F' : Rows} (h : F.Perm (r :: F')) : (a :: F).Perm (r :: a :: F') := (List.Perm.cons _ h).trans (List.Perm.swap _ _ _)
theorem R.weakP {c : Ctx} {σ σ' : Slots} {F G : Rows} {a : Act} {w : World} (hs : WeakOk σ σ') (hF : Sub F G) (h : R c σ F a w) : R c σ' G a w := by
  obtain ⟨H, hH⟩ := hF.perm
  exact (h.perm hH).weak hs (List.sublist_append_left _ _)

/-- A scope whose label is jumped back to: a pass is shown once. -/
theorem S.scopeE {P : Program} {c : Ctx} {σ : Slots} {F : Rows} {Q : Exit → Act → World → Prop} {ι : Type} {x B : Code} (l : Nat) (sl : ι → Slots) (ro : ι → Rows) (μ : ι → Nat) (hf : findLabel x l = some (.seq .skip B))
    (pass : ∀ i (J : Act → World → Prop), (∀ a w j, μ j < μ i → R c (sl j) (ro j) a w → J a w) → S P c B (sl i) (ro i) (Exit.jump l J Q))
    (first : (∀ i, S P c B (sl i) (ro i) (Exit.jump l (fun a w => ∃ i, R c (sl i) (ro i) a w) Q)) → S P c x σ F (Exit.jump l (fun a w => ∃ i, R c (sl i) (ro i) a w) Q)) : S P c (.scope x) σ F Q :=
  S.scope l sl ro μ hf (first fun i => pass i _ fun a w j _ hR => ⟨j, hR⟩) fun i => S.seq (S.skip (pass i _ fun a w j hj hR => ⟨j, hj, hR⟩))

end Go.Proofs.YtglmdoghknpgkaaDoor

/- A block told otherwise; rows picked for a call. -/
namespace Go.Proofs.YtglmdoghknpgkaaDoor
set_option linter.unusedVariables false
set_option linter.unusedSimpArgs false
set_option maxHeartbeats 8000000
open Go.RowKit

theorem blkAs {c : Ctx} {σ : Slots} {F : Rows} {K : Act → World → Prop} (id : Nat) {b : Nat} {T : TypeId} {cs : List AV} (cs' : List AV) (h : F.lookup id = some (.blk b T cs)) (hi : Imps cs cs')
    (next : ∀ a w, R c σ (setF id id (.blk b T cs') F) a w → K a w) : ∀ a w, R c σ F a w → K a w := by
  intro a w hR
  refine next a w ?_
  obtain ⟨L1, L2, h1, h2⟩ := setF_split h
  rw [h2]
  have hsat := hR.sat
  rw [h1] at hsat
  obtain ⟨i1, i2⟩ := hi.get
  obtain ⟨g1, g2⟩ := hsat.turn (i' := id) (r' := .blk b T cs') (w' := w) hR.off (Nat.le_refl _) (fun _ _ _ => rfl) (fun b hb => .inl hb) fun he => by
    obtain ⟨us, hh, hl, hu, hr⟩ := hsat.rows (id, .blk b T cs) (by simp)
    exact ⟨us, hh, hl.trans i1, hu, fun j A u hA hu => by
      obtain ⟨B, hB, hi⟩ := i2 j A hA
      exact hi _ _ _ ((hr j B u hB hu).ext he)⟩
  refine ⟨hR.len, hR.defers, hR.hoff, hR.kept, fun s hs b hb => ?_, g1, fun k A hA => (hR.slots k A hA).ext (by rw [h1]; exact g2)⟩
  rcases List.mem_append.1 hs with h3 | h3
  · exact hR.fresh s (by rw [h1]; simp [h3]) b hb
  · rcases List.mem_cons.1 h3 with rfl | h3
    · exact hR.fresh (id, .blk _ T cs) (by rw [h1]; simp) b hb
    · exact hR.fresh s (by rw [h1]; simp [h3]) b hb

theorem pickS {r : Nat × Row} {F F' G H : Rows} (h : F.Perm (r :: F')) (t : F'.Perm (G ++ H)) : F.Perm ((r :: G) ++ H) := h.trans (List.Perm.cons _ t)
theorem pick0 {F : Rows} : F.Perm ([] ++ F) := List.Perm.refl _

section
variable {P : Program} {c : Ctx} {σ : Slots} {F : Rows} {Q : Exit → Act → World → Prop} {ops : Array Oper} {rest : List Oper} {o : Oper}
/-- A guarded call that is made. -/
theorem O.callT {cl : Call} {x : Operand} {f d : Nat} {bb tt' : Bool} {caps As Bs : List AV} {p q : Prop} {G H : Rows} {Post : AV → Rows → Prop} (ho : o.op = .call cl) (hcl : cl.callee = .value x) (hg : guardA ops σ o = some (some (bb, tt'))) (hb : bb = tt') (hd : o.dst = some d) (hdN : Nat.blt d c.N = true) (hx : evalS σ x = some (.fn (.func f) caps, p)) (ha : argsA σ cl.args.toList = some (As, q))
    (hpq : p ∧ q) (hf : callable P f = true) (himp : Imps (As ++ caps) Bs) (hp : F.Perm (G ++ H)) (h : FnC P f Bs G Post) : O P ops c o σ F Q (G.map (·.1)) (PostOf Post) (fun i => (d, i.1.1) :: σ) (fun i => i.1.2 ++ H) := by
  intro a w hR K hK
  unfold Op1
  rw [if_pos ((guard_iff hR hg).2 hb)]
  obtain ⟨vs, h1, h2, h3⟩ := exec_call hR ho hcl hx ha hpq hf
  obtain ⟨i1, i2⟩ := himp.get
  simp only [Oper.wp]
  rw [h1, Oper.upon_enter, hd]
  exact call_core hR hp h (h2.trans i1) (fun j A u hA hu => by obtain ⟨B, hB, hi⟩ := i2 j A hA; exact hi _ _ _ (h3 j B u hB hu)) hdN fun r G' hP a' w' hR' hS hv => hK ⟨(r, G'), hP⟩ a' w' hR' hS (by rw [hd]; exact hv)
theorem L.callT {cl : Call} {x : Operand} {f d : Nat} {bb tt' : Bool} {caps As Bs : List AV} {p q : Prop} {G H : Rows} {Post : AV → Rows → Prop} (ho : o.op = .call cl) (hcl : cl.callee = .value x) (hg : guardA ops σ o = some (some (bb, tt'))) (hb : bb = tt') (hd : o.dst = some d) (hdN : Nat.blt d c.N = true) (hx : evalS σ x = some (.fn (.func f) caps, p)) (ha : argsA σ cl.args.toList = some (As, q))
    (hpq : p ∧ q) (hf : callable P f = true) (himp : Imps (As ++ caps) Bs) (hp : F.Perm (G ++ H)) (h : FnC P f Bs G Post) (next : ∀ r G', Post r G' → L P ops c rest ((d, r) :: σ) (G' ++ H) Q) : L P ops c (o :: rest) σ F Q :=
  L.of (O.callT ho hcl hg hb hd hdN hx ha hpq hf himp hp h) fun i => next i.1.1 i.1.2 i.2
end

end Go.Proofs.YtglmdoghknpgkaaDoor

/- Arguments that can be read as data, as abstract values. -/
namespace Go.Proofs.YtglmdoghknpgkaaDoor
set_option linter.unusedVariables false
set_option linter.unusedSimpArgs false
set_option maxHeartbeats 8000000
open Go.RowKit

def Rds (w : World) (As : List AV) (cs : List Value) : Prop := cs.length = As.length ∧ (∀ u ∈ cs, u.oneCell' = true) ∧ ∀ (j : Nat) A u, As[j]? = some A → cs[j]? = some u → Rep (fun _ => False) w A u

/-- What is read as a type is such a thing. -/
def RdP {α : Type} (P : Program) (t : TypeId) (enc : α → List AV) (ok : α → Prop) : Prop := ∀ (H : Type) (en : TypeId × Value → H) (W : World) (base : Nat) (spare : Nat → Bool) (held : Bool) (fuel : Nat) (cs : List Value) (x : DataW H × List MemPlace),
  DataW.trod en P W base spare held fuel t cs = some x → ∃ d, ok d ∧ Rds W (enc d) cs

theorem Rds.one {w : World} {A : AV} {v : Value} (h1 : v.oneCell' = true) (h : Rep (fun _ => False) w A v) : Rds w [A] [v] :=
  ⟨rfl, fun u hu => by rw [List.mem_singleton.1 hu]; exact h1, fun j B u hB hu => by
    cases j with
    | zero => simp at hB hu; subst hB; subst hu; exact h
    | succ j => simp at hB⟩
theorem Rds.app {w : World} {As Bs : List AV} {cs ds : List Value} (h : Rds w As cs) (k : Rds w Bs ds) : Rds w (As ++ Bs) (cs ++ ds) := by
  refine ⟨by simp [h.1, k.1], fun u hu => (List.mem_append.1 hu).elim (h.2.1 u) (k.2.1 u), fun j A u hA hu => ?_⟩
  rw [List.getElem?_append] at hA hu
  rw [h.1] at hu
  split at hA
  · rename_i hj; rw [if_pos hj] at hu; exact h.2.2 j A u hA hu
  · rename_i hj; rw [if_neg hj] at hu; exact k.2.2 _ A u hA hu

section
variable {P : Program} {t e : TypeId}
theorem rd_int {k : IntKind} (ht : P.underlying t = some (.int k)) : RdP P t (fun z : Int => [.v (.int k z)]) (fun z => (Lit.int k z).wf = true) := by
  intro H en W base spare held fuel cs x h
  obtain ⟨n, rfl, -, hw⟩ := DataW.trod_int ht h
  exact ⟨n, hw, Rds.one rfl (.v _)⟩
theorem rd_bool (ht : P.underlying t = some .bool) : RdP P t (fun z : Bool => [.v (.bool z)]) (fun _ => True) := by
  intro H en W base spare held fuel cs x h
  obtain ⟨n, rfl, -⟩ := DataW.trod_bool ht h
  exact ⟨n, trivial, Rds.one rfl (.v _)⟩
theorem rd_str (ht : P.underlying t = some .string) : RdP P t (fun z : ByteArray => [.v (.string z)]) (fun z => z.size ≤ maxLen) := by
  intro H en W base spare held fuel cs x h
  obtain ⟨n, rfl, -, hw⟩ := DataW.trod_string ht h
  exact ⟨n, hw, Rds.one rfl (.v _)⟩
theorem RdP.map {α β : Type} {enc : α → List AV} {ok : α → Prop} {enc' : β → List AV} {ok' : β → Prop} (h : RdP P t enc ok) (f : α → β) (he : ∀ d, enc' (f d) = enc d) (hk : ∀ d, ok d → ok' (f d)) : RdP P t enc' ok' := by
  intro H en W base spare held fuel cs x hx
  obtain ⟨d, h1, h2⟩ := h H en W base spare held fuel cs x hx
  exact ⟨f d, hk d h1, by rw [he]; exact h2⟩

theorem list_of {α : Type} {Q : Nat → α → Prop} : ∀ (n : Nat), (∀ i, i < n → ∃ d, Q i d) → ∃ l : List α, l.length = n ∧ ∀ i (h : i < l.length), Q i l[i]
  | 0, _ => ⟨[], rfl, fun i h => absurd h (by simp)⟩
  | n + 1, h => by
    obtain ⟨l, h1, h2⟩ := list_of (Q := Q) n fun i hi => h i (by omega)
    obtain ⟨d, hd⟩ := h n (by omega)
    refine ⟨l ++ [d], by simp [h1], fun i hi => ?_⟩
    rw [List.getElem_append]
    split
    · rename_i h3; exact h2 i h3
    · rename_i h3
      have : i = n := by simp at hi; omega
      subst this
      simpa [h1] using hd

theorem rd_slice {α : Type} [Inhabited α] {enc : α → List AV} {ok : α → Prop} {sz : Nat} (ht : P.underlying t = some (.slice e)) (hc : P.cellsOf e = sz) (hl : ∀ d, (enc d).length = sz) (he : RdP P e enc ok) :
    RdP P t (fun l : List α => [.lst sz l.length (gOf enc l)]) (fun l => l.length ≤ maxLen ∧ ∀ d ∈ l, ok d) := by
  intro H en W base spare held fuel cs x h
  rcases DataW.trod_slice ht h with ⟨rfl, -⟩ | ⟨a, len, cap, elems, rest, n, -, rfl, -, hb, hle, hm, hlen, hel, -, -⟩
  · exact ⟨[], ⟨by simp [maxLen], by simp⟩, Rds.one rfl (Imp.nil _ _ _ _ _ (.v _))⟩
  · have each : ∀ i, i < len → ∃ d, ok d ∧ ∃ cs' : List Value, W.cells? base (a.add (i * sz)) sz = some cs' ∧ Rds W (enc d) cs' := by
      intro i hi
      have h1 := hel i hi
      rw [hc, List.getElem?_eq_getElem (by omega), Option.bind_eq_some_iff] at h1
      obtain ⟨cs', h2, h3⟩ := h1
      obtain ⟨d, h4, h5⟩ := he H en W base spare held n cs' _ h3
      exact ⟨d, h4, cs', h2, h5⟩
    obtain ⟨l, h1, h2⟩ := list_of len each
    have h3 : ∀ i, ∃ cs' : List Value, ∀ (hi : i < l.length), W.cells? base (a.add (i * sz)) sz = some cs' ∧ Rds W (enc l[i]) cs' := fun i => by
      by_cases hi : i < l.length
      · obtain ⟨-, cs', h4, h5⟩ := h2 i hi; exact ⟨cs', fun _ => ⟨h4, h5⟩⟩
      · exact ⟨[], fun h => absurd h hi⟩
    obtain ⟨cf, hcf⟩ := Classical.axiomOfChoice h3
    subst h1
    refine ⟨l, ⟨by omega, fun d hd => ?_⟩, Rds.one rfl ?_⟩
    · obtain ⟨i, hi, rfl⟩ := List.getElem_of_mem hd
      exact (h2 i hi).1
    have hg : ∀ i (hi : i < l.length), gOf enc l i = enc l[i] := fun i hi => by rw [gOf, List.getD_eq_getElem?_getD, List.getElem?_eq_getElem hi]; rfl
    refine .lst (fun i j => if i < l.length then (cf i).getD j (.bool false) else .bool false) hle hm (fun h => by cases h) (fun i hi => by rw [hg i hi]; exact hl _) (fun i j => ?_) (fun ad had i hi j hj => ?_) (fun _ _ _ _ h => h) (fun i hi j B hB => ?_)
    · split
      · rename_i hi
        rw [List.getD_eq_getElem?_getD]
        cases hq : (cf i)[j]? with
        | none => rfl
        | some u => exact (hcf i hi).2.2.1 u (List.mem_of_getElem? hq)
      · rfl
    · cases had
      obtain ⟨g1, g2⟩ := hcf i hi
      rw [if_pos hi, ← add_add]
      have hlen' : j < (cf i).length := by rw [g2.1, hl]; exact hj
      have g3 := World.cells?_some g1
      rw [List.getD_eq_getElem?_getD, List.getElem?_eq_getElem hlen']
      have := g3.2.2 j hj
      rw [this, List.getElem?_eq_getElem hlen']
      rfl
    · rw [hg i hi] at hB
      rw [if_pos hi]
      obtain ⟨g1, g2⟩ := hcf i hi
      have hlen' : j < (cf i).length := by rw [g2.1]; exact (List.getElem?_eq_some_iff.1 hB).1
      rw [List.getD_eq_getElem?_getD, List.getElem?_eq_getElem hlen']
      exact g2.2.2 j B _ hB (List.getElem?_eq_getElem hlen')

/-- Fields, from a place on. -/
def RdF {α : Type} (P : Program) (fs : List (Nat × TypeId × Nat)) (k : Nat) (enc : α → List AV) (ok : α → Prop) : Prop := ∀ (H : Type) (en : TypeId × Value → H) (W : World) (base : Nat) (spare : Nat → Bool) (held : Bool) (cs : List Value),
  (∀ f ∈ fs, ∃ fuel x, DataW.trod en P W base spare held fuel f.2.1 ((cs.drop f.1).take f.2.2) = some x) → cs.length = k + (fs.map (·.2.2)).sum → ∃ d, ok d ∧ Rds W (enc d) (cs.drop k)
theorem rdf_nil {k : Nat} : RdF P [] k (fun _ : Unit => []) (fun _ => True) := by
  intro H en W base spare held cs _ hl
  refine ⟨(), trivial, ?_⟩
  rw [List.drop_of_length_le (by simp at hl; omega)]
  exact ⟨rfl, by simp, by simp⟩
theorem rdf_cons {α β : Type} {enc1 : α → List AV} {ok1 : α → Prop} {enc2 : β → List AV} {ok2 : β → Prop} {fs : List (Nat × TypeId × Nat)} {k n : Nat} (h1 : RdP P t enc1 ok1) (h2 : RdF P fs (k + n) enc2 ok2) :
    RdF P ((k, t, n) :: fs) k (fun d : α × β => enc1 d.1 ++ enc2 d.2) (fun d => ok1 d.1 ∧ ok2 d.2) := by
  intro H en W base spare held cs hf hl
  obtain ⟨fuel, x, hx⟩ := hf _ (List.mem_cons_self ..)
  obtain ⟨d1, g1, g2⟩ := h1 H en W base spare held fuel _ x hx
  simp only [List.map_cons, List.sum_cons] at hl
  obtain ⟨d2, g3, g4⟩ := h2 H en W base spare held cs (fun f hf' => hf f (List.mem_cons_of_mem _ hf')) (by omega)
  refine ⟨(d1, d2), ⟨g1, g3⟩, ?_⟩
  have e : cs.drop k = (cs.drop k).take n ++ cs.drop (k + n) := by
    rw [← List.drop_drop, List.take_append_drop]
  rw [e]
  exact g2.app g4
theorem rd_struct {α : Type} {T : Types} (hT : TOk P T) {i : TI} {fs : List (Nat × TypeId × Nat)} {enc : α → List AV} {ok : α → Prop} (ht : T.lookup t = some i) (hd : i.d = .struct fs) (hs : i.size = (fs.map (·.2.2)).sum) (h : RdF P fs 0 enc ok) : RdP P t enc ok := by
  intro H en W base spare held fuel cs x hx
  have told := hT.told ht
  obtain ⟨l, hu, hf⟩ := told.struct hd
  obtain ⟨xs, n, -, -, hl, hlen, hall⟩ := DataW.trod_struct hu hx
  have hsz : P.cellsOf t = i.size := by
    obtain ⟨j, z, h1, h2, -⟩ := told.info
    simp [Program.cellsOf, h1, h2]
  have hh : ∀ f ∈ fs, ∃ fuel x, DataW.trod en P W base spare held fuel f.2.1 ((cs.drop f.1).take f.2.2) = some x := by
    intro f hfm
    obtain ⟨j, hj⟩ := List.getElem?_of_mem hfm
    obtain ⟨o, tf, m⟩ := f
    obtain ⟨g, g1, rfl, rfl, g4, -⟩ := fsOk_get hf hj
    have hg : l[j]? = some g := by simpa using g1
    have hjl : j < xs.length := by rw [hlen]; exact (Array.getElem?_eq_some_iff.1 hg).1
    have h5 := hall j g hg
    have h6 : P.cellsOf g.type = m := by simp [Program.cellsOf, g4]
    rw [List.getElem?_eq_getElem hjl, h6] at h5
    exact ⟨n, _, h5⟩
  obtain ⟨d, h1, h2⟩ := h H en W base spare held cs hh (by omega)
  exact ⟨d, h1, by simpa using h2⟩
theorem RdP.read {α : Type} {enc : α → List AV} {ok : α → Prop} (h : RdP P t enc ok) {H : Type} {en : TypeId × Value → H} {W : World} {base : Nat} {spare : Nat → Bool} {held : Bool} {v : Value} {d : DataW H} {ps : List MemPlace} (hd : DataW.Trod en P W base spare held t v d ps) :
    ∃ d, ok d ∧ Rds W (enc d) v.cells.toList := by
  obtain ⟨fuel, hf⟩ := hd
  exact h H en W base spare held fuel _ _ hf
end

theorem wf_fit {z : Int} (h : (Lit.int .i64 z).wf = true) : fitI z := by
  have e1 : IntKind.i64.min = -9223372036854775808 := rfl
  have e2 : IntKind.i64.max = 9223372036854775807 := rfl
  simp only [Lit.wf, Bool.and_eq_true, decide_eq_true_eq, e1, e2] at h
  unfold fitI
  omega
theorem reads_slice {w : World} {A : AV} {v : Value} {a : Option Addr} {l c : Nat} (hv : v = .slice a l c) (h : Rds w [A] v.cells.toList) : Rep (fun _ => False) w A v := by
  subst hv
  exact h.2.2 0 A _ rfl rfl

end Go.Proofs.YtglmdoghknpgkaaDoor

/- Structs that come in. -/
namespace Go.Proofs.YtglmdoghknpgkaaDoor
set_option linter.unusedVariables false
set_option linter.unusedSimpArgs false
set_option maxHeartbeats 8000000
open Go.RowKit
theorem reads_agg {w : World} {cs : List AV} {v : Value} {us : Array Value} (hv : v = .agg us) (h : Rds w cs v.cells.toList) : Rep (fun _ => False) w (.agg cs) v := by
  subst hv
  have h' : Rds w cs us.toList := h
  have := Rep.agg (own := fun _ => False) (w := w) (us := us.toList) h'.1 h'.2.1 h'.2.2
  simpa using this
end Go.Proofs.YtglmdoghknpgkaaDoor
