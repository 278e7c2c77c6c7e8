/- Texts of this proof, laid together: SymTac, SymCut, SymOld, SymRow, IdxMark, IdxHeld, ClnMsg, ClnHeld, ClnMark, ApiEnc, Keys. -/
import Derived.Test.YtgnklbdbglnmaaaMgB
import Derived.Test.YtgnklbdbglnmaaaSymTabM
import Derived.DeepKeys4
/- Short words for walks. -/
namespace Go.Proofs.Ytgnklbdbglnmaaa
set_option linter.unusedVariables false
set_option linter.unusedSimpArgs false
set_option maxHeartbeats 8000000
open Go.RowKit

theorem zA {p : Prop} : p → True := fun _ => True.intro
theorem zB {p : Prop} : p → p := fun h => h
theorem zC {p : Prop} : p → p ∧ True := fun h => And.intro h True.intro
theorem zD {p : Prop} : p → p ∧ p ∧ True := fun h => And.intro h (And.intro h True.intro)
theorem zE {p : Prop} : p → p ∧ True ∧ True := fun h => And.intro h (And.intro True.intro True.intro)
theorem zN {n m : Nat} (h : Nat.ble n m = true) : n ≤ m := Nat.le_of_ble_eq_true h
theorem zI {p q : Prop} (h : p) (g : q) : p ∧ q := ⟨h, g⟩
theorem mixed : Try.prog.follows .mixedOrders = true := by kernel_rfl





theorem of_dec {p : Prop} [Decidable p] (h : decide p = true) : p := of_decide_eq_true h
theorem of_dec' {p : Prop} [Decidable p] (h : decide p = false) : ¬ p := of_decide_eq_false h

def pidx (p : Nat → Bool) (n : Nat) : Int := match (List.range n).find? p with | some k => k | none => -1
theorem pidx_some {p : Nat → Bool} {n k : Nat} (hk : k < n) (hp : p k = true) (hno : ∀ j, j < k → p j = false) : pidx p n = k := by
  unfold pidx
  rw [List.find?_range_eq_some.2 ⟨hp, by simpa using hk, fun j hj => by simpa using hno j hj⟩]
theorem pidx_none {p : Nat → Bool} {n : Nat} (hno : ∀ j, j < n → p j = false) : pidx p n = -1 := by
  unfold pidx
  rw [List.find?_eq_none.2 fun j hj => by simp [hno j (by simpa using hj)]]
theorem pidx_cases (p : Nat → Bool) (n : Nat) : (pidx p n = -1 ∧ ∀ j, j < n → p j = false) ∨ ∃ k, k < n ∧ p k = true ∧ (∀ j, j < k → p j = false) ∧ pidx p n = k := by
  unfold pidx
  cases h : (List.range n).find? p with
  | none => exact .inl ⟨rfl, fun j hj => by simpa using List.find?_eq_none.1 h j (by simpa using hj)⟩
  | some k =>
    obtain ⟨h1, h2, h3⟩ := List.find?_range_eq_some.1 h
    exact .inr ⟨k, by simpa using h2, h1, fun j hj => by simpa using h3 j hj, rfl⟩

end Go.Proofs.Ytgnklbdbglnmaaa

/- Cuts, and rows in another order. -/
namespace Go.Proofs.Ytgnklbdbglnmaaa
set_option linter.unusedVariables false
set_option linter.unusedSimpArgs false
set_option maxHeartbeats 8000000
open Go.RowKit

theorem R.perm {c : Ctx} {σ : Slots} {F G : Rows} {a : Act} {w : World} (h : R c σ F a w) (hp : F.Perm G) : R c σ G a w := by
  obtain ⟨g1, g2⟩ := h.sat.perm hp
  exact ⟨h.len, h.defers, h.hoff, h.kept, fun r hr => h.fresh r (hp.mem_iff.2 hr), g1, fun k A hA => (h.slots k A hA).ext (Ext.less (fun b hb => (g2 b).1 hb) w)⟩

/-- Another view of one slot. -/
theorem slotAs {c : Ctx} {σ : Slots} {F : Rows} {K : Act → World → Prop} (d : Nat) {A : AV} (B : AV) (hd : σ.lookup d = some A) (hi : Imp A B) (next : ∀ a w, R c ((d, B) :: σ) F a w → K a w) : ∀ a w, R c σ F a w → K a w := renum F d B rfl hd hi next

theorem umod (n m : Int) (hm : 0 < m) (h2 : m ≤ 4611686018427387904) : ∃ K : Nat, (K : Int) < m ∧ IntKind.i64.wrap ((IntKind.u64.wrap n).tmod m) = K := by
  have h := urem n m hm
  refine ⟨((IntKind.u64.wrap n).tmod m).toNat, by omega, ?_⟩
  rw [wrap_fits ⟨by omega, by omega⟩]
  omega

section
variable {P : Program} {c : Ctx} {σ : Slots} {F : Rows} {Q : Exit → Act → World → Prop} {x : Code}
/-- What holds behind a piece of code, told once. -/
theorem S.cut {ι : Type} (sl : ι → Slots) (ro : ι → Rows) (h : S P c x σ F (Exit.then (fun a w => ∃ i, R c (sl i) (ro i) a w) Q)) (next : ∀ i, E c .normal (sl i) (ro i) Q) : S P c x σ F Q := fun a w hR =>
  wp_mono (h a w hR) fun e a' w' h' => by
    cases e with
    | normal => obtain ⟨i, hi⟩ := h'; exact next i a' w' hi
    | _ => exact h'
end

end Go.Proofs.Ytgnklbdbglnmaaa

/- Contracts out of laws on rows of one's own. -/
namespace Go.Proofs.Ytgnklbdbglnmaaa
set_option linter.unusedVariables false
set_option linter.unusedSimpArgs false
set_option maxHeartbeats 8000000
open Go.RowKit

/-- The cells of one element. -/
structure Cz (sz : Nat) where
  l : List Value
  len : l.length = sz
  one : ∀ u ∈ l, u.oneCell' = true

theorem chunks {sz : Nat} : ∀ (n : Nat) (us : List Value), us.length = n * sz → (∀ u ∈ us, u.oneCell' = true) → ∃ L : List (Cz sz), L.length = n ∧ fl Cz.l L = us
  | 0, us, h, _ => ⟨[], rfl, by have : us = [] := List.eq_nil_of_length_eq_zero (by simpa using h); rw [this]; rfl⟩
  | n + 1, us, h, h1 => by
    have hl : us.length = n * sz + sz := by rw [h, Nat.add_mul, Nat.one_mul]
    obtain ⟨L, e1, e2⟩ := chunks (sz := sz) n (us.drop sz) (by rw [List.length_drop]; omega) fun u hu => h1 u (List.mem_of_mem_drop hu)
    refine ⟨⟨us.take sz, by rw [List.length_take]; omega, fun u hu => h1 u (List.mem_of_mem_take hu)⟩ :: L, by simp [e1], ?_⟩
    rw [fl_cons, e2]
    exact List.take_append_drop sz us

/-- A row of one's own, by elements. -/
theorem Row.sat.elems {own : Nat → Prop} {w : World} {x : Value} {E sz n : Nat} {g : Nat → List AV} (h : Row.sat own w (.own x E sz n g)) : ∃ L : List (Cz sz), L.length = n ∧ w.ownsRow 0 E sz x L.length (fl Cz.l L) ∧ (∀ i, i < n → (g i).length = sz) ∧
    ∀ i (hi : i < L.length) (j : Nat) A, (g i)[j]? = some A → ∃ u, L[i].l[j]? = some u ∧ Rep own w A u := by
  obtain ⟨us, ho, hlen, h1, hr⟩ := h
  obtain ⟨L, rfl, rfl⟩ := chunks n us ho.1 h1
  refine ⟨L, rfl, ho, hlen, fun i hi j A hA => ?_⟩
  obtain ⟨u, hu, hrep⟩ := hr i hi j A hA
  have hj : j < sz := by have := (List.getElem?_eq_some_iff.1 hA).1; rw [hlen i hi] at this; exact this
  rw [fl_get (fun c : Cz sz => c.len) L i hi j hj] at hu
  exact ⟨u, hu, hrep⟩
theorem Row.sat.of_elems {own : Nat → Prop} {w : World} {x : Value} {E sz : Nat} {g : Nat → List AV} {L : List (Cz sz)} (ho : w.ownsRow 0 E sz x L.length (fl Cz.l L)) (hlen : ∀ i, i < L.length → (g i).length = sz)
    (hr : ∀ i (hi : i < L.length) (j : Nat) A, (g i)[j]? = some A → ∃ u, L[i].l[j]? = some u ∧ Rep own w A u) : Row.sat own w (.own x E sz L.length g) := by
  refine ⟨fl Cz.l L, ho, hlen, fun u hu => ?_, fun i hi j A hA => ?_⟩
  · obtain ⟨c, _, hc⟩ := List.mem_flatMap.1 hu; exact c.one u hc
  · obtain ⟨u, hu, hrep⟩ := hr i hi j A hA
    have hj : j < sz := by have := (List.getElem?_eq_some_iff.1 hA).1; rw [hlen i hi] at this; exact this
    exact ⟨u, by rw [fl_get (fun c : Cz sz => c.len) L i hi j hj]; exact hu, hrep⟩

/-- What comes back where one row of one's own has turned. -/
theorem ret_row {off : Nat → Prop} {id : Nat} {r r' : Row} {w w' : World} (hS : Sat off [(id, r)] w) (hoff : ∀ b, off b → b < w.heap.size) {row : Option Nat} (hg : w.grownBy w' row) (hrow : ∀ b, row = some b → b < w.heap.size → r.block = some b)
    (hk : ∀ b, r'.block = some b → r.block = some b ∨ w.heap.size ≤ b) (hr : Ext (Own off [(id, r)]) (Own off [(id, r')]) w w' → r'.sat (Own off [(id, r')]) w') :
    Sat off [(id, r')] w' ∧ Kept (blocksOf [(id, r)]) w w' ∧ ∀ s ∈ [(id, r')], ∀ b, s.2.block = some b → blocksOf [(id, r)] b ∨ w.heap.size ≤ b := by
  obtain ⟨g1, -⟩ := Sat.turn (L1 := []) (L2 := []) (i' := id) (r' := r') hS hoff hg.size (fun b hlt hne => hg.block b hlt fun e => hne (hrow b e.symm hlt)) hk hr
  refine ⟨g1, ⟨hg.os, hg.tape, hg.output, hg.size, fun b hlt hn => hg.block b hlt fun e => hn ⟨(id, r), by simp, hrow b e.symm hlt⟩⟩, fun s hs b hb => ?_⟩
  rw [List.mem_singleton] at hs
  subst hs
  rcases hk b hb with h | h
  · exact .inl ⟨(id, r), by simp, h⟩
  · exact .inr h

end Go.Proofs.Ytgnklbdbglnmaaa

/- From a contract to a row. -/
namespace Go.Proofs.Ytgnklbdbglnmaaa
set_option linter.unusedVariables false
set_option linter.unusedSimpArgs false
set_option maxHeartbeats 8000000
open Go.RowKit

def Reps (own : Nat → Prop) (w : World) : List AV → List Value → Prop
  | [], [] => True
  | A :: l, v :: m => Rep own w A v ∧ Reps own w l m
  | _, _ => False
theorem Reps.get {own : Nat → Prop} {w : World} : ∀ {l : List AV} {m : List Value}, Reps own w l m → m.length = l.length ∧ ∀ (j : Nat) A u, l[j]? = some A → m[j]? = some u → Rep own w A u
  | [], [], _ => ⟨rfl, fun j A u h => by simp at h⟩
  | A :: l, v :: m, h => by
    obtain ⟨h1, h2⟩ := Reps.get h.2
    refine ⟨by simp [h1], fun j B u hB hu => ?_⟩
    cases j with
    | zero => simp at hB hu; subst hB; subst hu; exact h.1
    | succ j => exact h2 j B u (by simpa using hB) (by simpa using hu)
  | [], _ :: _, h => h.elim
  | _ :: _, [], h => h.elim

theorem PFn.row {P : Program} {f : FuncId} {As : List AV} {r : Bool} (h : PFn P f As (.v (.bool r))) {w : World} {vs : List Value} (hr : Reps (fun _ => False) w As vs) : Calls P f vs.toArray w fun e w' => e = .returned (.bool r) ∧ Below w.heap.size w w' := by
  obtain ⟨h1, h2⟩ := hr.get
  refine (h (fun _ => False) w vs (fun b h => h.elim) (Sat.nil _ _) h1 fun j A u hA hu => (h2 j A u hA hu).ext (Ext.less (fun b hb => by rcases hb with hb | ⟨s, hs, -⟩; exact hb; cases hs) w)).mono ?_
  rintro e w' ⟨v, r', F', ⟨rfl, rfl⟩, rfl, hrep, -, hk, -⟩
  cases hrep
  exact ⟨rfl, hk.os, hk.tape, hk.output, hk.size, fun b hlt => hk.block b hlt fun ⟨s, hs, _⟩ => by cases hs⟩

end Go.Proofs.Ytgnklbdbglnmaaa

/- slices.IndexFunc, on abstract values. -/
namespace Go.Proofs.Ytgnklbdbglnmaaa
set_option linter.unusedVariables false
set_option linter.unusedSimpArgs false
set_option maxHeartbeats 8000000
open Go.RowKit
set_option maxRecDepth 4000

theorem IdxMark {n f : Nat} {g : Nat → List AV} {caps : List AV} (p : Nat → Bool) (hf : callable Try.prog f = true) (hl : ∀ i, i < n → (g i).length = 3) (hp : ∀ i, i < n → PFn Try.prog f (.agg (g i) :: caps) (.v (.bool (p i)))) :
    PFn Try.prog 82 [.lst 3 n g, .fn (.func f) caps] (.v (.int .i64 (pidx p n))) := by
  refine FnC.intro Try.func82 rfl Try.ntmps82 rfl ?_; intro off w0
  refine lenAt (sz := 3) (n := n) (g := g) 0 rfl fun hn => ?_
  ((repeat refine S.seq ?_); refine S.region (L.go (T := tt) tt_ok rfl rfl ?sd1 ?_); (try (case sd1 => (repeat' (first | exact trivial | exact zA | with_reducible refine zI ?_ ?_ | exact zB | exact zC | exact zD | exact zE | rfl | exact zN rfl | omega | assumption | (simp; done) | (simp [splice]; done) | (simp; omega) | (unfold fits; omega) | (unfold fits; simp_all; omega) | (simp_all; omega) | (simp_all; done) | intro _)))); try (refine L.nil ?_))
  ((repeat refine S.seq ?_); refine S.region (L.go (T := tt) tt_ok rfl rfl ?sd2 ?_); (try (case sd2 => (repeat' (first | exact trivial | exact zA | with_reducible refine zI ?_ ?_ | exact zB | exact zC | exact zD | exact zE | rfl | exact zN rfl | omega | assumption | (simp; done) | (simp [splice]; done) | (simp; omega) | (unfold fits; omega) | (unfold fits; simp_all; omega) | (simp_all; omega) | (simp_all; done) | intro _)))); try (refine L.nil ?_))
  refine S.block (S.loop (ι := { k : Nat // k ≤ n ∧ ∀ j, j < k → p j = false }) (fun k => [(8, .v (.int .i64 k.1)), (7, .v (.int .i64 n)), (1, .fn (.func f) caps), (0, .lst 3 n g)]) (fun _ => []) (fun k => n - k.1) ?_ ?_)
  · exact fun a w h => ⟨⟨0, Nat.zero_le _, fun j hj => absurd hj (by omega)⟩, h.weak (by (repeat' (first | exact True.intro | exact Imp.refl _ | refine ⟨?_, ?_⟩))) (List.Sublist.refl _)⟩
  rintro ⟨k, hk, hno⟩
  dsimp only
  ((repeat refine S.seq ?_); refine S.region (L.go (T := tt) tt_ok rfl rfl ?sd3 ?_); (try (case sd3 => (repeat' (first | exact trivial | exact zA | with_reducible refine zI ?_ ?_ | exact zB | exact zC | exact zD | exact zE | rfl | exact zN rfl | omega | assumption | (simp; done) | (simp [splice]; done) | (simp; omega) | (unfold fits; omega) | (unfold fits; simp_all; omega) | (simp_all; omega) | (simp_all; done) | intro _)))); try (refine L.nil ?_))
  refine S.seq (S.cond rfl (fun h => S.skip ?_) (fun h => S.exit ?_))
  · have h := of_dec h
    have hlk := hl k (by omega)
    refine S.seq (S.block ?_)
    ((repeat refine S.seq ?_); refine S.region (L.go (T := tt) tt_ok rfl rfl ?sd4 ?_); (try (case sd4 => (repeat' (first | exact trivial | exact zA | with_reducible refine zI ?_ ?_ | exact zB | exact zC | exact zD | exact zE | rfl | exact zN rfl | omega | assumption | (simp; done) | (simp [splice]; done) | (simp; omega) | (unfold fits; omega) | (unfold fits; simp_all; omega) | (simp_all; omega) | (simp_all; done) | intro _)))); try (refine L.nil ?_))
    ((repeat refine S.seq ?_); refine S.region (L.go (T := tt) tt_ok rfl rfl ?sd5 ?_); (try (case sd5 => (repeat' (first | exact trivial | exact zA | with_reducible refine zI ?_ ?_ | exact zB | exact zC | exact zD | exact zE | rfl | exact zN rfl | omega | assumption | (simp; done) | (simp [splice]; done) | (simp; omega) | (unfold fits; omega) | (unfold fits; simp_all; omega) | (simp_all; omega) | (simp_all; done) | intro _)))); try (refine L.nil ?_))
    refine L.callP rfl rfl rfl rfl rfl rfl rfl ⟨trivial, by (repeat' (first | exact trivial | exact zA | with_reducible refine zI ?_ ?_ | exact zB | exact zC | exact zD | exact zE | rfl | exact zN rfl | omega | assumption | (simp; done) | (simp [splice]; done) | (simp; omega) | (unfold fits; omega) | (unfold fits; simp_all; omega) | (simp_all; omega) | (simp_all; done) | intro _))⟩ hf (Imps.refl (.agg (g k) :: caps)) (hp k (by omega)) (L.nil ?_)
    refine S.cond rfl (fun hb => ?_) (fun hb => S.skip ?_)
    · ((repeat refine S.seq ?_); refine S.region (L.go (T := tt) tt_ok rfl rfl ?sd6 ?_); (try (case sd6 => (repeat' (first | exact trivial | exact zA | with_reducible refine zI ?_ ?_ | exact zB | exact zC | exact zD | exact zE | rfl | exact zN rfl | omega | assumption | (simp; done) | (simp [splice]; done) | (simp; omega) | (unfold fits; omega) | (unfold fits; simp_all; omega) | (simp_all; omega) | (simp_all; done) | intro _)))); try (refine L.nil ?_))
      refine S.ret (E.retP (T := tt) tt_ok rfl rfl (by (repeat' (first | exact trivial | exact zA | with_reducible refine zI ?_ ?_ | exact zB | exact zC | exact zD | exact zE | rfl | exact zN rfl | omega | assumption | (simp; done) | (simp [splice]; done) | (simp; omega) | (unfold fits; omega) | (unfold fits; simp_all; omega) | (simp_all; omega) | (simp_all; done) | intro _))) (Imp.of_eq ?_))
      rw [pidx_some (by omega) hb hno]
      rfl
    · ((repeat refine S.seq ?_); refine S.region (L.go (T := tt) tt_ok rfl rfl ?sd7 ?_); (try (case sd7 => (repeat' (first | exact trivial | exact zA | with_reducible refine zI ?_ ?_ | exact zB | exact zC | exact zD | exact zE | rfl | exact zN rfl | omega | assumption | (simp; done) | (simp [splice]; done) | (simp; omega) | (unfold fits; omega) | (unfold fits; simp_all; omega) | (simp_all; omega) | (simp_all; done) | intro _)))); try (refine L.nil ?_))
      exact fun a w hR => ⟨⟨k + 1, by omega, fun j hj => by rcases Nat.lt_or_ge j k with h | h; exact hno j h; (have : j = k := by omega); subst this; exact hb⟩, by simp only; omega, hR.weak (by (repeat' (first | exact True.intro | exact Imp.refl _ | refine ⟨?_, ?_⟩))) (List.Sublist.refl _)⟩
  · have h := of_dec' h
    ((repeat refine S.seq ?_); refine S.region (L.go (T := tt) tt_ok rfl rfl ?sd8 ?_); (try (case sd8 => (repeat' (first | exact trivial | exact zA | with_reducible refine zI ?_ ?_ | exact zB | exact zC | exact zD | exact zE | rfl | exact zN rfl | omega | assumption | (simp; done) | (simp [splice]; done) | (simp; omega) | (unfold fits; omega) | (unfold fits; simp_all; omega) | (simp_all; omega) | (simp_all; done) | intro _)))); try (refine L.nil ?_))
    refine S.ret (E.retP (T := tt) tt_ok rfl rfl (by (repeat' (first | exact trivial | exact zA | with_reducible refine zI ?_ ?_ | exact zB | exact zC | exact zD | exact zE | rfl | exact zN rfl | omega | assumption | (simp; done) | (simp [splice]; done) | (simp; omega) | (unfold fits; omega) | (unfold fits; simp_all; omega) | (simp_all; omega) | (simp_all; done) | intro _))) (Imp.of_eq ?_))
    rw [pidx_none (fun j hj => hno j (by omega))]
    rfl

end Go.Proofs.Ytgnklbdbglnmaaa

/- slices.IndexFunc, on abstract values. -/
namespace Go.Proofs.Ytgnklbdbglnmaaa
set_option linter.unusedVariables false
set_option linter.unusedSimpArgs false
set_option maxHeartbeats 8000000
open Go.RowKit
set_option maxRecDepth 4000

theorem IdxHeld {n f : Nat} {g : Nat → List AV} {caps : List AV} (p : Nat → Bool) (hf : callable Try.prog f = true) (hl : ∀ i, i < n → (g i).length = 6) (hp : ∀ i, i < n → PFn Try.prog f (.agg (g i) :: caps) (.v (.bool (p i)))) :
    PFn Try.prog 87 [.lst 6 n g, .fn (.func f) caps] (.v (.int .i64 (pidx p n))) := by
  refine FnC.intro Try.func87 rfl Try.ntmps87 rfl ?_; intro off w0
  refine lenAt (sz := 6) (n := n) (g := g) 0 rfl fun hn => ?_
  ((repeat refine S.seq ?_); refine S.region (L.go (T := tt) tt_ok rfl rfl ?sd9 ?_); (try (case sd9 => (repeat' (first | exact trivial | exact zA | with_reducible refine zI ?_ ?_ | exact zB | exact zC | exact zD | exact zE | rfl | exact zN rfl | omega | assumption | (simp; done) | (simp [splice]; done) | (simp; omega) | (unfold fits; omega) | (unfold fits; simp_all; omega) | (simp_all; omega) | (simp_all; done) | intro _)))); try (refine L.nil ?_))
  ((repeat refine S.seq ?_); refine S.region (L.go (T := tt) tt_ok rfl rfl ?sd10 ?_); (try (case sd10 => (repeat' (first | exact trivial | exact zA | with_reducible refine zI ?_ ?_ | exact zB | exact zC | exact zD | exact zE | rfl | exact zN rfl | omega | assumption | (simp; done) | (simp [splice]; done) | (simp; omega) | (unfold fits; omega) | (unfold fits; simp_all; omega) | (simp_all; omega) | (simp_all; done) | intro _)))); try (refine L.nil ?_))
  refine S.block (S.loop (ι := { k : Nat // k ≤ n ∧ ∀ j, j < k → p j = false }) (fun k => [(8, .v (.int .i64 k.1)), (7, .v (.int .i64 n)), (1, .fn (.func f) caps), (0, .lst 6 n g)]) (fun _ => []) (fun k => n - k.1) ?_ ?_)
  · exact fun a w h => ⟨⟨0, Nat.zero_le _, fun j hj => absurd hj (by omega)⟩, h.weak (by (repeat' (first | exact True.intro | exact Imp.refl _ | refine ⟨?_, ?_⟩))) (List.Sublist.refl _)⟩
  rintro ⟨k, hk, hno⟩
  dsimp only
  ((repeat refine S.seq ?_); refine S.region (L.go (T := tt) tt_ok rfl rfl ?sd11 ?_); (try (case sd11 => (repeat' (first | exact trivial | exact zA | with_reducible refine zI ?_ ?_ | exact zB | exact zC | exact zD | exact zE | rfl | exact zN rfl | omega | assumption | (simp; done) | (simp [splice]; done) | (simp; omega) | (unfold fits; omega) | (unfold fits; simp_all; omega) | (simp_all; omega) | (simp_all; done) | intro _)))); try (refine L.nil ?_))
  refine S.seq (S.cond rfl (fun h => S.skip ?_) (fun h => S.exit ?_))
  · have h := of_dec h
    have hlk := hl k (by omega)
    refine S.seq (S.block ?_)
    ((repeat refine S.seq ?_); refine S.region (L.go (T := tt) tt_ok rfl rfl ?sd12 ?_); (try (case sd12 => (repeat' (first | exact trivial | exact zA | with_reducible refine zI ?_ ?_ | exact zB | exact zC | exact zD | exact zE | rfl | exact zN rfl | omega | assumption | (simp; done) | (simp [splice]; done) | (simp; omega) | (unfold fits; omega) | (unfold fits; simp_all; omega) | (simp_all; omega) | (simp_all; done) | intro _)))); try (refine L.nil ?_))
    ((repeat refine S.seq ?_); refine S.region (L.go (T := tt) tt_ok rfl rfl ?sd13 ?_); (try (case sd13 => (repeat' (first | exact trivial | exact zA | with_reducible refine zI ?_ ?_ | exact zB | exact zC | exact zD | exact zE | rfl | exact zN rfl | omega | assumption | (simp; done) | (simp [splice]; done) | (simp; omega) | (unfold fits; omega) | (unfold fits; simp_all; omega) | (simp_all; omega) | (simp_all; done) | intro _)))); try (refine L.nil ?_))
    refine L.callP rfl rfl rfl rfl rfl rfl rfl ⟨trivial, by (repeat' (first | exact trivial | exact zA | with_reducible refine zI ?_ ?_ | exact zB | exact zC | exact zD | exact zE | rfl | exact zN rfl | omega | assumption | (simp; done) | (simp [splice]; done) | (simp; omega) | (unfold fits; omega) | (unfold fits; simp_all; omega) | (simp_all; omega) | (simp_all; done) | intro _))⟩ hf (Imps.refl (.agg (g k) :: caps)) (hp k (by omega)) (L.nil ?_)
    refine S.cond rfl (fun hb => ?_) (fun hb => S.skip ?_)
    · ((repeat refine S.seq ?_); refine S.region (L.go (T := tt) tt_ok rfl rfl ?sd14 ?_); (try (case sd14 => (repeat' (first | exact trivial | exact zA | with_reducible refine zI ?_ ?_ | exact zB | exact zC | exact zD | exact zE | rfl | exact zN rfl | omega | assumption | (simp; done) | (simp [splice]; done) | (simp; omega) | (unfold fits; omega) | (unfold fits; simp_all; omega) | (simp_all; omega) | (simp_all; done) | intro _)))); try (refine L.nil ?_))
      refine S.ret (E.retP (T := tt) tt_ok rfl rfl (by (repeat' (first | exact trivial | exact zA | with_reducible refine zI ?_ ?_ | exact zB | exact zC | exact zD | exact zE | rfl | exact zN rfl | omega | assumption | (simp; done) | (simp [splice]; done) | (simp; omega) | (unfold fits; omega) | (unfold fits; simp_all; omega) | (simp_all; omega) | (simp_all; done) | intro _))) (Imp.of_eq ?_))
      rw [pidx_some (by omega) hb hno]
      rfl
    · ((repeat refine S.seq ?_); refine S.region (L.go (T := tt) tt_ok rfl rfl ?sd15 ?_); (try (case sd15 => (repeat' (first | exact trivial | exact zA | with_reducible refine zI ?_ ?_ | exact zB | exact zC | exact zD | exact zE | rfl | exact zN rfl | omega | assumption | (simp; done) | (simp [splice]; done) | (simp; omega) | (unfold fits; omega) | (unfold fits; simp_all; omega) | (simp_all; omega) | (simp_all; done) | intro _)))); try (refine L.nil ?_))
      exact fun a w hR => ⟨⟨k + 1, by omega, fun j hj => by rcases Nat.lt_or_ge j k with h | h; exact hno j h; (have : j = k := by omega); subst this; exact hb⟩, by simp only; omega, hR.weak (by (repeat' (first | exact True.intro | exact Imp.refl _ | refine ⟨?_, ?_⟩))) (List.Sublist.refl _)⟩
  · have h := of_dec' h
    ((repeat refine S.seq ?_); refine S.region (L.go (T := tt) tt_ok rfl rfl ?sd16 ?_); (try (case sd16 => (repeat' (first | exact trivial | exact zA | with_reducible refine zI ?_ ?_ | exact zB | exact zC | exact zD | exact zE | rfl | exact zN rfl | omega | assumption | (simp; done) | (simp [splice]; done) | (simp; omega) | (unfold fits; omega) | (unfold fits; simp_all; omega) | (simp_all; omega) | (simp_all; done) | intro _)))); try (refine L.nil ?_))
    refine S.ret (E.retP (T := tt) tt_ok rfl rfl (by (repeat' (first | exact trivial | exact zA | with_reducible refine zI ?_ ?_ | exact zB | exact zC | exact zD | exact zE | rfl | exact zN rfl | omega | assumption | (simp; done) | (simp [splice]; done) | (simp; omega) | (unfold fits; omega) | (unfold fits; simp_all; omega) | (simp_all; omega) | (simp_all; done) | intro _))) (Imp.of_eq ?_))
    rw [pidx_none (fun j hj => hno j (by omega))]
    rfl

end Go.Proofs.Ytgnklbdbglnmaaa

/- slices.Clone, on abstract values. -/
namespace Go.Proofs.Ytgnklbdbglnmaaa
set_option linter.unusedVariables false
set_option linter.unusedSimpArgs false
set_option maxHeartbeats 8000000
open Go.RowKit
set_option maxRecDepth 4000

theorem ClnMsg {n : Nat} {g : Nat → List AV} (hb : n * 56 ≤ 140737488355328) (id : Nat) :
    FnC Try.prog 84 [.lst 5 n g] [] (fun r F' => ∃ x, r = .ref id x ∧ F' = [(id, .own x 46 5 n g)]) := by
  refine FnC.intro Try.func84 rfl Try.ntmps84 rfl ?_; intro off w0
  ((repeat refine S.seq ?_); refine S.region (L.go (T := tt) tt_ok rfl rfl ?sd17 ?_); (try (case sd17 => (repeat' (first | exact trivial | exact zA | with_reducible refine zI ?_ ?_ | exact zB | exact zC | exact zD | exact zE | rfl | exact zN rfl | omega | assumption | (simp; done) | (simp [splice]; done) | (simp; omega) | (unfold fits; omega) | (unfold fits; simp_all; omega) | (simp_all; omega) | (simp_all; done) | intro _)))); try (refine L.nil ?_))
  repeat refine S.seq ?_
  refine S.region (L.run (T := tt) 1 tt_ok rfl rfl (by (repeat' (first | exact trivial | exact zA | with_reducible refine zI ?_ ?_ | exact zB | exact zC | exact zD | exact zE | rfl | exact zN rfl | omega | assumption | (simp; done) | (simp [splice]; done) | (simp; omega) | (unfold fits; omega) | (unfold fits; simp_all; omega) | (simp_all; omega) | (simp_all; done) | intro _))) ?_)
  refine L.isNil (T := tt) tt_ok rfl rfl rfl rfl rfl rfl trivial fun b h0 => L.nil ?_
  ((repeat refine S.seq ?_); refine S.cond rfl (fun h => ?_) (fun h => ?_) <;> (try first | refine S.skip ?_ | refine S.exit ?_))
  · ((repeat refine S.seq ?_); refine S.region (L.go (T := tt) tt_ok rfl rfl ?sd18 ?_); (try (case sd18 => (repeat' (first | exact trivial | exact zA | with_reducible refine zI ?_ ?_ | exact zB | exact zC | exact zD | exact zE | rfl | exact zN rfl | omega | assumption | (simp; done) | (simp [splice]; done) | (simp; omega) | (unfold fits; omega) | (unfold fits; simp_all; omega) | (simp_all; omega) | (simp_all; done) | intro _)))); try (refine L.nil ?_))
    have hn := h0 h
    subst hn
    exact S.ret (nilRow id 46 5 g (E.ret (T := tt) tt_ok rfl rfl (by (repeat' (first | exact trivial | exact zA | with_reducible refine zI ?_ ?_ | exact zB | exact zC | exact zD | exact zE | rfl | exact zN rfl | omega | assumption | (simp; done) | (simp [splice]; done) | (simp; omega) | (unfold fits; omega) | (unfold fits; simp_all; omega) | (simp_all; omega) | (simp_all; done) | intro _))) (Imp.vref rfl) (List.Sublist.refl _) ⟨_, rfl, rfl⟩))
  · repeat refine S.seq ?_
    refine S.region (L.buildSlice (T := tt) 0 tt_ok rfl rfl rfl rfl rfl rfl (by decide) (by decide) rfl rfl (by (repeat' (first | exact trivial | exact zA | with_reducible refine zI ?_ ?_ | exact zB | exact zC | exact zD | exact zE | rfl | exact zN rfl | omega | assumption | (simp; done) | (simp [splice]; done) | (simp; omega) | (unfold fits; omega) | (unfold fits; simp_all; omega) | (simp_all; omega) | (simp_all; done) | intro _))) fun x => ?_)
    refine L.run (T := tt) 1 tt_ok rfl rfl (by (repeat' (first | exact trivial | exact zA | with_reducible refine zI ?_ ?_ | exact zB | exact zC | exact zD | exact zE | rfl | exact zN rfl | omega | assumption | (simp; done) | (simp [splice]; done) | (simp; omega) | (unfold fits; omega) | (unfold fits; simp_all; omega) | (simp_all; omega) | (simp_all; done) | intro _))) ?_
    refine L.append (T := tt) tt_ok rfl rfl rfl rfl rfl rfl rfl rfl rfl rfl (by (repeat' (first | exact trivial | exact zA | with_reducible refine zI ?_ ?_ | exact zB | exact zC | exact zD | exact zE | rfl | exact zN rfl | omega | assumption | (simp; done) | (simp [splice]; done) | (simp; omega) | (unfold fits; omega) | (unfold fits; simp_all; omega) | (simp_all; omega) | (simp_all; done) | intro _))) ⟨rfl, by decide, by decide⟩ (by simpa using hb) fun x1 => ?_
    (refine L.go (T := tt) tt_ok rfl rfl ?sd19 ?_; (try (case sd19 => (repeat' (first | exact trivial | exact zA | with_reducible refine zI ?_ ?_ | exact zB | exact zC | exact zD | exact zE | rfl | exact zN rfl | omega | assumption | (simp; done) | (simp [splice]; done) | (simp; omega) | (unfold fits; omega) | (unfold fits; simp_all; omega) | (simp_all; omega) | (simp_all; done) | intro _)))); try (refine L.nil ?_))
    refine S.ret (rowsEq [(0, .own x1 46 5 n g)] (by simp [setF, joinG_zero]) (renum [(id, .own x1 46 5 n g)] 2 (.ref id x1) rfl rfl Imp.ref ?_))
    exact E.ret (T := tt) tt_ok rfl rfl (by (repeat' (first | exact trivial | exact zA | with_reducible refine zI ?_ ?_ | exact zB | exact zC | exact zD | exact zE | rfl | exact zN rfl | omega | assumption | (simp; done) | (simp [splice]; done) | (simp; omega) | (unfold fits; omega) | (unfold fits; simp_all; omega) | (simp_all; omega) | (simp_all; done) | intro _))) (Imp.refl _) (List.Sublist.refl _) ⟨_, rfl, rfl⟩

end Go.Proofs.Ytgnklbdbglnmaaa

/- slices.Clone, on abstract values. -/
namespace Go.Proofs.Ytgnklbdbglnmaaa
set_option linter.unusedVariables false
set_option linter.unusedSimpArgs false
set_option maxHeartbeats 8000000
open Go.RowKit
set_option maxRecDepth 4000

theorem ClnHeld {n : Nat} {g : Nat → List AV} (hb : n * 64 ≤ 140737488355328) (id : Nat) :
    FnC Try.prog 85 [.lst 6 n g] [] (fun r F' => ∃ x, r = .ref id x ∧ F' = [(id, .own x 53 6 n g)]) := by
  refine FnC.intro Try.func85 rfl Try.ntmps85 rfl ?_; intro off w0
  ((repeat refine S.seq ?_); refine S.region (L.go (T := tt) tt_ok rfl rfl ?sd20 ?_); (try (case sd20 => (repeat' (first | exact trivial | exact zA | with_reducible refine zI ?_ ?_ | exact zB | exact zC | exact zD | exact zE | rfl | exact zN rfl | omega | assumption | (simp; done) | (simp [splice]; done) | (simp; omega) | (unfold fits; omega) | (unfold fits; simp_all; omega) | (simp_all; omega) | (simp_all; done) | intro _)))); try (refine L.nil ?_))
  repeat refine S.seq ?_
  refine S.region (L.run (T := tt) 1 tt_ok rfl rfl (by (repeat' (first | exact trivial | exact zA | with_reducible refine zI ?_ ?_ | exact zB | exact zC | exact zD | exact zE | rfl | exact zN rfl | omega | assumption | (simp; done) | (simp [splice]; done) | (simp; omega) | (unfold fits; omega) | (unfold fits; simp_all; omega) | (simp_all; omega) | (simp_all; done) | intro _))) ?_)
  refine L.isNil (T := tt) tt_ok rfl rfl rfl rfl rfl rfl trivial fun b h0 => L.nil ?_
  ((repeat refine S.seq ?_); refine S.cond rfl (fun h => ?_) (fun h => ?_) <;> (try first | refine S.skip ?_ | refine S.exit ?_))
  · ((repeat refine S.seq ?_); refine S.region (L.go (T := tt) tt_ok rfl rfl ?sd21 ?_); (try (case sd21 => (repeat' (first | exact trivial | exact zA | with_reducible refine zI ?_ ?_ | exact zB | exact zC | exact zD | exact zE | rfl | exact zN rfl | omega | assumption | (simp; done) | (simp [splice]; done) | (simp; omega) | (unfold fits; omega) | (unfold fits; simp_all; omega) | (simp_all; omega) | (simp_all; done) | intro _)))); try (refine L.nil ?_))
    have hn := h0 h
    subst hn
    exact S.ret (nilRow id 53 6 g (E.ret (T := tt) tt_ok rfl rfl (by (repeat' (first | exact trivial | exact zA | with_reducible refine zI ?_ ?_ | exact zB | exact zC | exact zD | exact zE | rfl | exact zN rfl | omega | assumption | (simp; done) | (simp [splice]; done) | (simp; omega) | (unfold fits; omega) | (unfold fits; simp_all; omega) | (simp_all; omega) | (simp_all; done) | intro _))) (Imp.vref rfl) (List.Sublist.refl _) ⟨_, rfl, rfl⟩))
  · repeat refine S.seq ?_
    refine S.region (L.buildSlice (T := tt) 0 tt_ok rfl rfl rfl rfl rfl rfl (by decide) (by decide) rfl rfl (by (repeat' (first | exact trivial | exact zA | with_reducible refine zI ?_ ?_ | exact zB | exact zC | exact zD | exact zE | rfl | exact zN rfl | omega | assumption | (simp; done) | (simp [splice]; done) | (simp; omega) | (unfold fits; omega) | (unfold fits; simp_all; omega) | (simp_all; omega) | (simp_all; done) | intro _))) fun x => ?_)
    refine L.run (T := tt) 1 tt_ok rfl rfl (by (repeat' (first | exact trivial | exact zA | with_reducible refine zI ?_ ?_ | exact zB | exact zC | exact zD | exact zE | rfl | exact zN rfl | omega | assumption | (simp; done) | (simp [splice]; done) | (simp; omega) | (unfold fits; omega) | (unfold fits; simp_all; omega) | (simp_all; omega) | (simp_all; done) | intro _))) ?_
    refine L.append (T := tt) tt_ok rfl rfl rfl rfl rfl rfl rfl rfl rfl rfl (by (repeat' (first | exact trivial | exact zA | with_reducible refine zI ?_ ?_ | exact zB | exact zC | exact zD | exact zE | rfl | exact zN rfl | omega | assumption | (simp; done) | (simp [splice]; done) | (simp; omega) | (unfold fits; omega) | (unfold fits; simp_all; omega) | (simp_all; omega) | (simp_all; done) | intro _))) ⟨rfl, by decide, by decide⟩ (by simpa using hb) fun x1 => ?_
    (refine L.go (T := tt) tt_ok rfl rfl ?sd22 ?_; (try (case sd22 => (repeat' (first | exact trivial | exact zA | with_reducible refine zI ?_ ?_ | exact zB | exact zC | exact zD | exact zE | rfl | exact zN rfl | omega | assumption | (simp; done) | (simp [splice]; done) | (simp; omega) | (unfold fits; omega) | (unfold fits; simp_all; omega) | (simp_all; omega) | (simp_all; done) | intro _)))); try (refine L.nil ?_))
    refine S.ret (rowsEq [(0, .own x1 53 6 n g)] (by simp [setF, joinG_zero]) (renum [(id, .own x1 53 6 n g)] 2 (.ref id x1) rfl rfl Imp.ref ?_))
    exact E.ret (T := tt) tt_ok rfl rfl (by (repeat' (first | exact trivial | exact zA | with_reducible refine zI ?_ ?_ | exact zB | exact zC | exact zD | exact zE | rfl | exact zN rfl | omega | assumption | (simp; done) | (simp [splice]; done) | (simp; omega) | (unfold fits; omega) | (unfold fits; simp_all; omega) | (simp_all; omega) | (simp_all; done) | intro _))) (Imp.refl _) (List.Sublist.refl _) ⟨_, rfl, rfl⟩

end Go.Proofs.Ytgnklbdbglnmaaa

/- slices.Clone, on abstract values. -/
namespace Go.Proofs.Ytgnklbdbglnmaaa
set_option linter.unusedVariables false
set_option linter.unusedSimpArgs false
set_option maxHeartbeats 8000000
open Go.RowKit
set_option maxRecDepth 4000

theorem ClnMark {n : Nat} {g : Nat → List AV} (hb : n * 32 ≤ 140737488355328) (id : Nat) :
    FnC Try.prog 86 [.lst 3 n g] [] (fun r F' => ∃ x, r = .ref id x ∧ F' = [(id, .own x 82 3 n g)]) := by
  refine FnC.intro Try.func86 rfl Try.ntmps86 rfl ?_; intro off w0
  ((repeat refine S.seq ?_); refine S.region (L.go (T := tt) tt_ok rfl rfl ?sd23 ?_); (try (case sd23 => (repeat' (first | exact trivial | exact zA | with_reducible refine zI ?_ ?_ | exact zB | exact zC | exact zD | exact zE | rfl | exact zN rfl | omega | assumption | (simp; done) | (simp [splice]; done) | (simp; omega) | (unfold fits; omega) | (unfold fits; simp_all; omega) | (simp_all; omega) | (simp_all; done) | intro _)))); try (refine L.nil ?_))
  repeat refine S.seq ?_
  refine S.region (L.run (T := tt) 1 tt_ok rfl rfl (by (repeat' (first | exact trivial | exact zA | with_reducible refine zI ?_ ?_ | exact zB | exact zC | exact zD | exact zE | rfl | exact zN rfl | omega | assumption | (simp; done) | (simp [splice]; done) | (simp; omega) | (unfold fits; omega) | (unfold fits; simp_all; omega) | (simp_all; omega) | (simp_all; done) | intro _))) ?_)
  refine L.isNil (T := tt) tt_ok rfl rfl rfl rfl rfl rfl trivial fun b h0 => L.nil ?_
  ((repeat refine S.seq ?_); refine S.cond rfl (fun h => ?_) (fun h => ?_) <;> (try first | refine S.skip ?_ | refine S.exit ?_))
  · ((repeat refine S.seq ?_); refine S.region (L.go (T := tt) tt_ok rfl rfl ?sd24 ?_); (try (case sd24 => (repeat' (first | exact trivial | exact zA | with_reducible refine zI ?_ ?_ | exact zB | exact zC | exact zD | exact zE | rfl | exact zN rfl | omega | assumption | (simp; done) | (simp [splice]; done) | (simp; omega) | (unfold fits; omega) | (unfold fits; simp_all; omega) | (simp_all; omega) | (simp_all; done) | intro _)))); try (refine L.nil ?_))
    have hn := h0 h
    subst hn
    exact S.ret (nilRow id 82 3 g (E.ret (T := tt) tt_ok rfl rfl (by (repeat' (first | exact trivial | exact zA | with_reducible refine zI ?_ ?_ | exact zB | exact zC | exact zD | exact zE | rfl | exact zN rfl | omega | assumption | (simp; done) | (simp [splice]; done) | (simp; omega) | (unfold fits; omega) | (unfold fits; simp_all; omega) | (simp_all; omega) | (simp_all; done) | intro _))) (Imp.vref rfl) (List.Sublist.refl _) ⟨_, rfl, rfl⟩))
  · repeat refine S.seq ?_
    refine S.region (L.buildSlice (T := tt) 0 tt_ok rfl rfl rfl rfl rfl rfl (by decide) (by decide) rfl rfl (by (repeat' (first | exact trivial | exact zA | with_reducible refine zI ?_ ?_ | exact zB | exact zC | exact zD | exact zE | rfl | exact zN rfl | omega | assumption | (simp; done) | (simp [splice]; done) | (simp; omega) | (unfold fits; omega) | (unfold fits; simp_all; omega) | (simp_all; omega) | (simp_all; done) | intro _))) fun x => ?_)
    refine L.run (T := tt) 1 tt_ok rfl rfl (by (repeat' (first | exact trivial | exact zA | with_reducible refine zI ?_ ?_ | exact zB | exact zC | exact zD | exact zE | rfl | exact zN rfl | omega | assumption | (simp; done) | (simp [splice]; done) | (simp; omega) | (unfold fits; omega) | (unfold fits; simp_all; omega) | (simp_all; omega) | (simp_all; done) | intro _))) ?_
    refine L.append (T := tt) tt_ok rfl rfl rfl rfl rfl rfl rfl rfl rfl rfl (by (repeat' (first | exact trivial | exact zA | with_reducible refine zI ?_ ?_ | exact zB | exact zC | exact zD | exact zE | rfl | exact zN rfl | omega | assumption | (simp; done) | (simp [splice]; done) | (simp; omega) | (unfold fits; omega) | (unfold fits; simp_all; omega) | (simp_all; omega) | (simp_all; done) | intro _))) ⟨rfl, by decide, by decide⟩ (by simpa using hb) fun x1 => ?_
    (refine L.go (T := tt) tt_ok rfl rfl ?sd25 ?_; (try (case sd25 => (repeat' (first | exact trivial | exact zA | with_reducible refine zI ?_ ?_ | exact zB | exact zC | exact zD | exact zE | rfl | exact zN rfl | omega | assumption | (simp; done) | (simp [splice]; done) | (simp; omega) | (unfold fits; omega) | (unfold fits; simp_all; omega) | (simp_all; omega) | (simp_all; done) | intro _)))); try (refine L.nil ?_))
    refine S.ret (rowsEq [(0, .own x1 82 3 n g)] (by simp [setF, joinG_zero]) (renum [(id, .own x1 82 3 n g)] 2 (.ref id x1) rfl rfl Imp.ref ?_))
    exact E.ret (T := tt) tt_ok rfl rfl (by (repeat' (first | exact trivial | exact zA | with_reducible refine zI ?_ ?_ | exact zB | exact zC | exact zD | exact zE | rfl | exact zN rfl | omega | assumption | (simp; done) | (simp [splice]; done) | (simp; omega) | (unfold fits; omega) | (unfold fits; simp_all; omega) | (simp_all; omega) | (simp_all; done) | intro _))) (Imp.refl _) (List.Sublist.refl _) ⟨_, rfl, rfl⟩

end Go.Proofs.Ytgnklbdbglnmaaa

/- Messages, marks, held ones, shards, as abstract values. -/
namespace Go.Proofs.Ytgnklbdbglnmaaa
set_option linter.unusedVariables false
set_option linter.unusedSimpArgs false
set_option maxHeartbeats 8000000
open Go.RowKit

structure Msg where
  pub : Int
  seq : Int
  key : ByteArray
  body : ByteArray
  again : Bool
  deriving DecidableEq
instance : Inhabited Msg := ⟨⟨0, 0, ByteArray.empty, ByteArray.empty, false⟩⟩
def Msg.cells (m : Msg) : List AV := [.v (.int .i64 m.pub), .v (.int .i64 m.seq), .v (.string m.key), .v (.string m.body), .v (.bool m.again)]
def Msg.av (m : Msg) : AV := .agg m.cells

structure Mark where
  pub : Int
  key : ByteArray
  seq : Int
  deriving DecidableEq
instance : Inhabited Mark := ⟨⟨0, ByteArray.empty, 0⟩⟩
def Mark.cells (m : Mark) : List AV := [.v (.int .i64 m.pub), .v (.string m.key), .v (.int .i64 m.seq)]
def Mark.av (m : Mark) : AV := .agg m.cells

structure Held where
  tag : Int
  m : Msg
  deriving DecidableEq
instance : Inhabited Held := ⟨⟨0, default⟩⟩
def Held.cells (h : Held) : List AV := [.v (.int .i64 h.tag), .v (.int .i64 h.m.pub), .v (.int .i64 h.m.seq), .v (.string h.m.key), .v (.string h.m.body), .v (.bool h.m.again)]
def Held.av (h : Held) : AV := .agg h.cells

/-- The elements of a list, by place. -/
def gOf {α : Type} [Inhabited α] (f : α → List AV) (l : List α) (i : Nat) : List AV := f (l.getD i default)
def msgs (l : List Msg) : AV := .lst 5 l.length (gOf Msg.cells l)
def marksA (l : List Mark) : AV := .lst 3 l.length (gOf Mark.cells l)
def helds (l : List Held) : AV := .lst 6 l.length (gOf Held.cells l)

structure Shard where
  frozen : Bool
  next : Int
  ready : List Msg
  held : List Held
  marks : List Mark
  deriving DecidableEq
def Shard.cells (s : Shard) : List AV := [.v (.bool s.frozen), .v (.int .i64 s.next), msgs s.ready, helds s.held, marksA s.marks]
def Shard.av (s : Shard) : AV := .agg s.cells

theorem gOf_eq {α : Type} [Inhabited α] {f : α → List AV} {l : List α} {i : Nat} {x : α} (h : l[i]? = some x) : gOf f l i = f x := by simp [gOf, List.getD_eq_getElem?_getD, h]

/-- Numbers and texts that a value may have. -/
def fitI (z : Int) : Prop := -9223372036854775808 ≤ z ∧ z ≤ 9223372036854775807
def fitS (b : ByteArray) : Prop := b.size ≤ 9223372036854775807
structure Msg.ok (m : Msg) : Prop where
  pub : fitI m.pub
  seq : fitI m.seq
  key : fitS m.key
  body : fitS m.body
structure Mark.ok (m : Mark) : Prop where
  pub : fitI m.pub
  key : fitS m.key
  seq : fitI m.seq
structure Held.ok (h : Held) : Prop where
  tag : fitI h.tag
  m : h.m.ok
structure Shard.ok (s : Shard) : Prop where
  next : fitI s.next
  ready : ∀ m ∈ s.ready, m.ok
  held : ∀ m ∈ s.held, m.ok
  marks : ∀ m ∈ s.marks, m.ok

/-- 12.1: a message that may be. -/
def mayMsg (m : Msg) : Bool := decide (m.pub ≥ 0) && decide (m.pub < 4) && decide (m.seq ≥ 1) && decide (m.seq ≤ 1073741824) && decide ((m.key.size : Int) ≥ 1) && decide ((m.key.size : Int) ≤ 20) && decide ((m.body.size : Int) ≤ 200)

theorem eqMsg_law (a b : Msg) : (a = b) ↔ a.pub = b.pub ∧ a.seq = b.seq ∧ a.key = b.key ∧ a.body = b.body ∧ a.again = b.again := by
  cases a; cases b; simp

end Go.Proofs.Ytgnklbdbglnmaaa

/- Keys of maps. -/
namespace Go.Proofs.Ytgnklbdbglnmaaa
set_option linter.unusedVariables false
set_option linter.unusedSimpArgs false
set_option maxHeartbeats 8000000
open Go.RowKit
open Go.Maps (Keyed)
set_option maxRecDepth 20000

theorem laid : laidOutB Try.prog = true := by kernel_rfl
theorem kStr : Keyed Try.prog 9 := Go.Maps.string_keyed (by kernel_rfl)
theorem rowName : Nat.blt 93 Try.prog.types.size = true := by kernel_rfl
theorem sizeT : ∃ m, Try.prog.types.size = m + 1 := by
  have h := of_blt rowName
  generalize Try.prog.types.size = n at h ⊢
  exact ⟨n - 1, by omega⟩
theorem kName : Keyed Try.prog 93 := Keyed.of_law (deep_law_laid laid (m := 2) (by omega) (of_blt rowName) (by kernel_rfl) (by kernel_rfl))

theorem kStr_ok {b : ByteArray} (h : fitS b) : kOf Try.prog 9 (.string b) = true := by
  have hu : Try.prog.underlying 9 = some .string := by kernel_rfl
  simp only [kOf, keyOf, hu, mapKey, fitS] at h ⊢
  simp [maxLen, show b.size ≤ 2 ^ 63 - 1 by omega]

def nameV (pub : Int) (key : ByteArray) : Value := .agg #[.int .i64 pub, .string key]
theorem nameV_inj {p q : Int} {a b : ByteArray} : nameV p a = nameV q b ↔ p = q ∧ a = b := by simp [nameV]

theorem keyT : Try.prog.keyType 93 = true := by kernel_rfl
theorem cellsT : Try.prog.cellsOf 93 = 2 := by kernel_rfl
theorem cellsI : Try.prog.cellsOf 3 = 1 := by kernel_rfl
theorem cellsS : Try.prog.cellsOf 9 = 1 := by kernel_rfl

theorem kName_ok {p : Int} {b : ByteArray} (hp : fitI p) (h : fitS b) : kOf Try.prog 93 (nameV p b) = true := by
  have hs : Try.prog.underlying 9 = some .string := by kernel_rfl
  have hi : Try.prog.underlying 3 = some (.int .i64) := by kernel_rfl
  obtain ⟨l, hu, hfs⟩ := (TOk.told (P := Try.prog) (T := tt) tt_ok (t := 93) rfl).struct rfl
  obtain ⟨m, hm⟩ := sizeT
  obtain ⟨fl⟩ := l
  match fl, hfs with
  | [f1, f2], hfs =>
    simp only [fsOk, Bool.and_eq_true, beq_iff_eq, bne_iff_ne, ne_eq] at hfs
    obtain ⟨⟨⟨⟨⟨o1, t1⟩, -⟩, -⟩, n1⟩, ⟨⟨⟨⟨o2, t2⟩, -⟩, -⟩, n2⟩, -⟩ := hfs
    have hwf : (Lit.int .i64 p).wf = true := by
      have := hp.1; have := hp.2
      simp [Lit.wf, IntKind.min, IntKind.max, IntKind.signed, IntKind.bits]
      omega
    have hsz : b.size ≤ maxLen := by unfold fitS at h; simp only [maxLen]; omega
    have hform : (nameV p b).formed Try.prog 93 = true := by
      simp [Value.formed, nameV, hu, cellsT]
    simp only [kOf, keyOf, hu, keyT, hform, Bool.and_self, if_true, hm]
    simp [Program.keyLits, hu, nameV, Value.cells, cellsT, n1, n2, o1, t1, o2, t2, cellsI, cellsS, hs, hi, hwf, hsz]

end Go.Proofs.Ytgnklbdbglnmaaa
