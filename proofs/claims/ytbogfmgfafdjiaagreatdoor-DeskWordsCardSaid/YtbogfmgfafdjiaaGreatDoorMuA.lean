/- Texts of this proof, laid together: Base, SymCore, SymTypes, SymPure, SymRead, SymReadS, SymReadT, SymPureS, SymBuild, SymStep, SymMem, SymMake, SymAppend, SymCode, SymRet. -/
import Derived.WalkKit
import Derived.WalkSpells
import Derived.WalkLawsBesides
import Derived.ScopeJumps
import Derived.Lib.Hide
import Derived.Maps.AppendAt
import Derived.Deep.QuietTactic
import Derived.BigQuiet
import Derived.OwnWalk
import Derived.Laws.IdiomCopy
import Derived.Deep.RegionLaw
import Derived.Lib.SliceRun
import Derived.Laws.AppendOwnNone
import Derived.Laws.StructEq
import Derived.Laws.Tables
/- Small facts about memory blocks, used by the walks. -/
namespace Go.Proofs.YtbogfmgfafdjiaaGreatDoor
set_option linter.unusedVariables false
set_option linter.unusedSimpArgs false
open Go.RowKit

/-- Block k of w is a row of cells of type t. -/
def Blk (w : World) (k : Nat) (cs : List Value) (t : TypeId) : Prop := w.heap[k]? = some (.cells cs.toArray t (0, 0))

theorem Blk.lt {w : World} {k : Nat} {cs : List Value} {t : TypeId} (h : Blk w k cs t) : k < w.heap.size := (Array.getElem?_eq_some_iff.1 h).1

theorem Blk.cell {w : World} {k : Nat} {cs : List Value} {t : TypeId} (h : Blk w k cs t) (i : Nat) : w.cell? ⟨k, i, none⟩ = cs[i]? := by
  unfold Blk at h; simp [World.cell?, h]

theorem Blk.frozen {w : World} {k : Nat} {cs : List Value} {t : TypeId} (h : Blk w k cs t) (i : Nat) : w.frozen? ⟨k, i, none⟩ = false := by
  unfold Blk at h; simp [World.frozen?, h]

theorem Blk.far {w : World} {k : Nat} {cs : List Value} {t : TypeId} (h : Blk w k cs t) {a : Addr} (hne : k ≠ a.block) (u : Value) : Blk (w.setCell a u) k cs t := by
  unfold Blk at *; rw [Below.heap_setCell _ _ _ _ hne]; exact h

theorem Blk.set {w : World} {k : Nat} {cs : List Value} {t : TypeId} (h : Blk w k cs t) (i : Nat) (u : Value) : Blk (w.setCell ⟨k, i, none⟩ u) k (cs.set i u) t := by
  unfold Blk at *
  simp only [World.setCell, Array.getElem?_modify, if_true, h, Option.map_some]
  simp

theorem Blk.alloc {w : World} {k : Nat} {cs : List Value} {t : TypeId} (h : Blk w k cs t) (o : Obj) : Blk (w.alloc o) k cs t := by
  have := h.lt
  unfold Blk at *; rw [Below.heap_alloc _ _ _ this]; exact h

theorem Blk.new (w : World) (cs : Array Value) (t : TypeId) : Blk (w.alloc (.cells cs t)) w.heap.size cs.toList t := by
  unfold Blk; rw [heap_alloc_new]

theorem Blk.ne {w : World} {k k' : Nat} {cs cs' : List Value} {t t' : TypeId} (h : Blk w k cs t) (h' : Blk w k' cs' t') (ht : t ≠ t') : k ≠ k' := by
  rintro rfl
  unfold Blk at *; rw [h] at h'; injection h' with h'; injection h' with _ h'; exact ht h'

/-- What a row that the program owns says of its block. -/
theorem own_set {w : World} {base : Nat} {e : TypeId} {size : Nat} {g cap n : Nat} {xs : List Value}
    (h : w.ownsRow base e size (.slice (some ⟨g, 0, none⟩) n cap) n xs) (j : Nat) (u : Value) :
    (w.setCell ⟨g, j, none⟩ u).ownsRow base e size (.slice (some ⟨g, 0, none⟩) n cap) n (xs.set j u) := by
  obtain ⟨h1, h2⟩ := h
  refine ⟨by simpa using h1, ?_⟩
  rcases h2 with ⟨h2, _⟩ | ⟨g', cap', cur, hv, hg, hh, hn, hc, hs, ht⟩
  · cases h2
  · cases hv
    refine .inr ⟨g, cap, cur.set! j u, rfl, hg, ?_, hn, hc, by simpa using hs, ?_⟩
    · have hb : Blk w g cur.toList e := by unfold Blk; simpa using hh
      have := hb.set j u
      unfold Blk at this
      rw [this]
      simp [← Array.toList_setIfInBounds]
    · rw [← ht]
      simp [List.take_set]

theorem own_far {w : World} {base : Nat} {e : TypeId} {size n : Nat} {v : Value} {xs : List Value}
    (h : w.ownsRow base e size v n xs) {a : Addr} (hne : v.ownBlock ≠ some a.block) (u : Value) : (w.setCell a u).ownsRow base e size v n xs := by
  obtain ⟨h1, h2⟩ := h
  refine ⟨h1, ?_⟩
  rcases h2 with h2 | ⟨g, cap, cur, rfl, hg, hh, r⟩
  · exact .inl h2
  · refine .inr ⟨g, cap, cur, rfl, hg, ?_, r⟩
    rw [Below.heap_setCell _ _ _ _ (by rintro rfl; exact hne rfl)]; exact hh

theorem own_blk {w : World} {base : Nat} {e : TypeId} {size n g cap : Nat} {xs : List Value}
    (h : w.ownsRow base e size (.slice (some ⟨g, 0, none⟩) n cap) n xs) : ∃ cs, Blk w g cs e ∧ cs.take (n * size) = xs ∧ cs.length = cap * size := by
  rcases h.2 with ⟨h2, _⟩ | ⟨g', cap', cur, hv, hg, hh, hn, hc, hs, ht⟩
  · cases h2
  · cases hv
    exact ⟨cur.toList, by unfold Blk; simpa using hh, ht, by simpa using hs⟩

theorem own_form {w : World} {base : Nat} {e : TypeId} {size n : Nat} {v : Value} {xs : List Value}
    (h : w.ownsRow base e size v n xs) (hn : 0 < n) : ∃ g cap, v = .slice (some ⟨g, 0, none⟩) n cap ∧ n ≤ cap ∧ base ≤ g := by
  rcases h.2 with ⟨_, h2⟩ | ⟨g, cap, cur, hv, hg, hh, hn, hc, hs, ht⟩
  · omega
  · exact ⟨g, cap, hv, hn, hg⟩

theorem own_form0 {w : World} {base : Nat} {e : TypeId} {size n : Nat} {v : Value} {xs : List Value}
    (h : w.ownsRow base e size v n xs) : ∃ A cap, v = .slice A n cap ∧ n ≤ cap ∧ cap ≤ maxLen := by
  rcases h.2 with ⟨h1, rfl⟩ | ⟨g, cap, cur, hv, hg, hh, hn, hc, hs, ht⟩
  · exact ⟨none, 0, h1, by simp, by simp⟩
  · exact ⟨_, cap, hv, hn, hc⟩

theorem own_cell {w : World} {base : Nat} {e : TypeId} {size n g cap : Nat} {xs : List Value}
    (h : w.ownsRow base e size (.slice (some ⟨g, 0, none⟩) n cap) n xs) (j : Nat) (hj : j < xs.length) : w.cell? ⟨g, j, none⟩ = xs[j]? ∧ w.frozen? ⟨g, j, none⟩ = false := by
  obtain ⟨cs, hb, ht, _⟩ := own_blk h
  refine ⟨?_, hb.frozen j⟩
  rw [hb.cell, ← ht]
  rw [← ht, List.length_take] at hj
  rw [List.getElem?_take, if_pos (by omega)]

/-- The frame of a call on a structure: which blocks may have turned. -/
structure Kept (S : Nat → Prop) (w w' : World) : Prop where
  os : w'.os = w.os
  tape : w'.tape = w.tape
  output : w'.output = w.output
  size : w.heap.size ≤ w'.heap.size
  block : ∀ k, k < w.heap.size → ¬ S k → w'.heap[k]? = w.heap[k]?

theorem Kept.refl (S : Nat → Prop) (w : World) : Kept S w w := ⟨rfl, rfl, rfl, Nat.le_refl _, fun _ _ _ => rfl⟩
theorem Kept.trans {S S' : Nat → Prop} {a b c : World} (h : Kept S a b) (k : Kept S' b c) (hs : ∀ k, k < a.heap.size → S' k → S k) : Kept S a c :=
  ⟨k.os.trans h.os, k.tape.trans h.tape, k.output.trans h.output, Nat.le_trans h.size k.size,
   fun i hi hn => (k.block i (Nat.lt_of_lt_of_le hi h.size) (fun h' => hn (hs i hi h'))).trans (h.block i hi hn)⟩
theorem Kept.mono {S S' : Nat → Prop} {a b : World} (h : Kept S a b) (hs : ∀ k, k < a.heap.size → S k → S' k) : Kept S' a b :=
  ⟨h.os, h.tape, h.output, h.size, fun i hi hn => h.block i hi (fun h' => hn (hs i hi h'))⟩
theorem Kept.of_below {S : Nat → Prop} {a b : World} (h : Below a.heap.size a b) : Kept S a b := ⟨h.os, h.tape, h.output, h.size, fun i hi _ => h.block i hi⟩
theorem Kept.below {S : Nat → Prop} {a b : World} (h : Kept S a b) {B : Nat} (hB : B ≤ a.heap.size) (hs : ∀ k, k < B → ¬ S k) : Below B a b :=
  ⟨h.os, h.tape, h.output, h.size, fun i hi => h.block i (by omega) (hs i hi)⟩
theorem Kept.alloc {S : Nat → Prop} {a b : World} (h : Kept S a b) (o : Obj) : Kept S a (b.alloc o) :=
  ⟨h.os, h.tape, h.output, by have := h.size; simp; omega, fun i hi hn => (Below.heap_alloc _ _ _ (Nat.lt_of_lt_of_le hi h.size)).trans (h.block i hi hn)⟩
theorem Kept.drewN {S : Nat → Prop} {a b : World} (h : Kept S a b) (n : Nat) : Kept S a (b.drewN n) := ⟨h.os, h.tape, h.output, h.size, h.block⟩
theorem Kept.set {S : Nat → Prop} {a b : World} (h : Kept S a b) {p : Addr} (hp : p.block < a.heap.size → S p.block) (u : Value) : Kept S a (b.setCell p u) :=
  ⟨h.os, h.tape, h.output, by simpa [World.setCell] using h.size, fun i hi hn => (Below.heap_setCell _ _ _ _ (by rintro rfl; exact hn (hp hi))).trans (h.block i hi hn)⟩
theorem Kept.grown {S : Nat → Prop} {a b c : World} {row : Option Nat} (h : Kept S a b) (hg : b.grownBy c row) (hr : ∀ k, row = some k → k < a.heap.size → S k) : Kept S a c :=
  h.trans (S' := fun k => row = some k) ⟨hg.os, hg.tape, hg.output, hg.size, fun i hi hn => hg.block i hi (fun e => hn e.symm)⟩ (fun k hk e => hr k e hk)
theorem Kept.blk {S : Nat → Prop} {a b : World} (h : Kept S a b) {k : Nat} {cs : List Value} {t : TypeId} (hb : Blk a k cs t) (hs : ¬ S k) : Blk b k cs t := by
  have := hb.lt
  unfold Blk at *; rw [h.block k this hs]; exact hb
theorem Kept.own {S : Nat → Prop} {a b : World} (h : Kept S a b) {base : Nat} {e : TypeId} {size n : Nat} {v : Value} {xs : List Value}
    (ho : a.ownsRow base e size v n xs) (hs : ∀ k, v.ownBlock = some k → ¬ S k) : b.ownsRow base e size v n xs := by
  have hlt := ho.lt
  obtain ⟨h1, h2⟩ := ho
  refine ⟨h1, ?_⟩
  rcases h2 with h2 | ⟨g, cap, cur, rfl, hg, hh, r⟩
  · exact .inl h2
  · exact .inr ⟨g, cap, cur, rfl, hg, by rw [h.block g (hlt g rfl).2 (hs g rfl)]; exact hh, r⟩

/-! Rows of structs: each element is so many cells. -/
def fl {α : Type} (enc : α → List Value) (l : List α) : List Value := l.flatMap enc

section
variable {α : Type} {enc : α → List Value} {sz : Nat}
theorem fl_nil : fl enc ([] : List α) = [] := rfl
theorem fl_cons (x : α) (l : List α) : fl enc (x :: l) = enc x ++ fl enc l := by simp [fl]
theorem fl_append (a b : List α) : fl enc (a ++ b) = fl enc a ++ fl enc b := by simp [fl]
theorem fl_one (x : α) : fl enc [x] = enc x := by simp [fl]
theorem fl_length (hs : ∀ x, (enc x).length = sz) (l : List α) : (fl enc l).length = l.length * sz := by
  induction l with
  | nil => simp [fl]
  | cons a l ih => rw [fl_cons, List.length_append, hs, ih, List.length_cons, Nat.add_mul, Nat.one_mul, Nat.add_comm]
theorem fl_split (l : List α) (k : Nat) (h : k < l.length) : fl enc l = fl enc (l.take k) ++ (enc l[k] ++ fl enc (l.drop (k + 1))) := by
  rw [← fl_cons, ← fl_append]
  congr 1
  rw [← List.drop_eq_getElem_cons h, List.take_append_drop]
theorem fl_get (hs : ∀ x, (enc x).length = sz) (l : List α) (k : Nat) (h : k < l.length) (j : Nat) (hj : j < sz) : (fl enc l)[k * sz + j]? = (enc l[k])[j]? := by
  have hl : (fl enc (l.take k)).length = k * sz := by rw [fl_length hs, List.length_take, Nat.min_eq_left (by omega)]
  rw [fl_split l k h, List.getElem?_append_right (by omega), hl, List.getElem?_append_left (by rw [hs]; omega)]
  congr 1; omega
theorem fl_set (hs : ∀ x, (enc x).length = sz) (l : List α) (k : Nat) (h : k < l.length) (j : Nat) (hj : j < sz) (u : Value) (x : α) (hx : enc x = (enc l[k]).set j u) :
    (fl enc l).set (k * sz + j) u = fl enc (l.set k x) := by
  have hl : (fl enc (l.take k)).length = k * sz := by rw [fl_length hs, List.length_take, Nat.min_eq_left (by omega)]
  rw [fl_split l k h, fl_split (l.set k x) k (by simpa using h)]
  rw [List.set_append_right _ _ (by omega), hl, List.set_append_left _ _ (by rw [hs]; omega)]
  simp [hx, List.take_set_of_le, List.drop_set_of_lt, show k * sz + j - k * sz = j by omega]
theorem fl_take (hs : ∀ x, (enc x).length = sz) (l : List α) (k : Nat) (h : k ≤ l.length) : (fl enc l).take (k * sz) = fl enc (l.take k) := by
  have hl : (fl enc (l.take k)).length = k * sz := by rw [fl_length hs, List.length_take, Nat.min_eq_left h]
  conv => lhs; rw [← List.take_append_drop k l, fl_append]
  rw [List.take_append_of_le_length (by omega), ← hl, List.take_length]
theorem fl_drop (hs : ∀ x, (enc x).length = sz) (l : List α) (k : Nat) (h : k ≤ l.length) : (fl enc l).drop (k * sz) = fl enc (l.drop k) := by
  have hl : (fl enc (l.take k)).length = k * sz := by rw [fl_length hs, List.length_take, Nat.min_eq_left h]
  conv => lhs; rw [← List.take_append_drop k l, fl_append]
  rw [← hl, List.drop_left]
end

section
variable {α : Type} {enc : α → List Value} {size : Nat} {P : Program} {ops : Array Oper} {rest : List Oper} {o : Oper} {a : Act} {Q : Exit → Act → World → Prop}
/-- append(v, y), the variadic's box just laid. -/
theorem app1 {W : World} {B : Nat} (base : Nat) (hgd : o.guard = none) (s x : Operand) (t e : TypeId) (z : Value) (bytes : Nat)
    (ho : o.op = .call { callee := .builtin .append, args := #[s, x], argTypes := #[t, t] })
    (ht : P.underlying t = some (.slice e)) (hinfo : (P.info? e).map (fun i => (i.zero, i.size, i.bytes)) = some (some z, size, bytes)) (hz : z.cells.size = size) (hs0 : 0 < size) (hb0 : 0 < bytes)
    (hlen : ∀ x, (enc x).length = size) (v : Value) (l : List α) (y : α) (ys : Array Value) (hys : ys.toList = enc y) (hs : a.eval s = v) (hx : a.eval x = .slice (some ⟨B, 0, none⟩) 1 1) (hB : W.heap.size = B)
    (h1 : ∀ u ∈ enc y, u.oneCell' = true)
    (HO : W.ownsRow base e size v l.length (fl enc l)) (hbase : base ≤ W.heap.size) (hl : (l.length + 1) * bytes ≤ 140737488355328)
    (h : ∀ v1 w1, w1.ownsRow base e size v1 (l ++ [y]).length (fl enc (l ++ [y])) → W.grownBy w1 v.ownBlock → (v1.ownBlock = v.ownBlock ∨ v1.ownBlock = some (W.heap.size + 1)) → wpList P ops Q rest (a.put o.dst v1) w1) :
    wpList P ops Q (o :: rest) a (W.alloc (.cells ys e)) := by
  subst hB
  obtain ⟨i0, hi, hzz⟩ := Option.map_eq_some_iff.1 hinfo
  simp only [Prod.mk.injEq] at hzz
  obtain ⟨hz0, hz1, hz2⟩ := hzz
  have hn : l.length + 1 ≤ 140737488355328 := Nat.le_trans (Nat.le_mul_of_pos_right _ hb0) hl
  have hsz : ys.size = size := by rw [← Array.length_toList, hys, hlen]
  refine wpList_append_own_at (W.alloc (.cells ys e)) hgd s x t ho base e i0 z size bytes ht hi hz0 hz1 hz2 hz hs0 v l.length (fl enc l) hs (HO.alloc _) ⟨W.heap.size, 0, none⟩ 1 1 (enc y) hx (by rw [hlen]; simp)
    (fun j u hj => by
      have hb := Blk.new W ys e
      have hadd : (⟨W.heap.size, 0, none⟩ : Addr).add j = ⟨W.heap.size, j, none⟩ := by unfold Addr.add; split <;> simp_all
      rw [hadd, hb.cell, hys]; exact hj) h1 (by simp only [maxLen]; omega) hl (by simp; omega) ?_
  intro v1 w1 hown hg _ hat
  refine h v1 w1 (by rw [fl_append, fl_one, List.length_append]; exact hown) (World.grownBy.trans (World.grownBy_alloc W _ _) hg) ?_
  simpa using hat
end

/-- A scope with one label that the run falls into and jumps back to. -/
theorem wp_scope_label {P : Program} {a : Act} {w : World} {Q : Exit → Act → World → Prop} {c R : Code} (l : Nat) (J : Act → World → Prop) (μ : Act → World → Nat) (hf : findLabel c l = some (.seq .skip R))
    (first : (∀ a w, J a w → R.wp P (Exit.jump l J Q) a w) → c.wp P (Exit.jump l J Q) a w)
    (pass : ∀ a w, J a w → R.wp P (Exit.jump l (fun a' w' => J a' w' ∧ μ a' w' < μ a w) Q) a w) : (Code.scope c).wp P Q a w :=
  wp_scope_jumps l J μ hf (first fun a w hJ => wp_mono (pass a w hJ) (fun e a w h => by cases e <;> first | exact h | exact ⟨h.1, h.2.1⟩))
    (fun a w hJ => wp_seq (wp_skip (pass a w hJ)))

/-- A frame some of whose slots are anything. -/
theorem uof {T : Array Value} {D : List Deferred} {F : (Nat → Value) → Array Value} (h : T = F (fun i => T.getD i undef)) : ∃ u : Nat → Value, ({ tmps := T, defers := D } : Act) = { tmps := F u, defers := D } :=
  ⟨_, congrArg (fun t => ({ tmps := t, defers := D } : Act)) h⟩

theorem quiet_same {P : Program} {f : FuncId} {args : Array Value} {w : World} {n : Nat} {v : Value}
    (h : Calls P f args (w.drewN n) fun e w' => e = .returned v ∧ w.drewN n = w') : Calls P f args (w.drewN n) fun e w'' => e = .returned v ∧ ∃ m, w'' = w.drewN m :=
  h.mono fun _ _ ⟨he, hm⟩ => ⟨he, n, hm.symm⟩

/-- A slice that reads as a list; where it lies is left open. -/
def Rd {α : Type} (enc : α → List Value) (w : World) (v : Value) (l : List α) : Prop :=
  ∃ A cap, v = .slice A l.length cap ∧ l.length ≤ cap ∧ cap ≤ 9223372036854775807 ∧ (A = none → l = [] ∧ cap = 0) ∧ ∀ ad, A = some ad → ∀ j u, (fl enc l)[j]? = some u → w.cell? (ad.add j) = some u

section
variable {α : Type} {enc : α → List Value}
theorem Rd.nil (enc : α → List Value) (w : World) : Rd enc w (.slice none 0 0) [] := ⟨none, 0, rfl, by simp, by omega, fun _ => ⟨rfl, rfl⟩, fun _ h => by cases h⟩
theorem Rd.below {w w' : World} {v : Value} {l : List α} (h : Rd enc w v l) (hb : Below w.heap.size w w') : Rd enc w' v l := by
  obtain ⟨A, cap, hv, hl, hm, hn, hc⟩ := h
  exact ⟨A, cap, hv, hl, hm, hn, fun ad ha j u hu => by
    have := hc ad ha j u hu
    rw [hb.cell (World.block_lt_of_cell? w _ this)]; exact this⟩
theorem Rd.drewN {w : World} {v : Value} {l : List α} (h : Rd enc w v l) (n : Nat) : Rd enc (w.drewN n) v l := h
theorem Rd.alloc {w : World} {v : Value} {l : List α} (h : Rd enc w v l) (o : Obj) : Rd enc (w.alloc o) v l := h.below ((Below.refl _ _).alloc (Nat.le_refl _) o)
theorem Rd.of_own {w : World} {base : Nat} {e : TypeId} {sz : Nat} {v : Value} {l : List α} (h : w.ownsRow base e sz v l.length (fl enc l)) : Rd enc w v l := by
  rcases h.2 with ⟨h1, h2⟩ | ⟨g, cap, cur, hv, hg, hh, hn, hc, hs, ht⟩
  · obtain rfl : l = [] := List.length_eq_zero_iff.1 h2
    rw [h1]; exact Rd.nil _ _
  · refine ⟨_, cap, hv, hn, by simpa [maxLen] using hc, (fun h => by cases h), fun ad ha j u hu => ?_⟩
    cases ha
    exact h.cells (g := g) (by rw [hv]; rfl) j u hu
end

theorem setCells_heap {g : Nat} : ∀ (vs : List Value) (o : Nat) (w : World) (k : Nat), k ≠ g → (w.setCells g o vs).heap[k]? = w.heap[k]?
  | [], _, _, _, _ => rfl
  | v :: r, o, w, k, h => by
    show ((w.setCell ⟨g, o, none⟩ v).setCells g (o + 1) r).heap[k]? = _
    rw [setCells_heap r (o + 1) _ k h, Below.heap_setCell _ _ _ _ h]
theorem setCells_same {g : Nat} : ∀ (vs : List Value) (o : Nat) (w : World), (w.setCells g o vs).os = w.os ∧ (w.setCells g o vs).tape = w.tape ∧ (w.setCells g o vs).output = w.output ∧ (w.setCells g o vs).heap.size = w.heap.size
  | [], _, _ => ⟨rfl, rfl, rfl, rfl⟩
  | v :: r, o, w => by
    obtain ⟨h1, h2, h3, h4⟩ := setCells_same (g := g) r (o + 1) (w.setCell ⟨g, o, none⟩ v)
    exact ⟨h1, h2, h3, h4.trans (by simp [World.setCell])⟩
theorem setCells_grown {g : Nat} (vs : List Value) (o : Nat) (w : World) : w.grownBy (w.setCells g o vs) (some g) := by
  obtain ⟨h1, h2, h3, h4⟩ := setCells_same (g := g) vs o w
  exact ⟨h1, h2, h3, by omega, fun k _ hk => setCells_heap vs o w k (by rintro rfl; exact hk rfl)⟩
theorem Blk.setCells {g : Nat} {t : TypeId} : ∀ (vs : List Value) (o : Nat) (w : World) (cs : List Value), Blk w g cs t → o + vs.length ≤ cs.length → Blk (w.setCells g o vs) g (cs.take o ++ vs ++ cs.drop (o + vs.length)) t
  | [], o, w, cs, h, hl => by
    have e : cs.take o ++ [] ++ cs.drop (o + 0) = cs := by simp
    show Blk w g (cs.take o ++ [] ++ cs.drop (o + 0)) t
    rw [e]; exact h
  | v :: r, o, w, cs, h, hl => by
    have h1 := (h.set o v).setCells r (o + 1) _ _ (by simp at *; omega)
    show Blk ((w.setCell ⟨g, o, none⟩ v).setCells g (o + 1) r) g _ t
    have e : (cs.set o v).take (o + 1) = cs.take o ++ [v] := by
      rw [List.take_succ_eq_append_getElem (by simp at *; omega)]; simp [List.take_set_of_le]
    rw [e, List.drop_set_of_lt (by omega)] at h1
    simpa [Nat.add_assoc, Nat.add_comm 1] using h1

theorem zeroCells_length (z : Value) (n : Nat) : (Builtin.zeroCells z.cells n).toList.length = n * z.cells.size := by simp [Builtin.zeroCells]
theorem run_clear_cells {P : Program} (w : World) (t e ty : TypeId) (z : Value) (ht : P.underlying t = some (.slice e)) (hv : ∀ w, (zeroValue e).run P w = .ok z w) (h1 : ∀ u ∈ z.cells, u.oneCell' = true) (b o n c : Nat) (hn : 0 < n)
    (hc : ∀ j, j < n * z.cells.size → (w.cell? ⟨b, o + j, none⟩).isSome = true) (hf : ∀ j, j < n * z.cells.size → w.frozen? ⟨b, o + j, none⟩ = false) :
    (Builtin.clear_ #[t] ty #[.slice (some ⟨b, o, none⟩) n c]).run P w = .ok (.tuple #[]) (w.setCells b o (Builtin.zeroCells z.cells n).toList) := by
  have hall : ∀ v ∈ (Builtin.zeroCells z.cells n).toList, v.oneCell' = true := by
    intro v hv
    have hv' : v ∈ Builtin.zeroCells z.cells n := Array.mem_toList_iff.1 hv
    unfold Builtin.zeroCells at hv'
    obtain ⟨i, hi, rfl⟩ := Array.mem_map.1 hv'
    rcases Nat.eq_zero_or_pos z.cells.size with h0 | h0
    · simp [h0] at hi
    · have : i % z.cells.size < z.cells.size := Nat.mod_lt _ h0
      have e : z.cells[i % z.cells.size]! = z.cells[i % z.cells.size] := getElem!_pos z.cells _ this
      rw [e]
      exact h1 _ (Array.getElem_mem this)
  have hst := run_storeCells_cells (P := P) b o (Builtin.zeroCells z.cells n).toList 0 w (by rw [zeroCells_length]; simpa using hc) (by rw [zeroCells_length]; simpa using hf) hall
  simp only [Nat.add_zero] at hst
  obtain ⟨m, rfl⟩ : ∃ m, n = m + 1 := ⟨n - 1, by omega⟩
  simp [Builtin.clear_, run_underlying ht, hv, hst]

/-- Where the first one stands, or -1. -/
def idxOf {α : Type} (p : α → Bool) (l : List α) : Int := match l.findIdx? p with | some k => (k : Int) | none => -1
theorem idxOf_none {α : Type} {p : α → Bool} {l : List α} (h : ∀ j (hj : j < l.length), p l[j] = false) : idxOf p l = -1 := by
  unfold idxOf
  have : l.findIdx? p = none := by
    rw [List.findIdx?_eq_none_iff]
    intro x hx
    obtain ⟨j, hj, rfl⟩ := List.getElem_of_mem hx
    exact h j hj
  rw [this]
theorem idxOf_some {α : Type} {p : α → Bool} {l : List α} {k : Nat} (hk : k < l.length) (hp : p l[k] = true) (h : ∀ j (hj : j < k), p l[j] = false) : idxOf p l = k := by
  unfold idxOf
  have : l.findIdx? p = some k := by
    rw [List.findIdx?_eq_some_iff_getElem]
    exact ⟨hk, hp, fun j hj => by simp [h j hj]⟩
  rw [this]
theorem idxOf_cases {α : Type} (p : α → Bool) (l : List α) : (idxOf p l = -1 ∧ l.findIdx? p = none) ∨ ∃ k, k < l.length ∧ idxOf p l = (k : Int) ∧ l.findIdx? p = some k := by
  unfold idxOf
  cases h : l.findIdx? p with
  | none => exact .inl ⟨rfl, rfl⟩
  | some k => exact .inr ⟨k, (List.findIdx?_eq_some_iff_getElem.1 h).1, rfl, rfl⟩

theorem add_field (ad : Addr) (m j : Nat) (hj : 0 < j) : ad.add (m + j) = ⟨(ad.add m).block, (ad.add m).off + j, none⟩ := by
  unfold Addr.add
  by_cases hm : m = 0
  · subst hm; simp [Nat.ne_of_gt hj]
  · simp [hm, Nat.add_assoc]
theorem add_lit (g j : Nat) : (⟨g, 0, none⟩ : Addr).add j = ⟨g, j, none⟩ := by unfold Addr.add; split <;> simp_all
/-- An element's cells, as the walk asks for them. -/
theorem elem_cell {α : Type} {enc : α → List Value} {sz : Nat} (hs : ∀ x, (enc x).length = sz) {w : World} {ad : Addr} {l : List α} (hc : ∀ j u, (fl enc l)[j]? = some u → w.cell? (ad.add j) = some u) (k : Nat) (hk : k < l.length) (j : Nat) (u : Value)
    (hu : (enc l[k])[j]? = some u) : w.cell? (if j = 0 then ad.add (k * sz) else ⟨(ad.add (k * sz)).block, (ad.add (k * sz)).off + j, none⟩) = some u := by
  have hj : j < sz := by have := (List.getElem?_eq_some_iff.1 hu).1; rwa [hs] at this
  have h := hc (k * sz + j) u (by rw [fl_get hs l k hk j hj]; exact hu)
  by_cases h0 : j = 0
  · subst h0; simpa using h
  · rw [if_neg h0, ← add_field _ _ _ (by omega)]; exact h

theorem elem_c0 {α : Type} {enc : α → List Value} {sz : Nat} (hs : ∀ x, (enc x).length = sz) {w : World} {ad : Addr} {l : List α} (hc : ∀ j u, (fl enc l)[j]? = some u → w.cell? (ad.add j) = some u) (k : Nat) (hk : k < l.length) (u : Value)
    (hu : (enc l[k])[0]? = some u) : w.cell? (ad.add (k * sz)) = some u := elem_cell hs hc k hk 0 u hu
theorem elem_cS {α : Type} {enc : α → List Value} {sz : Nat} (hs : ∀ x, (enc x).length = sz) {w : World} {ad : Addr} {l : List α} (hc : ∀ j u, (fl enc l)[j]? = some u → w.cell? (ad.add j) = some u) (k : Nat) (hk : k < l.length) (j : Nat) (u : Value)
    (hu : (enc l[k])[j + 1]? = some u) : w.cell? ⟨(ad.add (k * sz)).block, (ad.add (k * sz)).off + (j + 1), none⟩ = some u := by
  have := elem_cell hs hc k hk (j + 1) u hu
  rwa [if_neg (Nat.succ_ne_zero j)] at this
theorem lit2 {l : List Value} (h : l.length = 2) : l = [l.getD 0 undef, l.getD 1 undef] := by match l, h with | [_, _], _ => rfl
theorem lit3 {l : List Value} (h : l.length = 3) : l = [l.getD 0 undef, l.getD 1 undef, l.getD 2 undef] := by match l, h with | [_, _, _], _ => rfl
theorem lit4 {l : List Value} (h : l.length = 4) : l = [l.getD 0 undef, l.getD 1 undef, l.getD 2 undef, l.getD 3 undef] := by match l, h with | [_, _, _, _], _ => rfl
theorem lit5 {l : List Value} (h : l.length = 5) : l = [l.getD 0 undef, l.getD 1 undef, l.getD 2 undef, l.getD 3 undef, l.getD 4 undef] := by match l, h with | [_, _, _, _, _], _ => rfl
theorem lit6 {l : List Value} (h : l.length = 6) : l = [l.getD 0 undef, l.getD 1 undef, l.getD 2 undef, l.getD 3 undef, l.getD 4 undef, l.getD 5 undef] := by match l, h with | [_, _, _, _, _, _], _ => rfl

theorem alloc_cell {w : World} {a : Addr} {v : Value} (h : w.cell? a = some v) (o : Obj) : (w.alloc o).cell? a = some v := by
  rw [← h]; exact Below.cell ((Below.refl _ _).alloc (Nat.le_refl _) _) (World.block_lt_of_cell? w _ h)

section
variable {α : Type} {enc : α → List Value} {size : Nat} {P : Program}
/-- append(v, u...), u a slice that reads as a list. -/
theorem run_appN {W : World} (base : Nat) (t ty e : TypeId) (z : Value) (bytes : Nat)
    (ht : P.underlying t = some (.slice e)) (hinfo : (P.info? e).map (fun i => (i.zero, i.size, i.bytes)) = some (some z, size, bytes)) (hz : z.cells.size = size) (hs0 : 0 < size) (hb0 : 0 < bytes)
    (hlen : ∀ x, (enc x).length = size) (h1 : ∀ x, ∀ c ∈ enc x, c.oneCell' = true) (v : Value) (l : List α) (u : Value) (ys : List α) (hu : Rd enc W u ys)
    (HO : W.ownsRow base e size v l.length (fl enc l)) (hbase : base ≤ W.heap.size) (hl : (l.length + ys.length) * bytes ≤ 140737488355328) :
    ∃ v1 w1, (Builtin.append_ #[t, t] ty #[v, u]).run P W = .ok v1 w1 ∧ w1.ownsRow base e size v1 (l ++ ys).length (fl enc (l ++ ys)) ∧ W.grownBy w1 v.ownBlock ∧ (v1.ownBlock = v.ownBlock ∨ v1.ownBlock = some W.heap.size) := by
  obtain ⟨i0, hi, hzz⟩ := Option.map_eq_some_iff.1 hinfo
  simp only [Prod.mk.injEq] at hzz
  obtain ⟨hz0, hz1, hz2⟩ := hzz
  obtain ⟨A, cap, rfl, hlc, hcm, hn, hc⟩ := hu
  cases A with
  | none =>
    obtain ⟨rfl, rfl⟩ := hn rfl
    exact ⟨v, W, run_append_owned_none (P := P) (w := W) base t ty e i0 size ht hi v l.length (fl enc l) HO, by simpa using HO, ⟨rfl, rfl, rfl, Nat.le_refl _, fun _ _ _ => rfl⟩, .inl rfl⟩
  | some ad =>
    have hn2 : l.length + ys.length ≤ 140737488355328 := Nat.le_trans (Nat.le_mul_of_pos_right _ hb0) hl
    obtain ⟨v1, w1, hr, ho, hg, _, hat⟩ := run_append_own_at (P := P) (w := W) base t ty e i0 z size bytes ht hi hz0 hz1 hz2 hz hs0 v l.length (fl enc l) HO ad ys.length cap (fl enc ys) (fl_length hlen ys) (hc ad rfl)
      (fun c hcm => by obtain ⟨x, _, hx⟩ := List.mem_flatMap.1 hcm; exact h1 x c hx) (by simp only [maxLen]; omega) hl hbase
    exact ⟨v1, w1, hr, by rw [List.length_append, fl_append]; exact ho, hg, hat⟩

variable {ops : Array Oper} {rest : List Oper} {o : Oper} {a : Act} {Q : Exit → Act → World → Prop}
theorem wpList_appN {W : World} (base : Nat) (hgd : o.guard = none) (s x : Operand) (t e : TypeId) (z : Value) (bytes : Nat)
    (ho : o.op = .call { callee := .builtin .append, args := #[s, x], argTypes := #[t, t] })
    (ht : P.underlying t = some (.slice e)) (hinfo : (P.info? e).map (fun i => (i.zero, i.size, i.bytes)) = some (some z, size, bytes)) (hz : z.cells.size = size) (hs0 : 0 < size) (hb0 : 0 < bytes)
    (hlen : ∀ x, (enc x).length = size) (h1 : ∀ x, ∀ c ∈ enc x, c.oneCell' = true) (v : Value) (l : List α) (u : Value) (ys : List α) (hs : a.eval s = v) (hx : a.eval x = u) (hu : Rd enc W u ys)
    (HO : W.ownsRow base e size v l.length (fl enc l)) (hbase : base ≤ W.heap.size) (hl : (l.length + ys.length) * bytes ≤ 140737488355328)
    (h : ∀ v1 w1, w1.ownsRow base e size v1 (l ++ ys).length (fl enc (l ++ ys)) → W.grownBy w1 v.ownBlock → (v1.ownBlock = v.ownBlock ∨ v1.ownBlock = some W.heap.size) → wpList P ops Q rest (a.put o.dst v1) w1) :
    wpList P ops Q (o :: rest) a W := by
  refine wpList_plain hgd fun K hK => ?_
  obtain ⟨v1, w1, hr, h2, h3, h4⟩ := run_appN (P := P) base t o.type e z bytes ht hinfo hz hs0 hb0 hlen h1 v l u ys hu HO hbase hl
  unfold Oper.wp execOp
  simp only [ho, resolve, invoke, builtin, Sem.run_bind, Sem.run_pure, Result.andThen_ok, List.map_toArray, List.map_cons, List.map_nil, hs, hx, hr]
  exact hK _ _ (h v1 w1 h2 h3 h4)

theorem step_appN {W : World} {K : Act → World → Prop} {E : Prop} (base : Nat) (hgd : o.guard = none) (s x : Operand) (t e : TypeId) (z : Value) (bytes : Nat)
    (ho : o.op = .call { callee := .builtin .append, args := #[s, x], argTypes := #[t, t] })
    (ht : P.underlying t = some (.slice e)) (hinfo : (P.info? e).map (fun i => (i.zero, i.size, i.bytes)) = some (some z, size, bytes)) (hz : z.cells.size = size) (hs0 : 0 < size) (hb0 : 0 < bytes)
    (hlen : ∀ x, (enc x).length = size) (h1 : ∀ x, ∀ c ∈ enc x, c.oneCell' = true) (v : Value) (l : List α) (u : Value) (ys : List α) (hs : a.eval s = v) (hx : a.eval x = u) (hu : Rd enc W u ys)
    (HO : W.ownsRow base e size v l.length (fl enc l)) (hbase : base ≤ W.heap.size) (hl : (l.length + ys.length) * bytes ≤ 140737488355328)
    (h : ∀ v1 w1, w1.ownsRow base e size v1 (l ++ ys).length (fl enc (l ++ ys)) → W.grownBy w1 v.ownBlock → (v1.ownBlock = v.ownBlock ∨ v1.ownBlock = some W.heap.size) → K (a.put o.dst v1) w1) :
    if Region.wanted o (yielded ops a.tmps) = true then Oper.wp P o a W K Q else E := by
  have hw : Region.wanted o (yielded ops a.tmps) = true := by simp [Region.wanted, hgd]
  rw [if_pos hw]
  obtain ⟨v1, w1, hr, h2, h3, h4⟩ := run_appN (P := P) base t o.type e z bytes ht hinfo hz hs0 hb0 hlen h1 v l u ys hu HO hbase hl
  unfold Oper.wp execOp
  simp only [ho, resolve, invoke, builtin, Sem.run_bind, Sem.run_pure, Result.andThen_ok, List.map_toArray, List.map_cons, List.map_nil, hs, hx, hr]
  exact h v1 w1 h2 h3 h4
end

/-- A beginning, an end of what reads as a list. -/
theorem Rd.take {α : Type} {enc : α → List Value} {sz : Nat} (hs : ∀ x, (enc x).length = sz) {w : World} {A : Option Addr} {n cap : Nat} {l : List α} (h : Rd enc w (.slice A n cap) l) (k : Nat) (hk : k ≤ l.length) : Rd enc w (.slice A k cap) (l.take k) := by
  obtain ⟨A', cap', hv, hl, hm, hn, hc⟩ := h
  cases hv
  have hlen : (l.take k).length = k := by rw [List.length_take]; omega
  refine ⟨A, cap, by rw [hlen], by omega, hm, fun h => by obtain ⟨rfl, h2⟩ := hn h; exact ⟨by simp, h2⟩, fun ad ha j u hu => hc ad ha j u ?_⟩
  rw [← fl_take hs l k hk, List.getElem?_take] at hu
  split at hu
  · exact hu
  · cases hu
theorem Rd.drop {α : Type} {enc : α → List Value} {sz : Nat} (hs : ∀ x, (enc x).length = sz) {w : World} {ad : Addr} {n cap : Nat} {l : List α} (h : Rd enc w (.slice (some ad) n cap) l) (k : Nat) (hk : k ≤ l.length) :
    Rd enc w (.slice (if cap = k then some ad else some (ad.add (k * sz))) (l.length - k) (cap - k)) (l.drop k) := by
  obtain ⟨A', cap', hv, hl, hm, hn, hc⟩ := h
  cases hv
  refine ⟨_, cap - k, by rw [List.length_drop], by rw [List.length_drop]; omega, by omega, (fun h => by split at h <;> cases h), fun a' ha j u hu => ?_⟩
  have hj := (List.getElem?_eq_some_iff.1 hu).1
  rw [fl_length hs, List.length_drop] at hj
  rw [← fl_drop hs l k hk, List.getElem?_drop] at hu
  have h1 := hc ad rfl (k * sz + j) u hu
  split at ha
  · rename_i he
    have : l.length - k = 0 := by omega
    rw [this] at hj; omega
  · cases ha
    have e : (ad.add (k * sz)).add j = ad.add (k * sz + j) := by
      unfold Addr.add
      by_cases h0 : k * sz = 0 <;> by_cases h3 : j = 0 <;> simp [h0, h3, Nat.add_assoc]
    rw [e]; exact h1

theorem own_weaken {w : World} {base base' : Nat} {e : TypeId} {size n : Nat} {v : Value} {xs : List Value} (h : w.ownsRow base e size v n xs) (hb : base' ≤ base) : w.ownsRow base' e size v n xs := by
  obtain ⟨h1, h2⟩ := h
  refine ⟨h1, ?_⟩
  rcases h2 with h2 | ⟨g, cap, cur, hv, hg, r⟩
  · exact .inl h2
  · exact .inr ⟨g, cap, cur, hv, by omega, r⟩

theorem run_copy_cells {P : Program} (w : World) (dT sT ty elem : TypeId) (g o dLen dCap : Nat) (a : Addr) (sLen sCap size m : Nat) (cs : List Value) (hm : m = min sLen dLen)
    (hu : P.underlying dT = some (.slice elem)) (hs : (P.info? elem).map (·.size) = some size) (hn : cs.length = m * size)
    (hsrc : ∀ j v, cs[j]? = some v → w.cell? (a.add j) = some v) (hc : ∀ j, j < cs.length → (w.cell? ⟨g, o + j, none⟩).isSome = true) (hf : ∀ j, j < cs.length → w.frozen? ⟨g, o + j, none⟩ = false) (h1 : ∀ v ∈ cs, v.oneCell' = true) :
    (Builtin.copy_ #[dT, sT] ty #[.slice (some ⟨g, o, none⟩) dLen dCap, .slice (some a) sLen sCap]).run P w = .ok (goInt m) (w.setCells g o cs) := by
  have hl := run_loadCells_list (P := P) w a cs hsrc
  have hst := run_storeCells_cells (P := P) g o cs 0 w (by simpa using hc) (by simpa using hf) h1
  simp only [Nat.add_zero] at hst
  have hm' : Nat.min sLen dLen = m := hm.symm
  cases hq : P.info? elem with
  | none => simp [hq] at hs
  | some i =>
    have hi : i.size = size := by simpa [hq] using hs
    simp [Builtin.copy_, run_underlying hu, Builtin.lenOf, Builtin.firstCells, sizeOf, typeInfo, hq, hi, hm', ← hn, hl, hst]

theorem Blk.shape {w : World} {k : Nat} {cs : List Value} {t : TypeId} (h : Blk w k cs t) : w.shape? k = some (t, cs.length) := by
  unfold Blk at h; simp [World.shape?, h]

/-- A row that was just written out. -/
theorem own_lit {α : Type} {enc : α → List Value} {sz : Nat} (hs : ∀ x, (enc x).length = sz) (w : World) (base : Nat) (hb : base ≤ w.heap.size) (e : TypeId) (cs : Array Value) (l : List α) (h : cs.toList = fl enc l) (hl : l.length ≤ 9223372036854775807) :
    (w.alloc (.cells cs e)).ownsRow base e sz (.slice (some ⟨w.heap.size, 0, none⟩) l.length l.length) l.length (fl enc l) := by
  have hsz : cs.size = l.length * sz := by rw [← Array.length_toList, h, fl_length hs]
  refine ⟨fl_length hs l, .inr ⟨w.heap.size, l.length, cs, rfl, hb, heap_alloc_new w _, Nat.le_refl _, by simpa [maxLen] using hl, hsz, ?_⟩⟩
  rw [h, ← fl_length hs, List.take_length]

/-- 'int(uint(n) % m)'. -/
theorem urem (n m : Int) (hm : 0 < m) : 0 ≤ (IntKind.u64.wrap n).tmod m ∧ (IntKind.u64.wrap n).tmod m < m := by
  have h : 0 ≤ IntKind.u64.wrap n := by
    have : IntKind.u64.wrap n = n % 18446744073709551616 := rfl
    rw [this]; omega
  rw [Int.tmod_eq_emod_of_nonneg h]
  exact ⟨Int.emod_nonneg _ (by omega), Int.emod_lt_of_pos _ hm⟩

end Go.Proofs.YtbogfmgfafdjiaaGreatDoor

/- What a walk knows of memory, told by abstract values: the words and their first lemmas. -/
namespace Go.Proofs.YtbogfmgfafdjiaaGreatDoor
set_option linter.unusedVariables false
set_option linter.unusedSimpArgs false
open Go.RowKit

/-- What is known of a value. -/
inductive AV where
  | v (x : Value)
  | any
  | agg (cs : List AV)
  | tup (vs : List AV)
  | lst (sz n : Nat) (g : Nat → List AV)
  | pel (n : Nat) (cs : List AV)
  | when (c w : Bool) (x : AV)
  | fn (f : Fn) (cap : List AV)
  | ref (id : Nat) (x : Value)
  | ptr (id b off : Nat)
  | eptr (id : Nat) (x : Value) (sz k off : Nat)

/-- Where a slice begins. -/
def headOf : Value → Addr
  | .slice (some a) _ _ => a
  | _ => ⟨0, 0, none⟩

/-- What is known of a value holds in a world; own: blocks that may turn. -/
inductive Rep (own : Nat → Prop) (w : World) : AV → Value → Prop
  | v (x : Value) : Rep own w (.v x) x
  | any (x : Value) : Rep own w .any x
  | agg {cs : List AV} {us : List Value} (hl : us.length = cs.length) (h1 : ∀ u ∈ us, u.oneCell' = true) (h : ∀ (j : Nat) A u, cs[j]? = some A → us[j]? = some u → Rep own w A u) : Rep own w (.agg cs) (.agg us.toArray)
  | tup {cs : List AV} {us : List Value} (hl : us.length = cs.length) (h : ∀ (j : Nat) A u, cs[j]? = some A → us[j]? = some u → Rep own w A u) : Rep own w (.tup cs) (.tuple us.toArray)
  | lst {sz n cap : Nat} {g : Nat → List AV} {A : Option Addr} (u : Nat → Nat → Value) (hn : n ≤ cap) (hm : cap ≤ maxLen) (hnil : A = none → n = 0 ∧ cap = 0)
      (hlen : ∀ i, i < n → (g i).length = sz) (h1 : ∀ i j, (u i j).oneCell' = true)
      (hc : ∀ ad, A = some ad → ∀ i, i < n → ∀ j, j < sz → w.cell? (ad.add (i * sz + j)) = some (u i j))
      (hb : ∀ ad, A = some ad → 0 < n → 0 < sz → ¬ own ad.block)
      (hr : ∀ i, i < n → ∀ (j : Nat) B, (g i)[j]? = some B → Rep own w B (u i j)) : Rep own w (.lst sz n g) (.slice A n cap)
  | pel {n : Nat} {cs : List AV} {ad : Addr} (u : Nat → Value) (hl : cs.length = n) (h1 : ∀ j, (u j).oneCell' = true) (hc : ∀ j, j < cs.length → w.cell? (ad.add j) = some (u j)) (hb : 0 < cs.length → ¬ own ad.block)
      (hr : ∀ (j : Nat) B, cs[j]? = some B → Rep own w B (u j)) : Rep own w (.pel n cs) (.pointer (some ad))
  | when {c t : Bool} {A : AV} {x : Value} (h : c = t → Rep own w A x) (h' : c ≠ t → x = undef) : Rep own w (.when c t A) x
  | fn {f : Fn} {cap : List AV} {us : List Value} (hl : us.length = cap.length) (h : ∀ (j : Nat) A u, cap[j]? = some A → us[j]? = some u → Rep own w A u) : Rep own w (.fn f cap) (.func f #[] us.toArray)
  | ref (id : Nat) (x : Value) (h1 : x.oneCell' = true) : Rep own w (.ref id x) x
  | ptr (id b off : Nat) : Rep own w (.ptr id b off) (.pointer (some ⟨b, off, none⟩))
  | eptr (id : Nat) (x : Value) (sz k off : Nat) : Rep own w (.eptr id x sz k off) (.pointer (some ((headOf x).add (k * sz + off))))

/-- A world behind another one: what is not owned stands. -/
structure Ext (own own' : Nat → Prop) (w w' : World) : Prop where
  size : w.heap.size ≤ w'.heap.size
  blk : ∀ b, b < w.heap.size → ¬ own b → w'.heap[b]? = w.heap[b]?
  own : ∀ b, b < w.heap.size → ¬ own b → ¬ own' b

theorem Ext.refl (own : Nat → Prop) (w : World) : Ext own own w w := ⟨Nat.le_refl _, fun _ _ _ => rfl, fun _ _ h => h⟩
theorem Ext.trans {o1 o2 o3 : Nat → Prop} {a b c : World} (h : Ext o1 o2 a b) (k : Ext o2 o3 b c) : Ext o1 o3 a c :=
  ⟨Nat.le_trans h.size k.size, fun i hi hn => (k.blk i (Nat.lt_of_lt_of_le hi h.size) (h.own i hi hn)).trans (h.blk i hi hn), fun i hi hn => k.own i (Nat.lt_of_lt_of_le hi h.size) (h.own i hi hn)⟩
theorem Ext.less {own own' : Nat → Prop} (h : ∀ b, own' b → own b) (w : World) : Ext own own' w w := ⟨Nat.le_refl _, fun _ _ _ => rfl, fun _ _ hn ho => hn (h _ ho)⟩
theorem Ext.cell {own own' : Nat → Prop} {w w' : World} (h : Ext own own' w w') {a : Addr} {x : Value} (hc : w.cell? a = some x) (hn : ¬ own a.block) : w'.cell? a = some x :=
  (World.cell?_of_block (h.blk a.block (World.block_lt_of_cell? w a hc) hn)).trans hc

theorem add_block (a : Addr) (n : Nat) : (a.add n).block = a.block := by unfold Addr.add; split <;> rfl
theorem add_add (a : Addr) (m n : Nat) : (a.add m).add n = a.add (m + n) := by
  unfold Addr.add
  by_cases h0 : m = 0 <;> by_cases h3 : n = 0 <;> simp [h0, h3, Nat.add_assoc]

theorem Rep.ext {own own' : Nat → Prop} {w w' : World} {A : AV} {x : Value} (h : Rep own w A x) (he : Ext own own' w w') : Rep own' w' A x := by
  induction h with
  | v x => exact .v x
  | any x => exact .any x
  | agg hl h1 _ ih => exact .agg hl h1 ih
  | tup hl _ ih => exact .tup hl ih
  | @lst sz n cap g A u hn hm hnil hlen h1 hc hb hr ih =>
    refine .lst u hn hm hnil hlen h1 (fun ad ha i hi j hj => he.cell (hc ad ha i hi j hj) (by rw [add_block]; exact hb ad ha (by omega) (by omega))) (fun ad ha h0 hs => ?_) ih
    have h := hc ad ha 0 h0 0 hs
    have := World.block_lt_of_cell? w _ h
    rw [add_block] at this
    exact he.own _ this (hb ad ha h0 hs)
  | @pel n cs ad u hl h1 hc hb hr ih =>
    refine .pel u hl h1 (fun j hj => he.cell (hc j hj) (by rw [add_block]; exact hb (by omega))) (fun h0 => ?_) ih
    have := World.block_lt_of_cell? w _ (hc 0 h0)
    rw [add_block] at this
    exact he.own _ this (hb h0)
  | when _ h' ih => exact .when ih h'
  | fn hl _ ih => exact .fn hl ih
  | ref id x h1 => exact .ref id x h1
  | ptr id b off => exact .ptr id b off
  | eptr id x sz k off => exact .eptr id x sz k off

/-- What is known of memory of one's own. -/
inductive Row where
  | blk (b : Nat) (T : TypeId) (cs : List AV)
  | own (x : Value) (E : TypeId) (sz n : Nat) (g : Nat → List AV)
  | map (b : Nat) (K : Value → Bool) (m : List (Value × AV))
  | mapE (b : Nat) (K : Value → Bool) (m : List (Value × AV)) (k : Value) (s : Nat)

/-- What a map has at a key. -/
noncomputable def mget : List (Value × AV) → Value → Option AV
  | [], _ => none
  | (x, A) :: t, k => open Classical in if x = k then some A else mget t k

def Row.block : Row → Option Nat
  | .blk b _ _ => some b
  | .own x _ _ _ _ => x.ownBlock
  | .map b _ _ => some b
  | .mapE b _ _ _ _ => some b

/-- The entries of a map are told apart by when they came. -/
def Stmp (es : Array MapEntry) (clock : Nat) : Prop := (∀ e ∈ es.toList, e.born < clock) ∧ es.toList.Pairwise fun x y => x.born ≠ y.born

def Row.sat (own : Nat → Prop) (w : World) : Row → Prop
  | .blk b T cs => ∃ us : List Value, w.heap[b]? = some (.cells us.toArray T (0, 0)) ∧ us.length = cs.length ∧ (∀ u ∈ us, u.oneCell' = true) ∧ ∀ (j : Nat) A u, cs[j]? = some A → us[j]? = some u → Rep own w A u
  | .own x E sz n g => ∃ us : List Value, w.ownsRow 0 E sz x n us ∧ (∀ i, i < n → (g i).length = sz) ∧ (∀ u ∈ us, u.oneCell' = true) ∧ ∀ i, i < n → ∀ (j : Nat) A, (g i)[j]? = some A → ∃ u, us[i * sz + j]? = some u ∧ Rep own w A u
  | .map b K m => ∃ (es : Array MapEntry) (clock : Nat), w.heap[b]? = some (.map es clock) ∧ (∀ e ∈ es.toList, K e.key = true) ∧ (∀ e ∈ es.toList, ∃ A, mget m e.key = some A ∧ Rep own w A e.val) ∧
      (∀ key, (∀ e ∈ es.toList, e.key ≠ key) → mget m key = none) ∧ (es.toList.Pairwise fun x y => x.key ≠ y.key) ∧ Stmp es clock
  | .mapE b K m k s => ∃ (es : Array MapEntry) (clock : Nat), w.heap[b]? = some (.map es clock) ∧ (∀ e ∈ es.toList, K e.key = true) ∧ (∀ e ∈ es.toList, ∃ A, mget m e.key = some A ∧ Rep own w A e.val) ∧
      (∀ key, (∀ e ∈ es.toList, e.key ≠ key) → mget m key = none) ∧ (es.toList.Pairwise fun x y => x.key ≠ y.key) ∧ Stmp es clock ∧ ∃ e ∈ es.toList, e.key = k ∧ e.born = s

theorem Row.sat.lt {own : Nat → Prop} {w : World} {r : Row} (h : r.sat own w) {b : Nat} (hb : r.block = some b) : b < w.heap.size := by
  cases r with
  | blk b' T cs =>
    cases hb
    obtain ⟨us, hh, _⟩ := h
    exact (Array.getElem?_eq_some_iff.1 hh).1
  | own x E sz n g =>
    obtain ⟨us, ho, _⟩ := h
    exact (ho.lt b hb).2
  | map b' K m =>
    cases hb
    obtain ⟨es, clock, hh, _⟩ := h
    exact (Array.getElem?_eq_some_iff.1 hh).1
  | mapE b' K m k s =>
    cases hb
    obtain ⟨es, clock, hh, _⟩ := h
    exact (Array.getElem?_eq_some_iff.1 hh).1

/-- A row stands where its block and what is not owned stand. -/
theorem Row.sat.ext {own own' : Nat → Prop} {w w' : World} {r : Row} (h : r.sat own w) (he : Ext own own' w w') (hb : ∀ b, r.block = some b → w'.heap[b]? = w.heap[b]?) : r.sat own' w' := by
  cases r with
  | blk b T cs =>
    obtain ⟨us, hh, hl, h1, hr⟩ := h
    exact ⟨us, (hb b rfl).trans hh, hl, h1, fun j A u ha hu => (hr j A u ha hu).ext he⟩
  | own x E sz n g =>
    obtain ⟨us, ho, hl, h1, hr⟩ := h
    refine ⟨us, ?_, hl, h1, fun i hi j A ha => ?_⟩
    · refine ⟨ho.1, ?_⟩
      rcases ho.2 with hn | ⟨g', cap, cur, rfl, hb0, hg, rest⟩
      · exact .inl hn
      · exact .inr ⟨g', cap, cur, rfl, hb0, (hb g' rfl).trans hg, rest⟩
    · obtain ⟨u, hu, hrep⟩ := hr i hi j A ha
      exact ⟨u, hu, hrep.ext he⟩
  | map b K m =>
    obtain ⟨es, clock, hh, h1, h2, h3⟩ := h
    exact ⟨es, clock, (hb b rfl).trans hh, h1, fun e hm => by obtain ⟨A, ha, hr⟩ := h2 e hm; exact ⟨A, ha, hr.ext he⟩, h3⟩
  | mapE b K m k s =>
    obtain ⟨es, clock, hh, h1, h2, h3⟩ := h
    exact ⟨es, clock, (hb b rfl).trans hh, h1, fun e hm => by obtain ⟨A, ha, hr⟩ := h2 e hm; exact ⟨A, ha, hr.ext he⟩, h3⟩

abbrev Rows := List (Nat × Row)
abbrev Slots := List (Nat × AV)

def Own (off : Nat → Prop) (F : Rows) (b : Nat) : Prop := off b ∨ ∃ r ∈ F, r.2.block = some b

structure Sat (off : Nat → Prop) (F : Rows) (w : World) : Prop where
  rows : ∀ r ∈ F, r.2.sat (Own off F) w
  nodup : F.Pairwise fun r s => ∀ b, r.2.block = some b → s.2.block ≠ some b
  off : ∀ r ∈ F, ∀ b, r.2.block = some b → ¬ off b

theorem Sat.lt {off : Nat → Prop} {F : Rows} {w : World} (h : Sat off F w) {r : Nat × Row} (hr : r ∈ F) {b : Nat} (hb : r.2.block = some b) : b < w.heap.size := (h.rows r hr).lt hb

theorem Sat.nil (off : Nat → Prop) (w : World) : Sat off [] w := ⟨by simp, by simp, by simp⟩

/-- Where nothing of one's own is touched. -/
theorem Sat.still {off : Nat → Prop} {F : Rows} {w w' : World} (h : Sat off F w) (hs : w.heap.size ≤ w'.heap.size) (hb : ∀ b, b < w.heap.size → w'.heap[b]? = w.heap[b]?) : Sat off F w' :=
  ⟨fun r hr => (h.rows r hr).ext ⟨hs, fun b hlt _ => hb b hlt, fun _ _ h => h⟩ fun b hrb => hb b (h.lt hr hrb), h.nodup, h.off⟩

theorem Sat.tail {off : Nat → Prop} {F G : Rows} {w : World} (h : Sat off F w) (hs : G.Sublist F) : Sat off G w :=
  ⟨fun r hr => (h.rows r (hs.subset hr)).ext (Ext.less (fun b hb => by
      rcases hb with hb | ⟨s, hs', hsb⟩
      · exact .inl hb
      · exact .inr ⟨s, hs.subset hs', hsb⟩) w) fun _ _ => rfl,
   h.nodup.sublist hs, fun r hr => h.off r (hs.subset hr)⟩

theorem Own.tail {off : Nat → Prop} {F G : Rows} (hs : ∀ r ∈ G, r ∈ F) {b : Nat} (h : Own off G b) : Own off F b := by
  rcases h with h | ⟨s, h1, h2⟩
  · exact .inl h
  · exact .inr ⟨s, hs s h1, h2⟩

theorem own_new {off : Nat → Prop} {F : Rows} {w : World} (h : Sat off F w) (hoff : ∀ b, off b → b < w.heap.size) : ¬ Own off F w.heap.size := by
  rintro (h1 | ⟨r, hr, hb⟩)
  · exact absurd (hoff _ h1) (by omega)
  · exact absurd (h.lt hr hb) (by omega)

/-- A row is turned, or another one stands in its place; its block is the old one, or a new one, or none. -/
theorem Sat.turn {off : Nat → Prop} {L1 L2 : Rows} {i i' : Nat} {r r' : Row} {w w' : World} (h : Sat off (L1 ++ (i, r) :: L2) w) (hoff : ∀ b, off b → b < w.heap.size) (hs : w.heap.size ≤ w'.heap.size)
    (hb : ∀ b, b < w.heap.size → r.block ≠ some b → w'.heap[b]? = w.heap[b]?) (hk : ∀ b, r'.block = some b → r.block = some b ∨ w.heap.size ≤ b)
    (hr : Ext (Own off (L1 ++ (i, r) :: L2)) (Own off (L1 ++ (i', r') :: L2)) w w' → r'.sat (Own off (L1 ++ (i', r') :: L2)) w') :
    Sat off (L1 ++ (i', r') :: L2) w' ∧ Ext (Own off (L1 ++ (i, r) :: L2)) (Own off (L1 ++ (i', r') :: L2)) w w' := by
  have hmem : (i, r) ∈ L1 ++ (i, r) :: L2 := by simp
  have he : Ext (Own off (L1 ++ (i, r) :: L2)) (Own off (L1 ++ (i', r') :: L2)) w w' := by
    refine ⟨hs, fun b hlt hn => hb b hlt fun e => hn (.inr ⟨_, hmem, e⟩), fun b hlt hn => ?_⟩
    rintro (h1 | ⟨s, h1, h2⟩)
    · exact hn (.inl h1)
    · rcases List.mem_append.1 h1 with h3 | h3
      · exact hn (.inr ⟨s, by simp [h3], h2⟩)
      · rcases List.mem_cons.1 h3 with rfl | h3
        · rcases hk b h2 with h4 | h4
          · exact hn (.inr ⟨_, hmem, h4⟩)
          · omega
        · exact hn (.inr ⟨s, by simp [h3], h2⟩)
  obtain ⟨n1, n2, n3⟩ := List.pairwise_append.1 h.nodup
  rw [List.pairwise_cons] at n2
  have other : ∀ s, s ∈ L1 ∨ s ∈ L2 → ∀ b, s.2.block = some b → r.block ≠ some b := by
    rintro s (hs | hs) b hsb e
    · exact n3 s hs (i, r) (by simp) b hsb e
    · exact n2.1 s hs b e hsb
  have hlt : ∀ s, s ∈ L1 ∨ s ∈ L2 → ∀ b, s.2.block = some b → b < w.heap.size := fun s hs b hsb => h.lt (by rcases hs with hs | hs <;> simp [hs]) hsb
  refine ⟨⟨fun s hs => ?_, ?_, fun s hs b hsb => ?_⟩, he⟩
  · have key : ∀ s, s ∈ L1 ∨ s ∈ L2 → s.2.sat (Own off (L1 ++ (i', r') :: L2)) w' := fun s hs =>
      (h.rows s (by rcases hs with hs | hs <;> simp [hs])).ext he fun b hsb => hb b (hlt s hs b hsb) (other s hs b hsb)
    rcases List.mem_append.1 hs with h3 | h3
    · exact key s (.inl h3)
    · rcases List.mem_cons.1 h3 with rfl | h3
      · exact hr he
      · exact key s (.inr h3)
  · refine List.pairwise_append.2 ⟨n1, List.pairwise_cons.2 ⟨fun s hs b e1 e2 => ?_, n2.2⟩, fun s hs t ht b e1 e2 => ?_⟩
    · rcases hk b e1 with h4 | h4
      · exact n2.1 s hs b h4 e2
      · exact absurd (hlt s (.inr hs) b e2) (by omega)
    · rcases List.mem_cons.1 ht with rfl | ht
      · rcases hk b e2 with h4 | h4
        · exact n3 s hs (i, r) (by simp) b e1 h4
        · exact absurd (hlt s (.inl hs) b e1) (by omega)
      · exact n3 s hs t (by simp [ht]) b e1 e2
  · rcases List.mem_append.1 hs with h3 | h3
    · exact h.off s (by simp [h3]) b hsb
    · rcases List.mem_cons.1 h3 with rfl | h3
      · intro ho
        rcases hk b hsb with h4 | h4
        · exact h.off (i, r) hmem b h4 ho
        · exact absurd (hoff b ho) (by omega)
      · exact h.off s (by simp [h3]) b hsb

/-- A new row. -/
theorem Sat.add {off : Nat → Prop} {F : Rows} {i : Nat} {r : Row} {w w' : World} (h : Sat off F w) (hoff : ∀ b, off b → b < w.heap.size) (hs : w.heap.size ≤ w'.heap.size)
    (hb : ∀ b, b < w.heap.size → w'.heap[b]? = w.heap[b]?) (hk : ∀ b, r.block = some b → w.heap.size ≤ b)
    (hr : Ext (Own off F) (Own off ((i, r) :: F)) w w' → r.sat (Own off ((i, r) :: F)) w') : Sat off ((i, r) :: F) w' ∧ Ext (Own off F) (Own off ((i, r) :: F)) w w' := by
  have he : Ext (Own off F) (Own off ((i, r) :: F)) w w' := by
    refine ⟨hs, fun b hlt _ => hb b hlt, fun b hlt hn => ?_⟩
    rintro (h1 | ⟨s, h1, h2⟩)
    · exact hn (.inl h1)
    · rcases List.mem_cons.1 h1 with rfl | h3
      · exact absurd (hk b h2) (by omega)
      · exact hn (.inr ⟨s, h3, h2⟩)
  refine ⟨⟨fun s hs => ?_, List.pairwise_cons.2 ⟨fun s hs b e1 e2 => absurd (hk b e1) (by have := h.lt hs e2; omega), h.nodup⟩, fun s hs b hsb ho => ?_⟩, he⟩
  · rcases List.mem_cons.1 hs with rfl | h3
    · exact hr he
    · exact (h.rows s h3).ext he fun b hsb => hb b (h.lt h3 hsb)
  · rcases List.mem_cons.1 hs with rfl | h3
    · exact absurd (hk b hsb) (by have := hoff b ho; omega)
    · exact h.off s h3 b hsb ho

/-- What a walk stands in: blocks of others, blocks that may turn, the world at the begin, how many slots. -/
structure Ctx where
  off : Nat → Prop
  fo : Nat → Prop
  w0 : World
  N : Nat

structure R (c : Ctx) (σ : Slots) (F : Rows) (a : Act) (w : World) : Prop where
  len : a.tmps.size = c.N
  defers : a.defers = []
  hoff : ∀ b, c.off b → b < c.w0.heap.size
  kept : Kept c.fo c.w0 w
  fresh : ∀ r ∈ F, ∀ b, r.2.block = some b → c.fo b ∨ c.w0.heap.size ≤ b
  sat : Sat c.off F w
  slots : ∀ k A, σ.lookup k = some A → Rep (Own c.off F) w A (a.tmps.getD k undef)

theorem R.off {c : Ctx} {σ : Slots} {F : Rows} {a : Act} {w : World} (h : R c σ F a w) : ∀ b, c.off b → b < w.heap.size := fun b hb => Nat.lt_of_lt_of_le (h.hoff b hb) h.kept.size

theorem lookup_cons {α : Type} (k d : Nat) (x : α) (l : List (Nat × α)) : ((d, x) :: l).lookup k = if k = d then some x else l.lookup k := by
  rw [List.lookup_cons]
  by_cases h : k = d
  · subst h; simp
  · have : (k == d) = false := by simpa using h
    simp [this, h]

theorem put_get (a : Act) (d k : Nat) (x : Value) (h : d < a.tmps.size) : (a.put (some d) x).tmps.getD k undef = if k = d then x else a.tmps.getD k undef := by
  simp only [Act.put, Array.getD_eq_getD_getElem?, Array.getElem?_setIfInBounds]
  by_cases hk : k = d
  · subst hk; simp [h]
  · rw [if_neg (fun e => hk e.symm), if_neg hk]

theorem of_blt {a b : Nat} (h : Nat.blt a b = true) : a < b := Nat.le_of_ble_eq_true h

/-- A step that turns rows. -/
theorem R.step {c : Ctx} {σ : Slots} {F F' : Rows} {a : Act} {w w' : World} (h : R c σ F a w) {d : Nat} {A : AV} {x : Value} (hd : d < c.N) (hk : Kept c.fo c.w0 w') (hf : ∀ r ∈ F', ∀ b, r.2.block = some b → c.fo b ∨ c.w0.heap.size ≤ b)
    (hs : Sat c.off F' w') (he : Ext (Own c.off F) (Own c.off F') w w') (hx : Rep (Own c.off F') w' A x) : R c ((d, A) :: σ) F' (a.put (some d) x) w' := by
  refine ⟨by simpa [Act.put] using h.len, h.defers, h.hoff, hk, hf, hs, fun k B hB => ?_⟩
  rw [lookup_cons] at hB
  rw [put_get _ _ _ _ (by rw [h.len]; exact hd)]
  split at hB
  · rename_i e; rw [if_pos e]; cases hB; exact hx
  · rename_i e; rw [if_neg e]; exact (h.slots k B hB).ext he

theorem R.step_none {c : Ctx} {σ : Slots} {F F' : Rows} {a : Act} {w w' : World} (h : R c σ F a w) {x : Value} (hk : Kept c.fo c.w0 w') (hf : ∀ r ∈ F', ∀ b, r.2.block = some b → c.fo b ∨ c.w0.heap.size ≤ b)
    (hs : Sat c.off F' w') (he : Ext (Own c.off F) (Own c.off F') w w') : R c σ F' (a.put none x) w' :=
  ⟨h.len, h.defers, h.hoff, hk, hf, hs, fun k B hB => (h.slots k B hB).ext he⟩

/-- A step that turns nothing. -/
theorem R.pure {c : Ctx} {σ : Slots} {F : Rows} {a : Act} {w : World} (h : R c σ F a w) {d : Nat} {A : AV} {x : Value} (hd : d < c.N) (hx : Rep (Own c.off F) w A x) : R c ((d, A) :: σ) F (a.put (some d) x) w :=
  h.step hd h.kept h.fresh h.sat (Ext.refl _ _) hx

theorem R.drew {c : Ctx} {σ : Slots} {F : Rows} {a : Act} {w : World} (h : R c σ F a w) (n : Nat) : R c σ F a (w.drewN n) :=
  ⟨h.len, h.defers, h.hoff, h.kept.drewN n, h.fresh, h.sat.still (Nat.le_refl _) (fun _ _ => rfl), fun k A hA => (h.slots k A hA).ext ⟨Nat.le_refl _, fun _ _ _ => rfl, fun _ _ h => h⟩⟩

/-- Less is known. -/
def Imp (A B : AV) : Prop := ∀ own w x, Rep own w A x → Rep own w B x
theorem Imp.refl (A : AV) : Imp A A := fun _ _ _ h => h
theorem Imp.any (A : AV) : Imp A .any := fun _ _ x _ => .any x
theorem Imp.nil (sz : Nat) (g : Nat → List AV) : Imp (.v (.slice none 0 0)) (.lst sz 0 g) := fun own w x h => by
  cases h
  exact .lst (fun _ _ => .bool false) (Nat.le_refl _) (by simp) (fun _ => ⟨rfl, rfl⟩) (fun i hi => absurd hi (by omega)) (fun _ _ => rfl) (fun ad ha => by cases ha) (fun ad ha => by cases ha) (fun i hi => absurd hi (by omega))
theorem Imp.of_eq {A B : AV} (h : A = B) : Imp A B := h ▸ Imp.refl A

theorem R.weaken {c : Ctx} {σ σ' : Slots} {F G : Rows} {a : Act} {w : World} (h : R c σ F a w) (hs : ∀ p ∈ σ', ∃ A, σ.lookup p.1 = some A ∧ Imp A p.2) (hF : G.Sublist F) : R c σ' G a w := by
  refine ⟨h.len, h.defers, h.hoff, h.kept, fun r hr => h.fresh r (hF.subset hr), h.sat.tail hF, fun k A hA => ?_⟩
  have hm : (k, A) ∈ σ' := by
    clear hs
    induction σ' with
    | nil => cases hA
    | cons p t ih =>
      obtain ⟨d, B⟩ := p
      rw [lookup_cons] at hA
      split at hA
      · rename_i e; cases hA; subst e; simp
      · exact List.mem_cons_of_mem _ (ih hA)
  obtain ⟨B, hB, hi⟩ := hs _ hm
  exact hi _ _ _ ((h.slots k B hB).ext (Ext.less (fun b hb => Own.tail (fun r hr => hF.subset hr) hb) w))

theorem R.weakenSlot {c : Ctx} {σ : Slots} {F : Rows} {a : Act} {w : World} {A B : AV} (d : Nat) (h : R c ((d, A) :: σ) F a w) (hi : Imp A B) : R c ((d, B) :: σ) F a w :=
  ⟨h.len, h.defers, h.hoff, h.kept, h.fresh, h.sat, fun k C hC => by
    have := h.slots k
    rw [lookup_cons] at hC this
    split at hC
    · rename_i e; cases hC; exact hi _ _ _ (this A (by rw [if_pos e]))
    · rename_i e; exact this C (by rw [if_neg e]; exact hC)⟩

end Go.Proofs.YtbogfmgfafdjiaaGreatDoor

/- The program's types as a short table, and that the table tells the truth. -/
namespace Go.Proofs.YtbogfmgfafdjiaaGreatDoor
set_option linter.unusedVariables false
set_option linter.unusedSimpArgs false
open Go.RowKit

inductive TD where
  | int (k : IntKind)
  | bool
  | str
  | float (k : FloatKind)
  | cplx (k : FloatKind)
  | slice (e : TypeId)
  | struct (fs : List (Nat × TypeId × Nat))
  | array (n : Nat) (e : TypeId)
  | map (k e : TypeId)
  | ptr (e : TypeId)
  | func
  deriving DecidableEq

structure TI where
  d : TD
  size : Nat
  bytes : Nat
  zero : List Value
  eq : Bool

abbrev Types := List (Nat × TI)

/-- Two values of no address, alike to sight. -/
def veq : Value → Value → Bool
  | .bool a, .bool b => a == b
  | .int j a, .int k b => j == k && a == b
  | .float j a, .float k b => j == k && a == b
  | .complex j a c, .complex k b d => j == k && a == b && c == d
  | .string a, .string b => a.data == b.data
  | .pointer none, .pointer none => true
  | .slice none a b, .slice none c d => a == c && b == d
  | .map none, .map none => true
  | .nilFunc, .nilFunc => true
  | .nilIface, .nilIface => true
  | _, _ => false

theorem veq_eq {a b : Value} (h : veq a b = true) : a = b := by
  unfold veq at h
  split at h <;> simp at h
  · subst h; rfl
  · obtain ⟨rfl, rfl⟩ := h; rfl
  · obtain ⟨rfl, rfl⟩ := h; rfl
  · obtain ⟨⟨rfl, rfl⟩, rfl⟩ := h; rfl
  · rename_i a b; cases a; cases b; simp at h; subst h; rfl
  · rfl
  · obtain ⟨rfl, rfl⟩ := h; rfl
  · rfl
  · rfl
  · rfl

def veqs : List Value → List Value → Bool
  | [], [] => true
  | a :: l, b :: m => veq a b && veqs l m
  | _, _ => false
theorem veqs_eq : ∀ {l m : List Value}, veqs l m = true → l = m
  | [], [], _ => rfl
  | a :: l, b :: m, h => by simp [veqs] at h; rw [veq_eq h.1, veqs_eq h.2]
  | [], b :: m, h => by simp [veqs] at h
  | a :: l, [], h => by simp [veqs] at h

def fsOk (P : Program) : List Field → List (Nat × TypeId × Nat) → Bool
  | [], [] => true
  | f :: l, (o, t, n) :: m => f.offset == o && f.type == t && (P.info? t).map (·.size) == some n && n != 0 && f.name != "_" && fsOk P l m
  | _, _ => false

/-- The type is what the table tells. -/
def dOk (P : Program) : TypeDesc → TD → Bool
  | .int k, .int k' => k == k'
  | .bool, .bool => true
  | .string, .str => true
  | .float k, .float k' => k == k'
  | .complex k, .cplx k' => k == k'
  | .slice e, .slice e' => e == e'
  | .struct fs, .struct l => fsOk P fs.toList l
  | .array n e, .array n' e' => n == n' && e == e'
  | .map k e, .map k' e' => k == k' && e == e'
  | .pointer e, .ptr e' => e == e'
  | .func _ _ _, .func => true
  | _, _ => false

def chk (P : Program) (p : Nat × TI) : Bool :=
  match P.info? p.1, P.underlying p.1 with
  | some i, some d =>
    i.size == p.2.size && p.2.size != 0 && i.bytes == p.2.bytes && (match i.zero with | some z => veqs z.cells.toList p.2.zero && (p.2.zero.all Value.oneCell') && z.cells.size == p.2.size | none => false) && dOk P d p.2.d &&
      (!p.2.eq || (!P.stoodInHeld p.1 && !P.eqGuardType P.depth p.1))
  | _, _ => false

def TOk (P : Program) (T : Types) : Prop := T.all (chk P) = true

structure Told (P : Program) (t : Nat) (i : TI) : Prop where
  info : ∃ j z, P.info? t = some j ∧ j.size = i.size ∧ j.bytes = i.bytes ∧ j.zero = some z ∧ z.cells.toList = i.zero
  pos : 0 < i.size
  zsize : i.zero.length = i.size
  zone : ∀ u ∈ i.zero, u.oneCell' = true
  desc : ∃ d, P.underlying t = some d ∧ dOk P d i.d = true
  eq : i.eq = true → P.stoodInHeld t = false ∧ P.eqGuardType P.depth t = false

theorem lookup_mem {α : Type} {l : List (Nat × α)} {k : Nat} {x : α} (h : l.lookup k = some x) : (k, x) ∈ l := by
  induction l with
  | nil => cases h
  | cons p t ih =>
    obtain ⟨d, y⟩ := p
    rw [lookup_cons] at h
    split at h
    · rename_i e; cases h; subst e; simp
    · exact List.mem_cons_of_mem _ (ih h)

theorem TOk.told {P : Program} {T : Types} (h : TOk P T) {t : Nat} {i : TI} (ht : T.lookup t = some i) : Told P t i := by
  have := List.all_eq_true.1 h _ (lookup_mem ht)
  unfold chk at this
  cases h1 : P.info? t with
  | none => simp [h1] at this
  | some j =>
    cases h2 : P.underlying t with
    | none => simp [h1, h2] at this
    | some d =>
      cases h3 : j.zero with
      | none => simp [h1, h2, h3] at this
      | some z =>
        simp only [h1, h2, h3, Bool.and_eq_true, beq_iff_eq] at this
        obtain ⟨⟨⟨⟨⟨h4, h45⟩, h5⟩, ⟨h6, h7⟩, h8⟩, h9⟩, h10⟩ := this
        have hz := veqs_eq h6
        refine ⟨⟨j, z, h1, h4, h5, h3, hz⟩, by simp at h45; omega, ?_, ?_, ⟨d, h2, h9⟩, fun e => ?_⟩
        · rw [← hz, Array.length_toList, h8]
        · exact fun u hu => List.all_eq_true.1 h7 u hu
        · simp [e] at h10; exact h10

section
variable {P : Program} {t : Nat} {i : TI}
theorem Told.int {k : IntKind} (h : Told P t i) (hd : i.d = .int k) : P.underlying t = some (.int k) := by
  obtain ⟨d, h1, h2⟩ := h.desc; rw [hd] at h2; cases d <;> simp [dOk] at h2; subst h2; exact h1
theorem Told.bool (h : Told P t i) (hd : i.d = .bool) : P.underlying t = some .bool := by
  obtain ⟨d, h1, h2⟩ := h.desc; rw [hd] at h2; cases d <;> simp [dOk] at h2; exact h1
theorem Told.str (h : Told P t i) (hd : i.d = .str) : P.underlying t = some .string := by
  obtain ⟨d, h1, h2⟩ := h.desc; rw [hd] at h2; cases d <;> simp [dOk] at h2; exact h1
theorem Told.float {k : FloatKind} (h : Told P t i) (hd : i.d = .float k) : P.underlying t = some (.float k) := by
  obtain ⟨d, h1, h2⟩ := h.desc; rw [hd] at h2; cases d <;> simp [dOk] at h2; subst h2; exact h1
theorem Told.cplx {k : FloatKind} (h : Told P t i) (hd : i.d = .cplx k) : P.underlying t = some (.complex k) := by
  obtain ⟨d, h1, h2⟩ := h.desc; rw [hd] at h2; cases d <;> simp [dOk] at h2; subst h2; exact h1
theorem Told.slice {e : TypeId} (h : Told P t i) (hd : i.d = .slice e) : P.underlying t = some (.slice e) := by
  obtain ⟨d, h1, h2⟩ := h.desc; rw [hd] at h2; cases d <;> simp [dOk] at h2; subst h2; exact h1
theorem Told.array {n : Nat} {e : TypeId} (h : Told P t i) (hd : i.d = .array n e) : P.underlying t = some (.array n e) := by
  obtain ⟨d, h1, h2⟩ := h.desc; rw [hd] at h2; cases d <;> simp [dOk] at h2; obtain ⟨rfl, rfl⟩ := h2; exact h1
theorem Told.map {k e : TypeId} (h : Told P t i) (hd : i.d = .map k e) : P.underlying t = some (.map k e) := by
  obtain ⟨d, h1, h2⟩ := h.desc; rw [hd] at h2; cases d <;> simp [dOk] at h2; obtain ⟨rfl, rfl⟩ := h2; exact h1
theorem Told.ptr {e : TypeId} (h : Told P t i) (hd : i.d = .ptr e) : P.underlying t = some (.pointer e) := by
  obtain ⟨d, h1, h2⟩ := h.desc; rw [hd] at h2; cases d <;> simp [dOk] at h2; subst h2; exact h1
theorem Told.func (h : Told P t i) (hd : i.d = .func) : ∃ a b c, P.underlying t = some (.func a b c) := by
  obtain ⟨d, h1, h2⟩ := h.desc; rw [hd] at h2; cases d <;> simp [dOk] at h2; exact ⟨_, _, _, h1⟩
theorem Told.struct {fs : List (Nat × TypeId × Nat)} (h : Told P t i) (hd : i.d = .struct fs) : ∃ l : Array Field, P.underlying t = some (.struct l) ∧ fsOk P l.toList fs = true := by
  obtain ⟨d, h1, h2⟩ := h.desc; rw [hd] at h2; cases d <;> simp [dOk] at h2; exact ⟨_, h1, h2⟩

theorem fsOk_get {P : Program} : ∀ {l : List Field} {fs : List (Nat × TypeId × Nat)} {k o t n : Nat}, fsOk P l fs = true → fs[k]? = some (o, t, n) →
    ∃ f, l[k]? = some f ∧ f.offset = o ∧ f.type = t ∧ (P.info? t).map (·.size) = some n ∧ n ≠ 0 ∧ f.name ≠ "_"
  | f :: l, (o', t', n') :: fs, 0, o, t, n, h, hk => by
    simp [fsOk] at h
    simp at hk
    obtain ⟨rfl, rfl, rfl⟩ := hk
    obtain ⟨⟨⟨⟨⟨h1, h2⟩, h3⟩, h4⟩, h5⟩, _⟩ := h
    exact ⟨f, rfl, h1, h2, by simpa using h3, h4, h5⟩
  | f :: l, (o', t', n') :: fs, k + 1, o, t, n, h, hk => by
    simp [fsOk] at h
    simpa using fsOk_get h.2 (by simpa using hk)
  | [], [], k, o, t, n, h, hk => by simp at hk
  | [], x :: fs, k, o, t, n, h, hk => by simp [fsOk] at h
  | f :: l, [], k, o, t, n, h, hk => by simp at hk
theorem fsOk_length {P : Program} : ∀ {l : List Field} {fs : List (Nat × TypeId × Nat)}, fsOk P l fs = true → l.length = fs.length
  | [], [], _ => rfl
  | f :: l, (o, t, n) :: fs, h => by simp [fsOk] at h; simp [fsOk_length h.2]
  | [], x :: fs, h => by simp [fsOk] at h
  | f :: l, [], h => by simp [fsOk] at h

theorem Told.size (h : Told P t i) (w : World) : (sizeOf t).run P w = .ok i.size w := by
  obtain ⟨j, z, h1, h2, -⟩ := h.info
  simp [sizeOf, typeInfo, h1, h2]
theorem Told.run_zero (h : Told P t i) : ∃ z : Value, z.cells.toList = i.zero ∧ ∀ w, (zeroValue t).run P w = .ok z w := by
  obtain ⟨j, z, h1, h2, h3, h4, h5⟩ := h.info
  exact ⟨z, h5, fun w => by simp [zeroValue, typeInfo, h1, h4]⟩
def TD.agg : TD → Bool
  | .struct _ | .array _ _ => true
  | _ => false
theorem Told.run_agg (h : Told P t i) (w : World) : (isAgg t).run P w = .ok i.d.agg w := by
  obtain ⟨d, h1, h2⟩ := h.desc
  unfold isAgg
  simp only [Sem.run_bind, run_underlying h1, Result.andThen_ok]
  revert h2
  cases d <;> cases hd : i.d <;> simp [dOk, TD.agg]
end

end Go.Proofs.YtbogfmgfafdjiaaGreatDoor

/- Operations that only compute or read, on abstract values. -/
namespace Go.Proofs.YtbogfmgfafdjiaaGreatDoor
set_option linter.unusedVariables false
set_option linter.unusedSimpArgs false
open Go.RowKit

/-- It fits an int. -/
def fits (z : Int) : Prop := -9223372036854775808 ≤ z ∧ z ≤ 9223372036854775807
theorem wrap_fits {z : Int} (h : fits z) : IntKind.i64.wrap z = z := by
  have := h.1; have := h.2
  have e : IntKind.i64.wrap z = if 9223372036854775808 ≤ z % 18446744073709551616 then z % 18446744073709551616 - 18446744073709551616 else z % 18446744073709551616 := by
    simp [IntKind.wrap, IntKind.signed, IntKind.bits]
  rw [e]
  split <;> omega

def stripA : AV → AV × Prop
  | .when c t (.when c' t' A) => (A, c = t ∧ c' = t')
  | .when c t A => (A, c = t)
  | A => (A, True)
theorem strip_rep {own : Nat → Prop} {w : World} {A : AV} {x : Value} (h : Rep own w A x) (hc : (stripA A).2) : Rep own w (stripA A).1 x := by
  cases h with
  | @when c t A _ h _ =>
    cases A with
    | when c' t' B =>
      have h1 := h hc.1
      cases h1 with
      | when h2 _ => exact h2 hc.2
    | _ => exact h hc
  | v x => exact .v x
  | any x => exact .any x
  | agg hl h1 h => exact .agg hl h1 h
  | tup hl h => exact .tup hl h
  | lst u hn hm hnil hlen h1 hc' hb hr => exact .lst u hn hm hnil hlen h1 hc' hb hr
  | pel u hl h1 hc' hb hr => exact .pel u hl h1 hc' hb hr
  | fn hl h => exact .fn hl h
  | ref id x h1 => exact .ref id x h1
  | ptr id b off => exact .ptr id b off
  | eptr id x sz k off => exact .eptr id x sz k off

def evalA (σ : Slots) : Operand → Option AV
  | .tmp t => σ.lookup t
  | .const x => some (.v x)
  | .func f => some (.fn (.func f) [])
  | .global g => some (.v (.pointer (some ⟨g, 0, none⟩)))
def evalS (σ : Slots) (x : Operand) : Option (AV × Prop) := (evalA σ x).map stripA

section
variable {c : Ctx} {σ : Slots} {F : Rows} {a : Act} {w : World}
theorem R.eval (h : R c σ F a w) {x : Operand} {A : AV} (he : evalA σ x = some A) : Rep (Own c.off F) w A (a.eval x) := by
  cases x with
  | tmp t => exact h.slots t A he
  | const v => cases he; exact .v v
  | func f => cases he; exact .fn (us := []) rfl (by simp)
  | global g => cases he; exact .v _
theorem R.evals (h : R c σ F a w) {x : Operand} {A : AV} {C : Prop} (he : evalS σ x = some (A, C)) (hC : C) : Rep (Own c.off F) w A (a.eval x) := by
  unfold evalS at he
  cases h1 : evalA σ x with
  | none => simp [h1] at he
  | some B =>
    simp only [h1, Option.map_some, Option.some.injEq] at he
    have := strip_rep (h.eval h1)
    rw [he] at this
    exact this hC
end

/-- Numbers. -/
def intA (op : BinOp) (k : IntKind) (x y : Int) : Option (AV × Prop) :=
  match op with
  | .add => some (if k = .i64 then (.v (.int k (x + y)), fits (x + y)) else (.v (.int k (k.wrap (x + y))), True))
  | .sub => some (if k = .i64 then (.v (.int k (x - y)), fits (x - y)) else (.v (.int k (k.wrap (x - y))), True))
  | .mul => some (if k = .i64 then (.v (.int k (x * y)), fits (x * y)) else (.v (.int k (k.wrap (x * y))), True))
  | .quo => some (if k = .i64 then (.v (.int k (x.tdiv y)), y ≠ 0 ∧ fits (x.tdiv y)) else (.v (.int k (k.wrap (x.tdiv y))), y ≠ 0))
  | .rem => some (.v (.int k (x.tmod y)), y ≠ 0)
  | .and => some (.v (.int k (k.wrap (BitVec.ofInt k.bits x &&& BitVec.ofInt k.bits y).toNat)), True)
  | .or => some (.v (.int k (k.wrap (BitVec.ofInt k.bits x ||| BitVec.ofInt k.bits y).toNat)), True)
  | .xor => some (.v (.int k (k.wrap (BitVec.ofInt k.bits x ^^^ BitVec.ofInt k.bits y).toNat)), True)
  | .eql => some (.v (.bool (x == y)), True)
  | .neq => some (.v (.bool (x != y)), True)
  | .lss => some (.v (.bool (x < y)), True)
  | .leq => some (.v (.bool (x ≤ y)), True)
  | .gtr => some (.v (.bool (x > y)), True)
  | .geq => some (.v (.bool (x ≥ y)), True)
  | _ => none

theorem int_sound {P : Program} {op : BinOp} {k : IntKind} {x y : Int} {A : AV} {C : Prop} (h : intA op k x y = some (A, C)) (hC : C) (t : TypeId) :
    ∃ u, A = .v u ∧ ∀ w, (binOp op t (.int k x) (.int k y)).run P w = .ok u w := by
  unfold intA at h
  cases op <;> dsimp only at h
  case add => split at h <;> cases h <;> (refine ⟨_, rfl, fun w => ?_⟩) <;> simp_all [binOp, Op.intArith, wrap_fits]
  case sub => split at h <;> cases h <;> (refine ⟨_, rfl, fun w => ?_⟩) <;> simp_all [binOp, Op.intArith, wrap_fits]
  case mul => split at h <;> cases h <;> (refine ⟨_, rfl, fun w => ?_⟩) <;> simp_all [binOp, Op.intArith, wrap_fits]
  case quo => split at h <;> cases h <;> (refine ⟨_, rfl, fun w => ?_⟩) <;> simp_all [binOp, Op.intDiv, wrap_fits]
  case rem => cases h; refine ⟨_, rfl, fun w => ?_⟩; simp_all [binOp, Op.intDiv]
  case and => cases h; refine ⟨_, rfl, fun w => ?_⟩; simp [binOp, Op.intBits]
  case or => cases h; refine ⟨_, rfl, fun w => ?_⟩; simp [binOp, Op.intBits]
  case xor => cases h; refine ⟨_, rfl, fun w => ?_⟩; simp [binOp, Op.intBits]
  all_goals first | (cases h; done) | (cases h; refine ⟨_, rfl, fun w => ?_⟩; simp [binOp, Op.intCmp])

def shiftA (op : BinOp) (k : IntKind) (x y : Int) : Option (AV × Prop) :=
  match op with
  | .shl => some (.v (.int k (k.wrap (x * 2 ^ min y.toNat k.bits))), 0 ≤ y)
  | .shr => some (.v (.int k (x.fdiv (2 ^ min y.toNat k.bits))), 0 ≤ y)
  | _ => none
theorem shift_sound {P : Program} {op : BinOp} {k k' : IntKind} {x y : Int} {A : AV} {C : Prop} (h : shiftA op k x y = some (A, C)) (hC : C) (t : TypeId) :
    ∃ u, A = .v u ∧ ∀ w, (binOp op t (.int k x) (.int k' y)).run P w = .ok u w := by
  unfold shiftA at h
  cases op <;> dsimp only at h
  all_goals first | (cases h; done) | (cases h; refine ⟨_, rfl, fun w => ?_⟩; simp [binOp, Op.shift, show ¬ y < 0 by omega])

def strA (op : BinOp) (x y : ByteArray) : Option (AV × Prop) :=
  match op with
  | .add => some (.v (.string (x ++ y)), x.size + y.size ≤ 9223372036854775807)
  | .eql => some (.v (.bool (x == y)), True)
  | .neq => some (.v (.bool (!(x == y))), True)
  | .lss => some (.v (.bool (Op.bytesLess x.toList y.toList)), True)
  | .gtr => some (.v (.bool (!(Op.bytesLess x.toList y.toList || x == y))), True)
  | _ => none
theorem str_sound {P : Program} {op : BinOp} {x y : ByteArray} {A : AV} {C : Prop} (h : strA op x y = some (A, C)) (hC : C) (t : TypeId) :
    ∃ u, A = .v u ∧ ∀ w, (binOp op t (.string x) (.string y)).run P w = .ok u w := by
  unfold strA at h
  cases op <;> dsimp only at h
  case add =>
    cases h
    refine ⟨_, rfl, fun w => ?_⟩
    have : ¬ ((x.size + y.size : Nat) : Int) > IntKind.i64.max := by show ¬ ((x.size + y.size : Nat) : Int) > 9223372036854775807; omega
    simp only [binOp, Op.stringOp, if_neg this]
    rfl
  all_goals first | (cases h; done) | (cases h; refine ⟨_, rfl, fun w => ?_⟩; simp [binOp, Op.stringOp, beq_toListBytes])

/-- Floats: what can be NaN asks that it is none. -/
def fltA (op : BinOp) (k : FloatKind) (x y : Nat) : Option (AV × Prop) :=
  match op with
  | .add => some (.v (.float k ((k.format.add x y).getD 0)), (k.format.add x y).isSome = true)
  | .sub => some (.v (.float k ((k.format.sub x y).getD 0)), (k.format.sub x y).isSome = true)
  | .mul => some (.v (.float k ((k.format.mul x y).getD 0)), (k.format.mul x y).isSome = true)
  | .eql => some (.v (.bool (k.format.order x y == some .eq)), True)
  | .neq => some (.v (.bool (k.format.order x y != some .eq)), True)
  | _ => none
theorem flt_run {P : Program} {op : BinOp} {k : FloatKind} {x y : Nat} (h : op = .add ∨ op = .sub ∨ op = .mul) {r : Option Nat} (hr : r = match op with | .add => k.format.add x y | .sub => k.format.sub x y | _ => k.format.mul x y) (hC : r.isSome = true) (w : World) :
    (Op.floatArith op k x y).run P w = .ok (.float k (r.getD 0)) w := by
  obtain ⟨z, hz⟩ := Option.isSome_iff_exists.1 hC
  rcases h with rfl | rfl | rfl <;> dsimp only at hr <;> subst hr <;> simp [Op.floatArith, hz]
theorem flt_sound {P : Program} {op : BinOp} {k : FloatKind} {x y : Nat} {A : AV} {C : Prop} (h : fltA op k x y = some (A, C)) (hC : C) (t : TypeId) :
    ∃ u, A = .v u ∧ ∀ w, (binOp op t (.float k x) (.float k y)).run P w = .ok u w := by
  unfold fltA at h
  cases op <;> dsimp only at h
  case add => cases h; exact ⟨_, rfl, fun w => by simp only [binOp, ne_eq, not_true_eq_false, if_false]; exact flt_run (.inl rfl) rfl hC w⟩
  case sub => cases h; exact ⟨_, rfl, fun w => by simp only [binOp, ne_eq, not_true_eq_false, if_false]; exact flt_run (.inr (.inl rfl)) rfl hC w⟩
  case mul => cases h; exact ⟨_, rfl, fun w => by simp only [binOp, ne_eq, not_true_eq_false, if_false]; exact flt_run (.inr (.inr rfl)) rfl hC w⟩
  all_goals first | (cases h; done) | (cases h; refine ⟨_, rfl, fun w => ?_⟩; simp [binOp, Op.floatCmp])

def cpxA (op : BinOp) (k : FloatKind) (a b c d : Nat) : Option (AV × Prop) :=
  match op with
  | .add => some (.v (.complex k ((k.format.add a c).getD 0) ((k.format.add b d).getD 0)), (k.format.add a c).isSome = true ∧ (k.format.add b d).isSome = true)
  | .eql => some (.v (.bool ((k.format.order a c == some .eq) && (k.format.order b d == some .eq))), True)
  | .neq => some (.v (.bool (!((k.format.order a c == some .eq) && (k.format.order b d == some .eq)))), True)
  | _ => none
theorem cpx_sound {P : Program} {op : BinOp} {k : FloatKind} {a b c d : Nat} {A : AV} {C : Prop} (h : cpxA op k a b c d = some (A, C)) (hC : C) (t : TypeId) :
    ∃ u, A = .v u ∧ ∀ w, (binOp op t (.complex k a b) (.complex k c d)).run P w = .ok u w := by
  have cmp : ∀ x y w, (Op.Complex.cmp .eql k x y).run P w = .ok (k.format.order x y == some .eq) w := fun x y w => by simp [Op.Complex.cmp, Op.floatCmp, asBool]
  unfold cpxA at h
  cases op <;> dsimp only at h
  case add =>
    cases h
    have ar : ∀ x y w, (k.format.add x y).isSome = true → (Op.Complex.arith .add k x y).run P w = .ok ((k.format.add x y).getD 0) w := fun x y w hz => by
      simp [Op.Complex.arith, flt_run (P := P) (op := .add) (k := k) (x := x) (y := y) (.inl rfl) rfl hz w]
    exact ⟨_, rfl, fun w => by simp [binOp, Op.complexOp, ar a c w hC.1, ar b d w hC.2]⟩
  case eql =>
    cases h
    exact ⟨_, rfl, fun w => by simp [binOp, Op.complexOp, cmp]⟩
  case neq =>
    cases h
    exact ⟨_, rfl, fun w => by simp [binOp, Op.complexOp, cmp]⟩
  all_goals cases h

/-- A part of an aggregate. -/
def partA (T : Types) (t : TypeId) (cs : List AV) (off : Nat) : Option AV :=
  (T.lookup t).bind fun i => if i.d.agg then (if off + i.size ≤ cs.length then some (.agg ((cs.drop off).take i.size)) else none) else cs[off]?
theorem part_sound {P : Program} {T : Types} (hT : TOk P T) {own : Nat → Prop} {w : World} {t : TypeId} {cs : List AV} {off : Nat} {A : AV} (h : partA T t cs off = some A) {us : List Value} (hl : us.length = cs.length)
    (h1 : ∀ u ∈ us, u.oneCell' = true) (hr : ∀ (j : Nat) A u, cs[j]? = some A → us[j]? = some u → Rep own w A u) :
    ∃ u, (∀ w', (part t us.toArray off).run P w' = .ok u w') ∧ Rep own w A u := by
  unfold partA at h
  cases ht : T.lookup t with
  | none => simp [ht] at h
  | some i =>
    have told := hT.told ht
    simp only [ht, Option.bind_some] at h
    unfold part
    simp only [Sem.run_bind, told.run_agg, Result.andThen_ok]
    cases hi : i.d.agg with
    | true =>
      rw [hi] at h
      simp only [if_true] at h ⊢
      split at h
      · cases h
        refine ⟨.agg ((us.drop off).take i.size).toArray, fun w' => ?_, ?_⟩
        · simp only [Sem.run_bind, told.size, Result.andThen_ok, Sem.run_pure]
          congr 2
          apply Array.ext'
          simp [List.extract_eq_take_drop]
        · refine .agg (by simp [hl]) (fun u hu => h1 u (List.mem_of_mem_drop (List.mem_of_mem_take hu))) fun j B u hB hu => ?_
          rw [List.getElem?_take] at hB hu
          split at hB
          · rename_i hj
            rw [if_pos hj] at hu
            rw [List.getElem?_drop] at hB hu
            exact hr _ B u hB hu
          · cases hB
      · cases h
    | false =>
      rw [hi] at h
      simp only [Bool.false_eq_true, if_false] at h ⊢
      have hlt := (List.getElem?_eq_some_iff.1 h).1
      have : us[off]? = some us[off] := List.getElem?_eq_getElem (by omega)
      refine ⟨us[off], fun w' => ?_, hr off A _ h this⟩
      simp [this]

/-- '=='. -/
def eqA (T : Types) : Nat → TypeId → AV → AV → Option Bool
  | 0, _, _, _ => none
  | d + 1, t, x, y =>
    match T.lookup t with
    | some i =>
      match i.d, x, y with
      | .int _, .v (.int k a), .v (.int k' b) => if k = k' then some (a == b) else none
      | .bool, .v (.bool a), .v (.bool b) => some (a == b)
      | .str, .v (.string a), .v (.string b) => some (a == b)
      | .struct fs, .agg xs, .agg ys => if i.eq then eqFs (eqA T d) T fs xs ys else none
      | .ptr _, .ptr _ _ _, .v (.pointer none) => some false
      | .ptr _, .v (.pointer none), .ptr _ _ _ => some false
      | .ptr _, .eptr _ _ _ _ _, .v (.pointer none) => some false
      | .ptr _, .v (.pointer none), .v (.pointer none) => some true
      | .slice _, .v (.slice none _ _), .v (.slice none _ _) => some true
      | _, _, _ => none
    | none => none
where
  eqFs (rec : TypeId → AV → AV → Option Bool) (T : Types) : List (Nat × TypeId × Nat) → List AV → List AV → Option Bool
    | [], _, _ => some true
    | (o, t, _) :: fs, xs, ys =>
      (partA T t xs o).bind fun x => (partA T t ys o).bind fun y => (rec t x y).bind fun r => (eqFs rec T fs xs ys).map fun s => r && s

theorem eqFs_sound {P : Program} {T : Types} (hT : TOk P T) {own : Nat → Prop} {w : World} {n : Nat} {rec : TypeId → AV → AV → Option Bool}
    (ih : ∀ t A B r, rec t A B = some r → ∀ x y, Rep own w A x → Rep own w B y → ∀ w', (Op.equalIn n t x y).run P w' = .ok r w') {xs ys : List Value} {cs ds : List AV}
    (hl : xs.length = cs.length) (h1 : ∀ u ∈ xs, u.oneCell' = true) (hr : ∀ (j : Nat) A u, cs[j]? = some A → xs[j]? = some u → Rep own w A u)
    (hl' : ys.length = ds.length) (h1' : ∀ u ∈ ys, u.oneCell' = true) (hr' : ∀ (j : Nat) A u, ds[j]? = some A → ys[j]? = some u → Rep own w A u) :
    ∀ (l : List Field) (fs : List (Nat × TypeId × Nat)) (r : Bool), fsOk P l fs = true → eqA.eqFs rec T fs cs ds = some r → ∀ w', (Op.eqFields n xs.toArray ys.toArray l).run P w' = .ok r w'
  | [], [], r, _, h, _ => by simp [eqA.eqFs] at h; subst h; simp [Op.eqFields]
  | [], x :: fs, r, h, _, _ => by simp [fsOk] at h
  | f :: l, [], r, h, _, _ => by simp [fsOk] at h
  | f :: l, (o, t, m) :: fs, r, hf, h, w' => by
    simp [fsOk] at hf
    obtain ⟨⟨⟨⟨⟨rfl, rfl⟩, h3⟩, h4⟩, h5⟩, h6⟩ := hf
    simp only [eqA.eqFs, Option.bind_eq_some_iff, Option.map_eq_some_iff] at h
    obtain ⟨A, hA, B, hB, p, hp, q, hq, rfl⟩ := h
    obtain ⟨x, hx, hxr⟩ := part_sound hT hA hl h1 hr
    obtain ⟨y, hy, hyr⟩ := part_sound hT hB hl' h1' hr'
    have hrest := eqFs_sound hT ih hl h1 hr hl' h1' hr' l fs q h6 hq w'
    rw [Op.eqFields]
    simp only [if_pos h5, Sem.run_bind, hx w', hy w', ih _ _ _ _ hp _ _ hxr hyr w', Result.andThen_ok]
    cases p
    · simp
    · simpa using hrest

theorem eq_sound {P : Program} {T : Types} (hT : TOk P T) {own : Nat → Prop} {w : World} : ∀ (d n : Nat) (t : TypeId) (A B : AV) (r : Bool), eqA T d t A B = some r → d ≤ n → ∀ x y, Rep own w A x → Rep own w B y → ∀ w', (Op.equalIn n t x y).run P w' = .ok r w'
  | 0, _, _, _, _, _, h, _, _, _, _, _, _ => by simp [eqA] at h
  | d + 1, 0, _, _, _, _, _, hn, _, _, _, _, _ => by omega
  | d + 1, n + 1, t, A, B, r, h, hn, x, y, hA, hB, w' => by
    rw [eqA] at h
    split at h
    case h_2 => cases h
    case h_1 i ht =>
      have told := hT.told ht
      split at h
      · rename_i k0 k a k' b hd
        cases hA; cases hB
        split at h <;> simp at h
        subst h; rename_i e; subst e
        exact run_equalIn_int w' n t _ _ a b (told.int hd)
      · rename_i a b hd
        cases hA; cases hB; simp at h; subst h
        exact run_equalIn_bool' w' n t a b (told.bool hd)
      · rename_i a b hd
        cases hA; cases hB; simp at h; subst h
        rw [beq_toListBytes]
        exact run_equalIn_string w' n t a b (told.str hd)
      · rename_i fs cs ds hd
        split at h
        case isFalse => cases h
        case isTrue he =>
          cases hA with | agg hl h1 hr =>
          cases hB with | agg hl' h1' hr' =>
          obtain ⟨l, hu, hf⟩ := told.struct hd
          have hfo : P.fieldsOf t = l := by simp [Program.fieldsOf, hu]
          rw [run_equalIn_struct (P := P) w' n t _ _ (by rw [hfo]; exact hu) (told.eq he).1, hfo]
          exact eqFs_sound hT (fun t' A' B' r' h' x' y' hx' hy' w2 => eq_sound hT d n t' A' B' r' h' (by omega) x' y' hx' hy' w2) hl h1 hr hl' h1' hr' _ _ _ hf h w'
      · rename_i hd
        cases hA; cases hB; simp at h; subst h
        obtain hu := told.ptr hd
        simp [Op.equalIn, run_underlying hu]
      · rename_i hd
        cases hA; cases hB; simp at h; subst h
        obtain hu := told.ptr hd
        simp [Op.equalIn, run_underlying hu]
      · rename_i hd
        cases hA; cases hB; simp at h; subst h
        obtain hu := told.ptr hd
        simp [Op.equalIn, run_underlying hu]
      · rename_i hd
        cases hA; cases hB; simp at h; subst h
        obtain hu := told.ptr hd
        simp [Op.equalIn, run_underlying hu]
      · rename_i hd
        cases hA; cases hB; simp at h; subst h
        obtain hu := told.slice hd
        simp [Op.equalIn, run_underlying hu]
      · cases h

end Go.Proofs.YtbogfmgfafdjiaaGreatDoor

/- Operations that read: one step on abstract values, and that it is what the program does. -/
namespace Go.Proofs.YtbogfmgfafdjiaaGreatDoor
set_option linter.unusedVariables false
set_option linter.unusedSimpArgs false
open Go.RowKit

def tdOf (T : Types) (t : TypeId) : Option TD := (T.lookup t).map TI.d
def tsz (T : Types) (t : TypeId) : Option Nat := (T.lookup t).map TI.size

def pickA (A B C : AV) (p : Prop) : Option (AV × Prop) :=
  match A with
  | .v (.bool c) =>
    match B with
    | .v (.bool true) => match stripA C with
      | (.v (.bool y), q) => some (.v (.bool (c || y)), p ∧ (c = false → q))
      | _ => none
    | _ => match C with
      | .v (.bool false) => match stripA B with
        | (.v (.bool x), q) => some (.v (.bool (c && x)), p ∧ (c = true → q))
        | _ => none
      | _ => none
  | _ => none

def nilA : AV → Option AV
  | .ptr id b o => some (.ptr id b o)
  | .eptr id x sz k o => some (.eptr id x sz k o)
  | .pel n cs => some (.pel n cs)
  | .fn (.func f) cap => some (.fn (.func f) cap)
  | _ => none

def binA (T : Types) (op : BinOp) (t : TypeId) (A B : AV) : Option (AV × Prop) :=
  match A, B with
  | .v (.int k x), .v (.int k' y) =>
    match op with
    | .shl | .shr => shiftA op k x y
    | _ => if k = k' then intA op k x y else none
  | .v (.string x), .v (.string y) => strA op x y
  | .v (.float k x), .v (.float k' y) => if k = k' then fltA op k x y else none
  | .v (.complex k a b), .v (.complex k' c d) => if k = k' then cpxA op k a b c d else none
  | A, B =>
    match op with
    | .eql => (eqA T 12 t A B).map fun r => (.v (.bool r), True)
    | .neq => (eqA T 12 t A B).map fun r => (.v (.bool (!r)), True)
    | _ => none

def unA (op : UnOp) : AV → Option (AV × Prop)
  | .v (.bool b) => match op with
    | .not => some (.v (.bool (!b)), True)
    | _ => none
  | .v (.int .i64 n) => match op with
    | .neg => some (.v (.int .i64 (0 - n)), fits (0 - n))
    | _ => none
  | .v (.int .u64 n) => match op with
    | .neg => some (.v (.int .u64 (IntKind.u64.wrap (0 - n))), True)
    | _ => none
  | .v (.float k b) => match op with
    | .neg => some (.v (.float k (Op.negFloat k b)), True)
    | _ => none
  | _ => none

def convA (T : Types) (s d : TypeId) : AV → Option (AV × Prop)
  | .v (.int _ n) =>
    match tdOf T d with
    | some (.int k) => some (.v (.int k (k.wrap n)), True)
    | some (.float k) => some (.v (.float k (k.nearest n)), True)
    | _ => none
  | .v (.string x) =>
    match tdOf T d, tdOf T s with
    | some .str, some .str => some (.v (.string x), True)
    | _, _ => none
  | _ => none

def fieldAddrA (T : Types) (s : TypeId) (k : Nat) (A : AV) : Option AV :=
  match tdOf T s with
  | some (.struct fs) =>
    match fs[k]? with
    | some (o, _, _) =>
      match A with
      | .ptr id b m => some (.ptr id b (m + o))
      | .eptr id x sz j m => some (.eptr id x sz j (m + o))
      | .pel n cs => some (.pel (n - o) (cs.drop o))
      | _ => none
    | none => none
  | _ => none

def fieldA (T : Types) (s : TypeId) (k : Nat) (A : AV) : Option AV :=
  match tdOf T s with
  | some (.struct fs) =>
    match fs[k]? with
    | some (o, t, _) =>
      match A with
      | .agg cs => partA T t cs o
      | _ => none
    | none => none
  | _ => none

def indexAddrA (T : Types) (F : Rows) (t : TypeId) (A : AV) (z : Int) : Option (AV × Prop) :=
  match tdOf T t with
  | some (.slice e) =>
    match tsz T e with
    | some m =>
      match A with
      | .lst sz n g => if sz = m then some (.pel sz (g z.toNat), 0 ≤ z ∧ z < n) else none
      | .ref id x => match F.lookup id with
        | some (.own x' _ sz n _) => if sz = m then some (.eptr id x sz z.toNat 0, x = x' ∧ 0 ≤ z ∧ z < n) else none
        | _ => none
      | _ => none
    | none => none
  | some (.array n e) =>
    match tsz T e with
    | some m => match A with
      | .ptr id b o => some (.ptr id b (o + z.toNat * m), 0 ≤ z ∧ z < n)
      | .eptr id x sz k 0 => if sz = m then some (.eptr id x sz (z.toNat + k) 0, 0 ≤ z ∧ z < n) else if m = m / sz * sz then some (.eptr id x sz (z.toNat * (m / sz) + k) 0, 0 ≤ z ∧ z < n) else none
      | _ => none
    | none => none
  | _ => none

/-- A byte of a string. -/
def byteAt (s : ByteArray) (z : Int) : Int := ((s.data.toList.getD z.toNat 0).toNat : Int)

def cellsA (F : Rows) : AV → Option (List AV × Prop)
  | .ptr id b o => match F.lookup id with
    | some (.blk b' _ cs) => some (cs.drop o, b = b')
    | _ => none
  | .eptr id x sz k o => match F.lookup id with
    | some (.own x' _ sz' n g) => some (if o = 0 then g k else (g k).drop o, x = x' ∧ sz = sz' ∧ k < n)
    | _ => none
  | .pel _ cs => some (cs, True)
  | _ => none

/-- How many cells there are, where it is known by sight. -/
def countA : AV → Nat
  | .eptr _ _ sz _ o => sz - o
  | .pel n _ => n
  | _ => 0

def loadA (T : Types) (F : Rows) (t : TypeId) (A : AV) : Option (AV × Prop) :=
  match T.lookup t, cellsA F A with
  | some i, some (cs, C) =>
    if i.d.agg then
      if countA A = i.size then some (.agg cs, C ∧ cs.length = i.size) else some (.agg (cs.take i.size), C ∧ i.size ≤ cs.length)
    else match cs with
      | B :: _ => some (B, C)
      | [] => none
  | _, _ => none

def bound (σ : Slots) : Option Operand → Option (Option Int × Prop)
  | none => some (none, True)
  | some x => match evalS σ x with
    | some (.v (.int _ z), p) => some (some z, p)
    | _ => none

def sliceA (A : AV) (lo hi mx : Option Int) : Option (AV × Prop) :=
  match A with
  | .lst sz n g =>
    match lo, hi, mx with
    | none, none, none => some (.lst sz n g, True)
    | none, some h, none => some (.lst sz h.toNat g, 0 ≤ h ∧ h ≤ n)
    | some l, none, none => some (.lst sz (n - l.toNat) (fun i => g (i + l.toNat)), 0 ≤ l ∧ l ≤ n)
    | some l, some h, none => some (.lst sz (h.toNat - l.toNat) (fun i => g (i + l.toNat)), 0 ≤ l ∧ l ≤ h ∧ h ≤ n)
    | _, _, _ => none
  | .v (.string s) =>
    match lo, hi, mx with
    | none, none, none => some (.v (.string (s.extract 0 s.size)), True)
    | none, some h, none => some (.v (.string (s.extract 0 h.toNat)), 0 ≤ h ∧ h ≤ s.size)
    | some l, none, none => some (.v (.string (s.extract l.toNat s.size)), 0 ≤ l ∧ l ≤ s.size)
    | some l, some h, none => some (.v (.string (s.extract l.toNat h.toNat)), 0 ≤ l ∧ l ≤ h ∧ h ≤ s.size)
    | _, _, _ => none
  | _ => none

def lenA (T : Types) (F : Rows) (t : TypeId) (A : AV) : Option (AV × Prop) :=
  match tdOf T t, A with
  | some (.slice _), .lst _ n _ => some (.v (.int .i64 n), True)
  | some (.slice _), .v (.slice _ n _) => some (.v (.int .i64 n), True)
  | some (.slice _), .ref id x => match F.lookup id with
    | some (.own x' _ _ n _) => some (.v (.int .i64 n), x = x')
    | _ => none
  | some .str, .v (.string s) => some (.v (.int .i64 s.size), True)
  | _, _ => none

def capsA (σ : Slots) : List Operand → Option (List AV)
  | [] => some []
  | x :: l => match evalA σ x, capsA σ l with
    | some A, some m => some (A :: m)
    | _, _ => none

def builtA (T : Types) (σ : Slots) (F : Rows) (cl : Call) : Option (AV × Prop) :=
  match cl.callee with
  | .builtin b =>
    match b with
    | .len => match cl.args.toList, cl.argTypes.toList with
      | [x], [t] => match evalS σ x with
        | some (A, p) => (lenA T F t A).map fun (D, E) => (D, p ∧ E)
        | none => none
      | _, _ => none
    | .min => match cl.args.toList with
      | [x, y] => match evalS σ x, evalS σ y with
        | some (.v (.int k a), p), some (.v (.int _ b), q) => some (.v (.int k (if b < a then b else a)), p ∧ q)
        | _, _ => none
      | _ => none
    | .max => match cl.args.toList with
      | [x, y] => match evalS σ x, evalS σ y with
        | some (.v (.int k a), p), some (.v (.int _ b), q) => some (.v (.int k (if b > a then b else a)), p ∧ q)
        | _, _ => none
      | _ => none
    | .complex => match cl.args.toList with
      | [x, y] => match evalS σ x, evalS σ y with
        | some (.v (.float k a), p), some (.v (.float k' b), q) => if k = k' then some (.v (.complex k a b), p ∧ q) else none
        | _, _ => none
      | _ => none
    | .real => match cl.args.toList with
      | [x] => match evalS σ x with
        | some (.v (.complex k a _), p) => some (.v (.float k a), p)
        | _ => none
      | _ => none
    | .imag => match cl.args.toList with
      | [x] => match evalS σ x with
        | some (.v (.complex k _ b), p) => some (.v (.float k b), p)
        | _ => none
      | _ => none
    | _ => none
  | _ => none

def pureA (T : Types) (σ : Slots) (F : Rows) : Op → Option (AV × Prop)
  | .move x => (evalA σ x).map fun A => (A, True)
  | .assign x => (evalA σ x).map fun A => (A, True)
  | .pick c a b => match evalS σ c, evalA σ a, evalA σ b with
    | some (C, p), some A, some B => pickA C A B p
    | _, _, _ => none
  | .nilCheck x => match evalS σ x with
    | some (A, p) => (nilA A).map fun B => (B, p)
    | none => none
  | .binOp op t x y _ => match evalS σ x, evalS σ y with
    | some (A, p), some (B, q) => (binA T op t A B).map fun (D, E) => (D, p ∧ q ∧ E)
    | _, _ => none
  | .unOp op _ x => match evalS σ x with
    | some (A, p) => (unA op A).map fun (D, E) => (D, p ∧ E)
    | none => none
  | .convert s d x => match evalS σ x with
    | some (A, p) => (convA T s d A).map fun (D, E) => (D, p ∧ E)
    | none => none
  | .fieldAddr s x k => match evalS σ x with
    | some (A, p) => (fieldAddrA T s k A).map fun r => (r, p)
    | none => none
  | .field s x k => match evalS σ x with
    | some (A, p) => (fieldA T s k A).map fun r => (r, p)
    | none => none
  | .indexAddr t x i => match evalS σ x, evalS σ i with
    | some (A, p), some (.v (.int _ z), q) => (indexAddrA T F t A z).map fun (D, E) => (D, p ∧ q ∧ E)
    | _, _ => none
  | .index t x i => match tdOf T t, evalS σ x, evalS σ i with
    | some .str, some (.v (.string s), p), some (.v (.int _ z), q) => some (.v (.int .u8 (byteAt s z)), p ∧ q ∧ 0 ≤ z ∧ z < s.size)
    | _, _, _ => none
  | .load t x => match evalS σ x with
    | some (A, p) => (loadA T F t A).map fun (D, E) => (D, p ∧ E)
    | none => none
  | .slice t x lo hi mx => match evalS σ x, bound σ lo, bound σ hi, bound σ mx with
    | some (A, p), some (l, q), some (h, r), some (m, s) =>
      match tdOf T t, A with
      | some (.slice e), .lst sz _ _ => if tsz T e = some sz then (sliceA A l h m).map fun (D, E) => (D, p ∧ q ∧ r ∧ s ∧ E) else none
      | some .str, .v (.string _) => (sliceA A l h m).map fun (D, E) => (D, p ∧ q ∧ r ∧ s ∧ E)
      | _, _ => none
    | _, _, _, _ => none
  | .extract x k => match evalS σ x with
    | some (.tup vs, p) => (vs[k]?).map fun A => (A, p)
    | _ => none
  | .makeFunc f first cap => if first.size = 0 then (capsA σ cap.toList).map fun l => (.fn f l, True) else none
  | .call cl => builtA T σ F cl
  | _ => none

end Go.Proofs.YtbogfmgfafdjiaaGreatDoor

/- That a step on abstract values is what the program does: operations that read. -/
namespace Go.Proofs.YtbogfmgfafdjiaaGreatDoor
set_option linter.unusedVariables false
set_option linter.unusedSimpArgs false
open Go.RowKit

theorem tdOf_some {T : Types} {t : TypeId} {d : TD} (h : tdOf T t = some d) : ∃ i, T.lookup t = some i ∧ i.d = d := by
  unfold tdOf at h; simpa using h
theorem tsz_some {T : Types} {t : TypeId} {n : Nat} (h : tsz T t = some n) : ∃ i, T.lookup t = some i ∧ i.size = n := by
  unfold tsz at h; simpa using h

section
variable {P : Program} {T : Types} {c : Ctx} {σ : Slots} {F : Rows} {a : Act} {w : World} {own : Nat → Prop}

theorem pick_sound {A B C D : AV} {p q : Prop} (h : pickA A B C p = some (D, q)) (hq : q) : p ∧ ∀ x y z, Rep own w A x → Rep own w B y → Rep own w C z → ∃ b, x = .bool b ∧ Rep own w D (if b then y else z) := by
  unfold pickA at h
  split at h
  case h_2 => cases h
  case h_1 t =>
    split at h
    · split at h
      · rename_i y' q' hs
        cases h
        refine ⟨hq.1, fun x y z hx hy hz => ?_⟩
        cases hx; cases hy
        refine ⟨t, rfl, ?_⟩
        cases t
        · have := strip_rep hz
          rw [hs] at this
          have := this (hq.2 rfl)
          simpa using this
        · exact .v _
      · cases h
    · split at h
      · split at h
        · rename_i y' q' hs
          cases h
          refine ⟨hq.1, fun x y z hx hy hz => ?_⟩
          cases hx; cases hz
          refine ⟨t, rfl, ?_⟩
          cases t
          · exact .v _
          · have := strip_rep hy
            rw [hs] at this
            have := this (hq.2 rfl)
            simpa using this
        · cases h
      · cases h

theorem nil_sound {A B : AV} (h : nilA A = some B) {x : Value} (hx : Rep own w A x) : Rep own w B x ∧ (∀ (o : Oper) (ρ : Operand → Value) (y : Operand), o.op = .nilCheck y → ρ y = x → ∀ w', (execOp ρ o).run P w' = .ok (.value x) w') := by
  unfold nilA at h
  split at h <;> cases h
  · exact ⟨hx, fun o ρ y ho he w' => by cases hx; simp [execOp, ho, he]⟩
  · exact ⟨hx, fun o ρ y ho he w' => by cases hx; simp [execOp, ho, he]⟩
  · exact ⟨hx, fun o ρ y ho he w' => by cases hx; simp [execOp, ho, he]⟩
  · exact ⟨hx, fun o ρ y ho he w' => by cases hx; simp [execOp, ho, he]⟩

theorem run_eqGuard_none (op : BinOp) (t : TypeId) (x y : Operand) (u v : Value) (h : ∀ cs ds, u = .agg cs → v = .agg ds → P.eqGuardType P.depth t = false) (hn : u ≠ .nilIface) :
    (eqGuard op t x y u v).run P w = .ok () w := by
  have key : (match u, v with
      | .nilIface, .nilIface => if (x matches .const _) || (y matches .const _) then (pure () : Sem Unit) else do
          if ← Op.eqGuardIn Op.maxDepth t u v then unsupported (.noEntry "binop/eql: two nil values of an interface type with methods, neither of them the literal nil")
      | .agg _, .agg _ => do
        if !(← program).eqGuardType (← program).depth t then return
        if ← Op.eqGuardIn Op.maxDepth t u v then unsupported (.noEntry "binop/eql: two nil values of an interface type with methods, in a part of a struct or an array")
      | _, _ => pure ()).run P w = .ok () w := by
    split
    · exact absurd rfl hn
    · rename_i cs ds
      have := h cs ds rfl rfl
      simp [this]
    · rfl
  unfold eqGuard
  split
  · exact key
  · exact key
  · rfl
theorem bin_dispatch_eq (t : TypeId) (x y : Value) (h1 : ∀ k a k' b, x = .int k a → y = .int k' b → False) (h2 : ∀ a b, x = .string a → y = .string b → False) (h3 : ∀ k a, x ≠ .float k a) (h4 : ∀ k a b, x ≠ .complex k a b) :
   binOp .eql t x y = (do pure (.bool (← Op.equal t x y))) := by
  unfold binOp
  split <;> first | rfl | (exfalso; simp_all; done) | exact (h1 _ _ _ _ rfl rfl).elim
theorem bin_dispatch_ne (t : TypeId) (x y : Value) (h1 : ∀ k a k' b, x = .int k a → y = .int k' b → False) (h2 : ∀ a b, x = .string a → y = .string b → False) (h3 : ∀ k a, x ≠ .float k a) (h4 : ∀ k a b, x ≠ .complex k a b) :
   binOp .neq t x y = (do pure (.bool (!(← Op.equal t x y)))) := by
  unfold binOp
  split <;> first | rfl | (exfalso; simp_all; done) | exact (h1 _ _ _ _ rfl rfl).elim

theorem eqA_form {T : Types} {d : Nat} {t : TypeId} {A B : AV} {r : Bool} (h : eqA T d t A B = some r) (h1 : ∀ k a k' b, A = .v (.int k a) → B = .v (.int k' b) → False) (h2 : ∀ a b, A = .v (.string a) → B = .v (.string b) → False)
    {x y : Value} (hA : Rep own w A x) (hB : Rep own w B y) :
    (∃ b, x = .bool b) ∨ (∃ cs i, x = .agg cs ∧ T.lookup t = some i ∧ i.eq = true) ∨ (∃ p, x = .pointer p) ∨ (∃ a n c, x = .slice a n c) := by
  cases d with
  | zero => simp [eqA] at h
  | succ d =>
    rw [eqA] at h
    split at h
    case h_2 => cases h
    case h_1 i ht =>
      split at h
      · exact (h1 _ _ _ _ rfl rfl).elim
      · cases hA; exact .inl ⟨_, rfl⟩
      · exact (h2 _ _ rfl rfl).elim
      · split at h
        case isTrue he => cases hA; exact .inr (.inl ⟨_, i, rfl, ht, he⟩)
        case isFalse => cases h
      · cases hA; exact .inr (.inr (.inl ⟨_, rfl⟩))
      · cases hA; exact .inr (.inr (.inl ⟨_, rfl⟩))
      · cases hA; exact .inr (.inr (.inl ⟨_, rfl⟩))
      · cases hA; exact .inr (.inr (.inl ⟨_, rfl⟩))
      · cases hA; exact .inr (.inr (.inr ⟨_, _, _, rfl⟩))
      · cases h

theorem bin_sound (hT : TOk P T) {op : BinOp} {t : TypeId} {A B D : AV} {C : Prop} (h : binA T op t A B = some (D, C)) (hC : C) {x y : Value} (hA : Rep own w A x) (hB : Rep own w B y) (ox oy : Operand) :
    ∃ u, (∀ w', (eqGuard op t ox oy x y).run P w' = .ok () w' ∧ (binOp op t x y).run P w' = .ok u w') ∧ Rep own w D u := by
  unfold binA at h
  split at h
  · rename_i k z k' z'
    cases hA; cases hB
    have hg : ∀ w, (eqGuard op t ox oy (.int k z) (.int k' z')).run P w = .ok () w := fun w => run_eqGuard_none _ _ _ _ _ _ (fun _ _ h => by cases h) (by simp)
    split at h
    · obtain ⟨u, rfl, hu⟩ := shift_sound (P := P) (k' := k') h hC t
      exact ⟨u, fun w' => ⟨hg w', hu w'⟩, .v u⟩
    · obtain ⟨u, rfl, hu⟩ := shift_sound (P := P) (k' := k') h hC t
      exact ⟨u, fun w' => ⟨hg w', hu w'⟩, .v u⟩
    · split at h
      · rename_i e; subst e
        obtain ⟨u, rfl, hu⟩ := int_sound (P := P) h hC t
        exact ⟨u, fun w' => ⟨hg w', hu w'⟩, .v u⟩
      · cases h
  · cases hA; cases hB
    obtain ⟨u, rfl, hu⟩ := str_sound (P := P) h hC t
    exact ⟨u, fun w' => ⟨run_eqGuard_none _ _ _ _ _ _ (fun _ _ h => by cases h) (by simp), hu w'⟩, .v u⟩
  · cases hA; cases hB
    split at h
    · rename_i e; subst e
      obtain ⟨u, rfl, hu⟩ := flt_sound (P := P) h hC t
      exact ⟨u, fun w' => ⟨run_eqGuard_none _ _ _ _ _ _ (fun _ _ h => by cases h) (by simp), hu w'⟩, .v u⟩
    · cases h
  · cases hA; cases hB
    split at h
    · rename_i e; subst e
      obtain ⟨u, rfl, hu⟩ := cpx_sound (P := P) h hC t
      exact ⟨u, fun w' => ⟨run_eqGuard_none _ _ _ _ _ _ (fun _ _ h => by cases h) (by simp), hu w'⟩, .v u⟩
    · cases h
  · rename_i h1 h2 h3 h4
    have side : ∀ {r : Bool}, eqA T 12 t A B = some r → ((∀ w', (eqGuard op t ox oy x y).run P w' = .ok () w') ∧ (∀ k a k' b, x = .int k a → y = .int k' b → False) ∧ (∀ a b, x = .string a → y = .string b → False) ∧ (∀ k a, x ≠ .float k a) ∧ (∀ k a b, x ≠ .complex k a b)) := by
      intro r hr
      have hf := eqA_form hr (fun k a k' b e1 e2 => h1 k a k' b e1 e2) (fun a b e1 e2 => h2 a b e1 e2) hA hB
      refine ⟨fun w' => run_eqGuard_none _ _ _ _ _ _ (fun cs ds e1 e2 => ?_) ?_, ?_, ?_, ?_, ?_⟩
      · rcases hf with ⟨_, rfl⟩ | ⟨_, i, rfl, hi, he⟩ | ⟨_, rfl⟩ | ⟨_, _, _, rfl⟩
        · cases e1
        · exact ((hT.told hi).eq he).2
        · cases e1
        · cases e1
      all_goals (rcases hf with ⟨_, rfl⟩ | ⟨_, i, rfl, hi, he⟩ | ⟨_, rfl⟩ | ⟨_, _, _, rfl⟩ <;> simp)
    split at h
    · simp only [Option.map_eq_some_iff] at h
      obtain ⟨r, hr, he⟩ := h
      cases he
      obtain ⟨g1, g2, g3, g4, g5⟩ := side hr
      refine ⟨.bool r, fun w' => ⟨g1 w', ?_⟩, .v _⟩
      rw [bin_dispatch_eq t x y g2 g3 g4 g5]
      simp [Op.equal, Op.maxDepth, eq_sound hT 12 10000 t A B r hr (by omega) x y hA hB w']
    · simp only [Option.map_eq_some_iff] at h
      obtain ⟨r, hr, he⟩ := h
      cases he
      obtain ⟨g1, g2, g3, g4, g5⟩ := side hr
      refine ⟨.bool (!r), fun w' => ⟨g1 w', ?_⟩, .v _⟩
      rw [bin_dispatch_ne t x y g2 g3 g4 g5]
      simp [Op.equal, Op.maxDepth, eq_sound hT 12 10000 t A B r hr (by omega) x y hA hB w']
    · cases h

theorem un_sound {op : UnOp} {A D : AV} {C : Prop} (h : unA op A = some (D, C)) (hC : C) {x : Value} (hA : Rep own w A x) : ∃ u, (∀ w', (Op.unary op x).run P w' = .ok u w') ∧ Rep own w D u := by
  unfold unA at h
  split at h
  · split at h
    · cases h; cases hA; exact ⟨_, fun _ => rfl, .v _⟩
    · cases h
  · split at h
    · cases h; cases hA
      refine ⟨_, fun w' => ?_, .v _⟩
      simp [Op.unary, Op.intArith, wrap_fits hC]
      have := wrap_fits hC
      simpa using this
    · cases h
  · split at h
    · cases h; cases hA
      exact ⟨_, fun w' => by simp [Op.unary, Op.intArith], .v _⟩
    · cases h
  · split at h
    · cases h; cases hA
      exact ⟨_, fun w' => by simp [Op.unary], .v _⟩
    · cases h
  · cases h

theorem conv_sound (hT : TOk P T) {s d : TypeId} {A D : AV} {C : Prop} (h : convA T s d A = some (D, C)) {x : Value} (hA : Rep own w A x) (hs : (P.underlying s).isSome = true) : ∃ u, (∀ w', (convert s d x).run P w' = .ok u w') ∧ Rep own w D u := by
  obtain ⟨ds, hs⟩ := Option.isSome_iff_exists.1 hs
  unfold convA at h
  split at h
  · split at h
    · rename_i k hk
      obtain ⟨i, hi, hd⟩ := tdOf_some hk
      cases h; cases hA
      refine ⟨_, fun w' => ?_, .v _⟩
      unfold convert
      simp only [Sem.run_bind, run_underlying hs, run_underlying ((hT.told hi).int hd), Result.andThen_ok]
      rfl
    · rename_i k hk
      obtain ⟨i, hi, hd⟩ := tdOf_some hk
      cases h; cases hA
      refine ⟨_, fun w' => ?_, .v _⟩
      unfold convert
      simp only [Sem.run_bind, run_underlying hs, run_underlying ((hT.told hi).float hd), Result.andThen_ok]
      rfl
    · cases h
  · split at h
    · rename_i h1 h2
      obtain ⟨i, hi, hd⟩ := tdOf_some h1
      obtain ⟨j, hj, hd'⟩ := tdOf_some h2
      cases h; cases hA
      refine ⟨_, fun w' => ?_, .v _⟩
      unfold convert
      simp only [Sem.run_bind, run_underlying ((hT.told hj).str hd'), run_underlying ((hT.told hi).str hd), Result.andThen_ok]
      rfl
    · cases h
  · cases h

theorem run_fieldAt (hT : TOk P T) {s : TypeId} {fs : List (Nat × TypeId × Nat)} {k o t n : Nat} (hs : tdOf T s = some (.struct fs)) (hk : fs[k]? = some (o, t, n)) (a : Addr) (w : World) :
    (Instr.fieldAt s (.pointer (some a)) k).run P w = .ok (.pointer (some (a.add o))) w := by
  obtain ⟨i, hi, hd⟩ := tdOf_some hs
  obtain ⟨l, hu, hf⟩ := (hT.told hi).struct hd
  obtain ⟨f, h1, rfl, rfl, h4, h5, -⟩ := fsOk_get hf hk
  have h1' : l[k]? = some f := by simpa using h1
  cases hq : P.info? f.type with
  | none => simp [hq] at h4
  | some q =>
    have hqs : q.size = n := by simpa [hq] using h4
    simp [Instr.fieldAt, run_underlying hu, h1', Instr.sureAddr, fieldPlace, sizeOf, typeInfo, hq, hqs, h5]

theorem addr_add_lit (b m o : Nat) : (⟨b, m, none⟩ : Addr).add o = ⟨b, m + o, none⟩ := by unfold Addr.add; split <;> simp_all

theorem Rep.drop {n o : Nat} {cs : List AV} {ad : Addr} (h : Rep own w (.pel n cs) (.pointer (some ad))) : Rep own w (.pel (n - o) (cs.drop o)) (.pointer (some (ad.add o))) := by
  cases h with
  | pel u hl h1 hc hb hr =>
    refine .pel (fun j => u (o + j)) (by simp [hl]) (fun j => h1 _) (fun j hj => ?_) (fun h0 => ?_) (fun j B hB => ?_)
    · rw [add_add]; rw [List.length_drop] at hj; exact hc _ (by omega)
    · rw [add_block]; rw [List.length_drop] at h0; exact hb (by omega)
    · rw [List.getElem?_drop] at hB; exact hr _ _ hB

theorem fieldAddr_sound (hT : TOk P T) {s : TypeId} {k : Nat} {A D : AV} (h : fieldAddrA T s k A = some D) {x : Value} (hA : Rep own w A x) : ∃ u, (∀ w', (Instr.fieldAt s x k).run P w' = .ok u w') ∧ Rep own w D u := by
  unfold fieldAddrA at h
  split at h
  case h_2 => cases h
  case h_1 fs hs =>
    split at h
    case h_2 => cases h
    case h_1 o t n hk =>
      split at h
      · cases h; cases hA
        exact ⟨_, fun w' => by rw [run_fieldAt hT hs hk, addr_add_lit], .ptr _ _ _⟩
      · cases h; cases hA
        refine ⟨_, fun w' => by rw [run_fieldAt hT hs hk], ?_⟩
        rw [add_add, Nat.add_assoc]
        exact .eptr _ _ _ _ _
      · cases h
        cases hA with
        | pel u hl h1 hc hb hr =>
          exact ⟨_, fun w' => by rw [run_fieldAt hT hs hk], Rep.drop (.pel u hl h1 hc hb hr)⟩
      · cases h

theorem field_sound (hT : TOk P T) {s : TypeId} {k : Nat} {A D : AV} (h : fieldA T s k A = some D) {x : Value} (hA : Rep own w A x) : ∃ u, (∀ w', (Instr.field s x k).run P w' = .ok u w') ∧ Rep own w D u := by
  unfold fieldA at h
  split at h
  case h_2 => cases h
  case h_1 fs hs =>
    split at h
    case h_2 => cases h
    case h_1 o t n hk =>
      split at h
      · cases hA with
        | agg hl h1 hr =>
          obtain ⟨u, hu, hrep⟩ := part_sound hT h hl h1 hr
          obtain ⟨i, hi, hd⟩ := tdOf_some hs
          obtain ⟨l, hul, hf⟩ := (hT.told hi).struct hd
          obtain ⟨f, h1, rfl, rfl, h4, h5, -⟩ := fsOk_get hf hk
          have h1' : l[k]? = some f := by simpa using h1
          refine ⟨u, fun w' => ?_, hrep⟩
          simp [Instr.field, run_underlying hul, h1', asAgg, hu]
      · cases h

end

end Go.Proofs.YtbogfmgfafdjiaaGreatDoor

/- That a step on abstract values is what the program does: addresses, loads, slices, all that reads. -/
namespace Go.Proofs.YtbogfmgfafdjiaaGreatDoor
set_option linter.unusedVariables false
set_option linter.unusedSimpArgs false
open Go.RowKit

section
variable {P : Program} {T : Types} {c : Ctx} {σ : Slots} {F : Rows} {a : Act} {w : World} {own : Nat → Prop}

theorem Sat.at {off : Nat → Prop} (h : Sat off F w) {id : Nat} {r : Row} (hr : F.lookup id = some r) : r.sat (Own off F) w := h.rows _ (lookup_mem hr)

theorem run_indexAt_slice (hT : TOk P T) {t e m : Nat} (ht : tdOf T t = some (.slice e)) (hm : tsz T e = some m) (k : IntKind) (z : Int) (ad : Addr) (n cap : Nat) (h0 : 0 ≤ z) (h1 : z < n) (w : World) :
    (Instr.indexAt t (.slice (some ad) n cap) (.int k z)).run P w = .ok (.pointer (some (ad.add (z.toNat * m)))) w := by
  obtain ⟨i, hi, hd⟩ := tdOf_some ht
  obtain ⟨j, hj, rfl⟩ := tsz_some hm
  simp [Instr.indexAt, asIntOf, run_underlying ((hT.told hi).slice hd), (hT.told hj).size, h0, h1]

theorem indexAddr_sound (hT : TOk P T) {off : Nat → Prop} (hS : Sat off F w) {t : TypeId} {A D : AV} {z : Int} {C : Prop} (h : indexAddrA T F t A z = some (D, C)) (hC : C) {x : Value} (hA : Rep (Own off F) w A x) (k : IntKind) :
    ∃ u, (∀ w', (Instr.indexAt t x (.int k z)).run P w' = .ok u w') ∧ Rep (Own off F) w D u := by
  unfold indexAddrA at h
  split at h
  · rename_i e he
    split at h
    case h_2 => cases h
    case h_1 m hm =>
      split at h
      · rename_i sz n g
        split at h
        case isFalse => cases h
        case isTrue hsz =>
          subst hsz
          cases h
          cases hA with
          | @lst _ n cap _ A u hn hmx hnil hlen h1 hc hb hr =>
            cases A with
            | none => have := (hnil rfl).1; omega
            | some ad =>
              refine ⟨_, fun w' => run_indexAt_slice hT he hm k z ad n cap hC.1 hC.2 w', ?_⟩
              have hz : z.toNat < n := by omega
              refine .pel (fun j => u z.toNat j) (hlen _ hz) (fun j => h1 _ _) (fun j hj => ?_) (fun h0 => ?_) (fun j B hB => hr _ hz j B hB)
              · rw [add_add]; exact hc ad rfl _ hz j (by rw [hlen _ hz] at hj; exact hj)
              · rw [add_block]; rw [hlen _ hz] at h0; exact hb ad rfl (by omega) h0
      · split at h
        case h_2 => cases h
        case h_1 x0 E sz n g hrow =>
          split at h
          case isFalse => cases h
          case isTrue hsz =>
            subst hsz
            cases h
            obtain ⟨rfl, h0, h1⟩ := hC
            cases hA with
            | ref _ _ h1c =>
              obtain ⟨us, ho, hlen, hone, hr⟩ := hS.at hrow
              obtain ⟨g', cap, rfl, hcap, -⟩ := own_form ho (by omega)
              refine ⟨_, fun w' => run_indexAt_slice hT he hm k z _ n cap h0 h1 w', ?_⟩
              exact .eptr _ (.slice (some ⟨g', 0, none⟩) n cap) sz z.toNat 0
      · cases h
  · rename_i n e he
    split at h
    case h_2 => cases h
    case h_1 m hm =>
      split at h
      case h_3 => cases h
      case h_2 id x0 sz k0 =>
        have key : C = (0 ≤ z ∧ z < n) ∧ ∃ k1, D = .eptr id x0 sz k1 0 ∧ k1 * sz = k0 * sz + z.toNat * m := by
          split at h
          · rename_i e; subst e; cases h
            exact ⟨rfl, _, rfl, by rw [Nat.add_mul, Nat.add_comm]⟩
          · split at h
            · rename_i e; cases h
              refine ⟨rfl, _, rfl, ?_⟩
              rw [Nat.add_mul, Nat.mul_assoc, ← e, Nat.add_comm]
            · cases h
        obtain ⟨rfl, k1, rfl, hk1⟩ := key
        cases hA
        obtain ⟨i, hi, hd⟩ := tdOf_some he
        obtain ⟨j, hj, rfl⟩ := tsz_some hm
        have h0 := hC.1
        have h1 := hC.2
        refine ⟨.pointer (some (((headOf x0).add (k0 * sz + 0)).add (z.toNat * j.size))), fun w' => ?_, ?_⟩
        · simp [Instr.indexAt, asIntOf, run_underlying ((hT.told hi).array hd), (hT.told hj).size, h0, h1, Instr.sureAddr]
        · rw [add_add, Nat.add_zero, ← hk1]
          exact .eptr id x0 sz k1 0
      case h_1 id b o =>
        cases h
        cases hA
        obtain ⟨i, hi, hd⟩ := tdOf_some he
        obtain ⟨j, hj, rfl⟩ := tsz_some hm
        have h0 := hC.1
        have h1 := hC.2
        refine ⟨.pointer (some ⟨b, o + z.toNat * j.size, none⟩), fun w' => ?_, .ptr _ _ _⟩
        simp [Instr.indexAt, asIntOf, run_underlying ((hT.told hi).array hd), (hT.told hj).size, h0, h1, Instr.sureAddr, addr_add_lit]
  · cases h

theorem run_loadVar_one {t : TypeId} {ad : Addr} {u : Value} (hagg : (isAgg t).run P w = .ok false w) (hc : w.cell? ad = some u) : (loadVar t ad).run P w = .ok u w := by
  unfold loadVar
  simp [hagg, load, Sem.run, hc]

theorem run_loadVar_agg {t : TypeId} {ad : Addr} {n : Nat} {us : List Value} (hagg : (isAgg t).run P w = .ok true w) (hs : (sizeOf t).run P w = .ok n w) (hl : us.length = n) (hc : ∀ j u, us[j]? = some u → w.cell? (ad.add j) = some u) :
    (loadVar t ad).run P w = .ok (.agg us.toArray) w := by
  unfold loadVar
  simp only [Sem.run_bind, hagg, Result.andThen_ok, if_true, hs]
  rw [← hl, run_loadCells_list w ad us hc]
  simp

/-- Cells that an address leads to. -/
theorem cells_sound {off : Nat → Prop} (hS : Sat off F w) {A : AV} {cs : List AV} {C : Prop} (h : cellsA F A = some (cs, C)) (hC : C) {x : Value} (hA : Rep (Own off F) w A x) :
    ∃ (ad : Addr) (us : List Value), x = .pointer (some ad) ∧ us.length = cs.length ∧ (∀ u ∈ us, u.oneCell' = true) ∧ (∀ (j : Nat) u, us[j]? = some u → w.cell? (ad.add j) = some u) ∧ ∀ (j : Nat) B u, cs[j]? = some B → us[j]? = some u → Rep (Own off F) w B u := by
  unfold cellsA at h
  split at h
  · rename_i id b o
    split at h
    case h_2 => cases h
    case h_1 b' T' cs' hrow =>
      cases h
      subst hC
      cases hA
      obtain ⟨us, hh, hl, h1, hr⟩ := hS.at hrow
      refine ⟨_, us.drop o, rfl, by simp [hl], fun u hu => h1 u (List.mem_of_mem_drop hu), fun j u hu => ?_, fun j B u hB hu => ?_⟩
      · rw [List.getElem?_drop] at hu
        rw [addr_add_lit]
        simp [World.cell?, hh, hu]
      · rw [List.getElem?_drop] at hB hu
        exact hr _ B u hB hu
  · rename_i id x' sz k o
    split at h
    case h_2 => cases h
    case h_1 x0 E sz' n g hrow =>
      cases h
      obtain ⟨rfl, rfl, hk⟩ := hC
      cases hA
      obtain ⟨us, ho, hlen, h1, hr⟩ := hS.at hrow
      obtain ⟨g', cap, rfl, hcap, -⟩ := own_form ho (by omega)
      have hcs : (if o = 0 then g k else (g k).drop o) = (g k).drop o := by split <;> simp_all
      rw [hcs]
      have hus : us.length = n * sz := ho.1
      have hlk : k * sz + sz ≤ n * sz := by have := Nat.mul_le_mul_right sz (show k + 1 ≤ n by omega); rw [Nat.add_mul, Nat.one_mul] at this; exact this
      refine ⟨_, (us.drop (k * sz + o)).take (sz - o), rfl, ?_, fun u hu => h1 u (List.mem_of_mem_drop (List.mem_of_mem_take hu)), fun j u hu => ?_, fun j B u hB hu => ?_⟩
      · simp only [List.length_take, List.length_drop, hus, hlen k hk]
        omega
      · rw [List.getElem?_take] at hu
        split at hu
        · rw [List.getElem?_drop] at hu
          rw [show headOf (.slice (some ⟨g', 0, none⟩) n cap) = ⟨g', 0, none⟩ from rfl, add_add, addr_add_lit, Nat.zero_add]
          rw [(own_cell ho _ (List.getElem?_eq_some_iff.1 hu).1).1]; exact hu
        · cases hu
      · rw [List.getElem?_drop] at hB
        rw [List.getElem?_take] at hu
        split at hu
        · rw [List.getElem?_drop] at hu
          obtain ⟨u', hu', hrep⟩ := hr k hk (o + j) B hB
          rw [← Nat.add_assoc] at hu'
          rw [hu'] at hu
          cases hu
          exact hrep
        · cases hu
  · cases h
    cases hA with
    | pel u hl h1 hc hb hr =>
      refine ⟨_, (List.range cs.length).map u, rfl, by simp, fun v hv => ?_, fun j v hv => ?_, fun j B v hB hv => ?_⟩
      · obtain ⟨j, -, rfl⟩ := List.mem_map.1 hv; exact h1 j
      · obtain ⟨hlt, rfl⟩ := List.getElem?_eq_some_iff.1 hv
        simp at hlt
        simpa using hc j hlt
      · obtain ⟨hlt, rfl⟩ := List.getElem?_eq_some_iff.1 hv
        simpa using hr j B hB
  · cases h

end

end Go.Proofs.YtbogfmgfafdjiaaGreatDoor

/- That a step on abstract values is what the program does: all that only computes or reads. -/
namespace Go.Proofs.YtbogfmgfafdjiaaGreatDoor
set_option linter.unusedVariables false
set_option linter.unusedSimpArgs false
open Go.RowKit

theorem real_one (ts : Array TypeId) (t : TypeId) (k : FloatKind) (a b : Nat) : Builtin.real_ ts t #[.complex k a b] = pure (.float k a) := rfl
theorem imag_one (ts : Array TypeId) (t : TypeId) (k : FloatKind) (a b : Nat) : Builtin.imag_ ts t #[.complex k a b] = pure (.float k b) := rfl
theorem complex_one (ts : Array TypeId) (t : TypeId) (k : FloatKind) (a b : Nat) : Builtin.complex_ ts t #[.float k a, .float k b] = pure (.complex k a b) := by
  show (if k = k then _ else _) = _
  rw [if_pos rfl]

section
variable {P : Program} {T : Types} {c : Ctx} {σ : Slots} {F : Rows} {a : Act} {w : World} {own : Nat → Prop}

theorem load_sound (hT : TOk P T) {off : Nat → Prop} (hS : Sat off F w) {t : TypeId} {A D : AV} {C : Prop} (h : loadA T F t A = some (D, C)) (hC : C) {x : Value} (hA : Rep (Own off F) w A x) :
    ∃ u, (∀ w', (∀ ad, x = .pointer (some ad) → w'.heap[ad.block]? = w.heap[ad.block]?) → (Instr.loadAt t x).run P w' = .ok u w') ∧ Rep (Own off F) w D u := by
  unfold loadA at h
  split at h
  case h_2 => cases h
  case h_1 i cs C' hi hcs =>
    have told := hT.told hi
    have key : C' → ∃ u, (∀ w', (∀ ad, x = .pointer (some ad) → w'.heap[ad.block]? = w.heap[ad.block]?) → (Instr.loadAt t x).run P w' = .ok u w') ∧ Rep (Own off F) w D u := by
      intro hC'
      obtain ⟨ad, us, rfl, hl, h1, hc, hr⟩ := cells_sound hS hcs hC' hA
      have hrun : ∀ v w', (loadVar t ad).run P w' = .ok v w' → (Instr.loadAt t (.pointer (some ad))).run P w' = .ok v w' := fun v w' hv => by simp [Instr.loadAt, Instr.sureAddr, hv]
      have hcw : ∀ w' : World, (∀ ad', Value.pointer (some ad) = .pointer (some ad') → w'.heap[ad'.block]? = w.heap[ad'.block]?) → ∀ (j : Nat) u, us[j]? = some u → w'.cell? (ad.add j) = some u := fun w' hw j u hu => by
        rw [World.cell?_of_block (w := w) (w' := w') (by rw [add_block]; exact hw ad rfl)]
        exact hc j u hu
      cases hagg : i.d.agg with
      | true =>
        rw [hagg] at h
        simp only [if_true] at h
        have ht := told.run_agg
        rw [hagg] at ht
        split at h
        · cases h
          exact ⟨_, fun w' hw => hrun _ w' (run_loadVar_agg (ht w') (told.size w') (hl.trans hC.2) (hcw w' hw)), .agg hl h1 hr⟩
        · cases h
          refine ⟨_, fun w' hw => hrun _ w' (run_loadVar_agg (us := us.take i.size) (ht w') (told.size w') (by rw [List.length_take, hl]; exact Nat.min_eq_left hC.2) fun j u hu => ?_), .agg (by simp [hl]) (fun u hu => h1 u (List.mem_of_mem_take hu)) fun j B u hB hu => ?_⟩
          · rw [List.getElem?_take] at hu
            split at hu
            · exact hcw w' hw j u hu
            · cases hu
          · rw [List.getElem?_take] at hB hu
            split at hu
            · rename_i hlt; rw [if_pos hlt] at hB; exact hr j B u hB hu
            · cases hu
      | false =>
        rw [hagg] at h
        simp only [Bool.false_eq_true, if_false] at h
        have ht := told.run_agg
        rw [hagg] at ht
        split at h
        · rename_i B rest
          cases h
          cases us with
          | nil => simp at hl
          | cons u us =>
            exact ⟨u, fun w' hw => hrun _ w' (run_loadVar_one (ht w') (by have := hcw w' hw 0 u rfl; simpa [Addr.add] using this)), hr 0 _ u rfl rfl⟩
        · cases h
    split at h
    · split at h
      · cases h; exact key hC.1
      · cases h; exact key hC.1
    · split at h
      · cases h; exact key hC
      · cases h

theorem len_sound (hT : TOk P T) {off : Nat → Prop} (hS : Sat off F w) {t : TypeId} {A D : AV} {C : Prop} (h : lenA T F t A = some (D, C)) (hC : C) {x : Value} (hA : Rep (Own off F) w A x) (ty : TypeId) :
    ∃ u, (∀ w', (Builtin.len_ #[t] ty #[x]).run P w' = .ok u w') ∧ Rep (Own off F) w D u := by
  unfold lenA at h
  split at h
  · rename_i e ht
    obtain ⟨i, hi, hd⟩ := tdOf_some ht
    cases h; cases hA
    exact ⟨_, fun w' => by simp [Builtin.len_, run_underlying ((hT.told hi).slice hd), goInt], .v _⟩
  · rename_i e ht
    obtain ⟨i, hi, hd⟩ := tdOf_some ht
    cases h; cases hA
    exact ⟨_, fun w' => by simp [Builtin.len_, run_underlying ((hT.told hi).slice hd), goInt], .v _⟩
  · rename_i e id x' ht
    obtain ⟨i, hi, hd⟩ := tdOf_some ht
    split at h
    case h_2 => cases h
    case h_1 x0 E sz n g hrow =>
      cases h
      subst hC
      cases hA
      obtain ⟨us, ho, -⟩ := hS.at hrow
      obtain ⟨A, cap, rfl, -⟩ := own_form0 ho
      exact ⟨_, fun w' => by simp [Builtin.len_, run_underlying ((hT.told hi).slice hd), goInt], .v _⟩
  · rename_i ht
    obtain ⟨i, hi, hd⟩ := tdOf_some ht
    cases h; cases hA
    exact ⟨_, fun w' => by simp [Builtin.len_, run_underlying ((hT.told hi).str hd), goInt], .v _⟩
  · cases h

theorem bound_sound (hR : R c σ F a w) {x : Option Operand} {z : Option Int} {p : Prop} (h : bound σ x = some (z, p)) (hp : p) : (x = none ∧ z = none) ∨ ∃ y k n, x = some y ∧ z = some n ∧ a.eval y = .int k n := by
  cases x with
  | none => simp only [bound, Option.some.injEq, Prod.mk.injEq] at h; exact .inl ⟨rfl, h.1.symm⟩
  | some y =>
    simp only [bound] at h
    split at h
    · rename_i k n q hy
      cases h
      have := hR.evals hy hp
      exact .inr ⟨y, k, n, rfl, rfl, by cases hq : a.eval y <;> rw [hq] at this <;> cases this; rfl⟩
    · cases h

theorem Rep.window {sz n cap m l : Nat} {g : Nat → List AV} {A : Option Addr} (h : Rep own w (.lst sz n g) (.slice A n cap)) (hl : l ≤ m) (hm : m ≤ n) : Rep own w (.lst sz (m - l) (fun i => g (i + l))) (.slice (if cap = l then A else A.map (·.add (l * sz))) (m - l) (cap - l)) := by
  cases h with
  | lst u hn hmx hnil hlen h1 hc hb hr =>
    have key : ∀ ad, (if cap = l then A else A.map (·.add (l * sz))) = some ad → 0 < m - l → ∃ ad', A = some ad' ∧ ad = ad'.add (l * sz) := by
      intro ad he h0
      rw [if_neg (by omega)] at he
      cases A with
      | none => cases he
      | some ad' => cases he; exact ⟨ad', rfl, rfl⟩
    refine .lst (fun i j => u (i + l) j) (by omega) (by omega) (fun h => ?_) (fun i hi => hlen _ (by omega)) (fun i j => h1 _ _) (fun ad ha i hi j hj => ?_) (fun ad ha h0 hs => ?_) (fun i hi j B hB => hr _ (by omega) j B hB)
    · cases A with
      | none => have := hnil rfl; omega
      | some ad => split at h <;> cases h
    · obtain ⟨ad', rfl, rfl⟩ := key ad ha (by omega)
      rw [add_add, show l * sz + (i * sz + j) = (i + l) * sz + j by rw [Nat.add_mul]; omega]
      exact hc ad' rfl _ (by omega) j hj
    · obtain ⟨ad', rfl, rfl⟩ := key ad ha h0
      rw [add_block]; exact hb ad' rfl (by omega) hs

theorem Rep.front {sz n cap m : Nat} {g : Nat → List AV} {A : Option Addr} (h : Rep own w (.lst sz n g) (.slice A n cap)) (hm : m ≤ n) : Rep own w (.lst sz m g) (.slice A m cap) := by
  cases h with
  | lst u hn hmx hnil hlen h1 hc hb hr =>
    exact .lst u (by omega) hmx (fun h => by have := hnil h; omega) (fun i hi => hlen _ (by omega)) h1 (fun ad ha i hi j hj => hc ad ha i (by omega) j hj) (fun ad ha h0 hs => hb ad ha (by omega) hs) (fun i hi j B hB => hr _ (by omega) j B hB)

def vint (k : IntKind) (z : Option Int) : Option Value := z.map (.int k)

theorem run_sliceBound {k : IntKind} {z : Int} {y : Nat} {code : BoundsCode} (h0 : 0 ≤ z) (h1 : z ≤ y) : (Instr.sliceBound (.int k z) y code).run P w = .ok z.toNat w := by
  simp [Instr.sliceBound, asIntOf, h0, h1]

theorem slice_sound (hT : TOk P T) {t e : TypeId} {sz n : Nat} {g : Nat → List AV} {l h : Option Int} {D : AV} {C : Prop} (ht : tdOf T t = some (.slice e)) (hsz : tsz T e = some sz) (hs : sliceA (.lst sz n g) l h none = some (D, C)) (hC : C)
    {x : Value} (hA : Rep own w (.lst sz n g) x) {lo hi : Option Value} (hlo : (lo = none ∧ l = none) ∨ ∃ k z, lo = some (.int k z) ∧ l = some z) (hhi : (hi = none ∧ h = none) ∨ ∃ k z, hi = some (.int k z) ∧ h = some z) :
    ∃ u, (∀ w', (Instr.slice t x lo hi none).run P w' = .ok u w') ∧ Rep own w D u := by
  obtain ⟨i, hi', hd⟩ := tdOf_some ht
  obtain ⟨j, hj, rfl⟩ := tsz_some hsz
  have hu := (hT.told hi').slice hd
  have hsize := (hT.told hj).size
  have hx : ∃ A cap, x = .slice A n cap ∧ n ≤ cap := by cases hA; exact ⟨_, _, rfl, by assumption⟩
  obtain ⟨A, cap, rfl, hcap⟩ := hx
  unfold sliceA at hs
  rcases hlo with ⟨rfl, rfl⟩ | ⟨k, z, rfl, rfl⟩ <;> rcases hhi with ⟨rfl, rfl⟩ | ⟨k', z', rfl, rfl⟩ <;> simp only at hs <;> cases hs
  · refine ⟨.slice A n cap, fun w => ?_, hA⟩
    simp [Instr.slice, Instr.sliceBounds, run_underlying hu, hsize]
    intro h
    cases A with
    | none => rfl
    | some ad => simp [Addr.add]
  · obtain ⟨h0, h1⟩ := hC
    refine ⟨.slice A z'.toNat cap, fun w => ?_, Rep.front hA (by omega)⟩
    simp [Instr.slice, Instr.sliceBounds, run_underlying hu, hsize, run_sliceBound (P := P) (w := w) h0 (show z' ≤ (cap : Int) by omega)]
    intro h
    cases A with
    | none => rfl
    | some ad => simp [Addr.add]
  · obtain ⟨h0, h1⟩ := hC
    refine ⟨_, fun w => ?_, Rep.window (m := n) (l := z.toNat) hA (by omega) (Nat.le_refl _)⟩
    simp [Instr.slice, Instr.sliceBounds, run_underlying hu, hsize, run_sliceBound (P := P) (w := w) h0 h1]
  · obtain ⟨h0, h1, h2⟩ := hC
    refine ⟨_, fun w => ?_, Rep.window (m := z'.toNat) (l := z.toNat) hA (by omega) (by omega)⟩
    simp [Instr.slice, Instr.sliceBounds, run_underlying hu, hsize, run_sliceBound (P := P) (w := w) (show 0 ≤ z' by omega) (show z' ≤ (cap : Int) by omega), run_sliceBound (P := P) (w := w) h0 (show z ≤ (z'.toNat : Int) by omega)]

theorem cut_sound (hT : TOk P T) {t : TypeId} {s : ByteArray} {l h : Option Int} {D : AV} {C : Prop} (ht : tdOf T t = some .str) (hs : sliceA (.v (.string s)) l h none = some (D, C)) (hC : C)
    {lo hi : Option Value} (hlo : (lo = none ∧ l = none) ∨ ∃ k z, lo = some (.int k z) ∧ l = some z) (hhi : (hi = none ∧ h = none) ∨ ∃ k z, hi = some (.int k z) ∧ h = some z) :
    ∃ u, (∀ w', (Instr.slice t (.string s) lo hi none).run P w' = .ok u w') ∧ Rep own w D u := by
  obtain ⟨i, hi', hd⟩ := tdOf_some ht
  have hu := (hT.told hi').str hd
  unfold sliceA at hs
  rcases hlo with ⟨rfl, rfl⟩ | ⟨k, z, rfl, rfl⟩ <;> rcases hhi with ⟨rfl, rfl⟩ | ⟨k', z', rfl, rfl⟩ <;> simp only at hs <;> cases hs
  · exact ⟨_, fun w => by simp [Instr.slice, Instr.sliceBounds, run_underlying hu], .v _⟩
  · obtain ⟨h0, h1⟩ := hC
    exact ⟨_, fun w => by simp [Instr.slice, Instr.sliceBounds, run_underlying hu, run_sliceBound (P := P) (w := w) h0 h1], .v _⟩
  · obtain ⟨h0, h1⟩ := hC
    exact ⟨_, fun w => by simp [Instr.slice, Instr.sliceBounds, run_underlying hu, run_sliceBound (P := P) (w := w) h0 h1], .v _⟩
  · obtain ⟨h0, h1, h2⟩ := hC
    exact ⟨_, fun w => by simp [Instr.slice, Instr.sliceBounds, run_underlying hu, run_sliceBound (P := P) (w := w) (show 0 ≤ z' by omega) h2, run_sliceBound (P := P) (w := w) h0 (show z ≤ (z'.toNat : Int) by omega)], .v _⟩

theorem caps_sound (hR : R c σ F a w) : ∀ {l : List Operand} {m : List AV}, capsA σ l = some m → (l.map a.eval).length = m.length ∧ ∀ (j : Nat) A u, m[j]? = some A → (l.map a.eval)[j]? = some u → Rep (Own c.off F) w A u
  | [], m, h => by cases h; exact ⟨rfl, fun j A u h => by simp at h⟩
  | x :: l, m, h => by
    unfold capsA at h
    split at h
    · rename_i A m' hA hm
      cases h
      obtain ⟨h1, h2⟩ := caps_sound hR hm
      refine ⟨by simpa using h1, fun j B u hB hu => ?_⟩
      cases j with
      | zero => simp at hB hu; subst hB; subst hu; exact hR.eval hA
      | succ j => simp at hB hu; exact h2 j B u hB (by simpa using hu)
    · cases h

/-- The block that an operation reads. -/
def loadsAt (a : Act) (o : Oper) : Option Nat :=
  match o.op with
  | .load _ x => match a.eval x with
    | .pointer (some ad) => some ad.block
    | _ => none
  | _ => none

def Gives (P : Program) (o : Oper) (a : Act) (w : World) (u : Value) : Prop := ∀ w' : World, (∀ b, loadsAt a o = some b → w'.heap[b]? = w.heap[b]?) → (execOp a.eval o).run P w' = .ok (.value u) w'
theorem Gives.run {P : Program} {o : Oper} {a : Act} {w : World} {u : Value} (h : Gives P o a w u) : (execOp a.eval o).run P w = .ok (.value u) w := h w fun _ _ => rfl

theorem pure_sound (hT : TOk P T) (hR : R c σ F a w) {o : Oper} {A : AV} {C : Prop} (h : pureA T σ F o.op = some (A, C)) (hC : C) (hconv : ∀ s d x, o.op = .convert s d x → (P.underlying s).isSome = true) :
    ∃ u, Gives P o a w u ∧ Rep (Own c.off F) w A u := by
  cases ho : o.op <;> rw [ho] at h <;> simp only [pureA] at h <;> try (cases h; done)
  case move x =>
    simp only [Option.map_eq_some_iff] at h
    obtain ⟨B, hB, he⟩ := h
    cases he
    exact ⟨_, fun w' _ => by simp [execOp, ho], hR.eval hB⟩
  case assign x =>
    simp only [Option.map_eq_some_iff] at h
    obtain ⟨B, hB, he⟩ := h
    cases he
    exact ⟨_, fun w' _ => by simp [execOp, ho], hR.eval hB⟩
  case pick x y z =>
    split at h
    · rename_i X p Y Z hX hY hZ
      obtain ⟨hp, hk⟩ := pick_sound (own := Own c.off F) (w := w) h hC
      obtain ⟨b, hb, hrep⟩ := hk _ _ _ (hR.evals hX hp) (hR.eval hY) (hR.eval hZ)
      refine ⟨_, fun w' _ => ?_, hrep⟩
      simp only [execOp, ho, hb]
      cases b <;> simp [asBool]
    · cases h
  case nilCheck x =>
    split at h
    · rename_i X p hX
      simp only [Option.map_eq_some_iff] at h
      obtain ⟨B, hB, he⟩ := h
      cases he
      obtain ⟨h1, h2⟩ := nil_sound (P := P) hB (hR.evals hX hC)
      exact ⟨_, fun w' _ => h2 o a.eval x ho rfl w', h1⟩
    · cases h
  case binOp op t x y t' =>
    split at h
    · rename_i X p Y q hX hY
      simp only [Option.map_eq_some_iff] at h
      obtain ⟨⟨D, C'⟩, hD, he⟩ := h
      cases he
      obtain ⟨hp, hq, hC'⟩ := hC
      obtain ⟨u, h1, h3⟩ := bin_sound hT hD hC' (hR.evals hX hp) (hR.evals hY hq) x y
      exact ⟨u, fun w' _ => by simp [execOp, ho, (h1 w').1, (h1 w').2], h3⟩
    · cases h
  case unOp op t x =>
    split at h
    · rename_i X p hX
      simp only [Option.map_eq_some_iff] at h
      obtain ⟨⟨D, C'⟩, hD, he⟩ := h
      cases he
      obtain ⟨u, h1, h2⟩ := un_sound (P := P) hD hC.2 (hR.evals hX hC.1)
      exact ⟨u, fun w' _ => by simp [execOp, ho, h1], h2⟩
    · cases h
  case convert s d x =>
    split at h
    · rename_i X p hX
      simp only [Option.map_eq_some_iff] at h
      obtain ⟨⟨D, C'⟩, hD, he⟩ := h
      cases he
      obtain ⟨u, h1, h2⟩ := conv_sound hT hD (hR.evals hX hC.1) (hconv _ _ _ ho)
      exact ⟨u, fun w' _ => by simp [execOp, ho, h1], h2⟩
    · cases h
  case fieldAddr s x k =>
    split at h
    · rename_i X p hX
      simp only [Option.map_eq_some_iff] at h
      obtain ⟨D, hD, he⟩ := h
      cases he
      obtain ⟨u, h1, h2⟩ := fieldAddr_sound hT hD (hR.evals hX hC)
      exact ⟨u, fun w' _ => by simp [execOp, ho, h1], h2⟩
    · cases h
  case field s x k =>
    split at h
    · rename_i X p hX
      simp only [Option.map_eq_some_iff] at h
      obtain ⟨D, hD, he⟩ := h
      cases he
      obtain ⟨u, h1, h2⟩ := field_sound hT hD (hR.evals hX hC)
      exact ⟨u, fun w' _ => by simp [execOp, ho, h1], h2⟩
    · cases h
  case indexAddr t x i =>
    split at h
    · rename_i X p k z q hX hY
      simp only [Option.map_eq_some_iff] at h
      obtain ⟨⟨D, C'⟩, hD, he⟩ := h
      cases he
      obtain ⟨hp, hq, hC'⟩ := hC
      have hi := hR.evals hY hq
      have hi' : a.eval i = .int k z := by generalize a.eval i = v at hi; cases hi; rfl
      obtain ⟨u, h1, h2⟩ := indexAddr_sound hT hR.sat hD hC' (hR.evals hX hp) k
      exact ⟨u, fun w' _ => by simp [execOp, ho, hi', h1], h2⟩
    · cases h
  case index t x i =>
    split at h
    · rename_i s p k z q ht hX hY
      cases h
      obtain ⟨hp, hq, h0, h1⟩ := hC
      have hx := hR.evals hX hp
      have hi := hR.evals hY hq
      have hx' : a.eval x = .string s := by generalize a.eval x = v at hx; cases hx; rfl
      have hi' : a.eval i = .int k z := by generalize a.eval i = v at hi; cases hi; rfl
      obtain ⟨j, hj, hd⟩ := tdOf_some ht
      refine ⟨_, fun w' _ => ?_, .v _⟩
      have hlt : z.toNat < s.size := by omega
      have hb : s[z.toNat]? = some s[z.toNat] := by simp [hlt]
      simp only [execOp, ho, hx', hi']
      simp [Instr.index, asIntOf, run_underlying ((hT.told hj).str hd), h0, byteAt, hlt]
      rfl
    · cases h
  case load t x =>
    split at h
    · rename_i X p hX
      simp only [Option.map_eq_some_iff] at h
      obtain ⟨⟨D, C'⟩, hD, he⟩ := h
      cases he
      obtain ⟨u, h1, h2⟩ := load_sound hT hR.sat hD hC.2 (hR.evals hX hC.1)
      exact ⟨u, fun w' hw => by simp [execOp, ho, h1 w' (fun ad he => hw ad.block (by simp [loadsAt, ho, he]))], h2⟩
    · cases h
  case slice t x lo hi mx =>
    split at h
    · rename_i X p l q hh r m s' hX hl hhi hmx
      have hm : ∀ {A : AV} {u : AV × Prop}, sliceA A l hh m = some u → m = none := by
        intro A u hu
        unfold sliceA at hu
        split at hu <;> first | (split at hu <;> first | rfl | cases hu) | cases hu
      have hv : ∀ {y : Option Operand} {z : Option Int}, ((y = none ∧ z = none) ∨ ∃ y' k n, y = some y' ∧ z = some n ∧ a.eval y' = .int k n) → ((y.map a.eval = none ∧ z = none) ∨ ∃ k n, y.map a.eval = some (.int k n) ∧ z = some n) := by
        rintro y z (⟨rfl, rfl⟩ | ⟨y', k, n, rfl, rfl, he⟩)
        · exact .inl ⟨rfl, rfl⟩
        · exact .inr ⟨k, n, by simp [he], rfl⟩
      split at h
      · rename_i e sz n g ht
        split at h
        · rename_i hsz
          simp only [Option.map_eq_some_iff] at h
          obtain ⟨⟨D, C'⟩, hD, he⟩ := h
          cases he
          obtain ⟨hp, hq, hr, hs, hC'⟩ := hC
          obtain rfl := hm hD
          have hmx' : mx = none := by rcases bound_sound hR hmx hs with ⟨h, _⟩ | ⟨_, _, _, _, h, _⟩; exact h; cases h
          subst hmx'
          obtain ⟨u, h1, h2⟩ := slice_sound (P := P) hT ht hsz hD hC' (hR.evals hX hp) (hv (bound_sound hR hl hq)) (hv (bound_sound hR hhi hr))
          refine ⟨u, fun w' _ => ?_, h2⟩
          obtain ⟨i, hti, hd⟩ := tdOf_some ht
          have hat : (Instr.sliceAt t (a.eval x) (lo.map a.eval) (hi.map a.eval) none).run P w' = (Instr.slice t (a.eval x) (lo.map a.eval) (hi.map a.eval) none).run P w' := by
            simp [Instr.sliceAt, run_underlying ((hT.told hti).slice hd)]
          simp [execOp, ho, hat, h1]
        · cases h
      · rename_i s'' ht
        simp only [Option.map_eq_some_iff] at h
        obtain ⟨⟨D, C'⟩, hD, he⟩ := h
        cases he
        obtain ⟨hp, hq, hr, hs, hC'⟩ := hC
        obtain rfl := hm hD
        have hmx' : mx = none := by rcases bound_sound hR hmx hs with ⟨h, _⟩ | ⟨_, _, _, _, h, _⟩; exact h; cases h
        subst hmx'
        obtain ⟨u, h1, h2⟩ := cut_sound (P := P) (own := Own c.off F) (w := w) hT ht hD hC' (hv (bound_sound hR hl hq)) (hv (bound_sound hR hhi hr))
        refine ⟨u, fun w' _ => ?_, h2⟩
        have hx := hR.evals hX hp
        have hx' : a.eval x = .string s'' := by generalize a.eval x = v at hx; cases hx; rfl
        obtain ⟨i, hti, hd⟩ := tdOf_some ht
        have hat : (Instr.sliceAt t (.string s'') (lo.map a.eval) (hi.map a.eval) none).run P w' = (Instr.slice t (.string s'') (lo.map a.eval) (hi.map a.eval) none).run P w' := by
          simp [Instr.sliceAt, run_underlying ((hT.told hti).str hd)]
        simp [execOp, ho, hx', hat, h1]
      · cases h
    · cases h
  case extract x k =>
    split at h
    · rename_i vs p hX
      simp only [Option.map_eq_some_iff] at h
      obtain ⟨D, hD, he⟩ := h
      cases he
      have hx := hR.evals hX hC
      generalize hv : a.eval x = v at hx
      cases hx with
      | tup hl hr =>
        rename_i us
        have hlt : k < us.length := by rw [hl]; exact (List.getElem?_eq_some_iff.1 hD).1
        exact ⟨us[k], fun w' _ => by simp [execOp, ho, hv, Instr.extract, hlt], hr k _ _ hD (List.getElem?_eq_getElem hlt)⟩
    · cases h
  case makeFunc f first cap =>
    split at h
    · rename_i h0
      simp only [Option.map_eq_some_iff] at h
      obtain ⟨m, hm, he⟩ := h
      cases he
      obtain ⟨h1, h2⟩ := caps_sound hR hm
      have hf : first = #[] := by simpa using h0
      refine ⟨_, fun w' _ => ?_, .fn h1 h2⟩
      simp [execOp, ho, Instr.makeFunc, hf]
      apply Array.ext'; simp
    · cases h
  case call cl =>
    unfold builtA at h
    split at h
    case h_2 => cases h
    case h_1 b hb =>
      split at h
      · split at h
        · rename_i x t hx ht
          have hx' : cl.args = #[x] := by apply Array.ext'; simpa using hx
          have ht' : cl.argTypes = #[t] := by apply Array.ext'; simpa using ht
          split at h
          · rename_i X p hX
            simp only [Option.map_eq_some_iff] at h
            obtain ⟨⟨D, C'⟩, hD, he⟩ := h
            cases he
            obtain ⟨u, h1, h2⟩ := len_sound (P := P) hT hR.sat hD hC.2 (hR.evals hX hC.1) o.type
            refine ⟨u, fun w' _ => ?_, h2⟩
            simp [execOp, ho, resolve, invoke, builtin, hb, hx', ht', h1]
          · cases h
        · cases h
      · split at h
        · rename_i x y hx
          have hx' : cl.args = #[x, y] := by apply Array.ext'; simpa using hx
          split at h
          · rename_i k z p k' z' q hX hY
            cases h
            have h1 := hR.evals hX hC.1
            have h2 := hR.evals hY hC.2
            have h1' : a.eval x = .int k z := by generalize a.eval x = v at h1; cases h1; rfl
            have h2' : a.eval y = .int k' z' := by generalize a.eval y = v at h2; cases h2; rfl
            refine ⟨_, fun w' _ => ?_, .v _⟩
            simp [execOp, ho, resolve, invoke, builtin, hb, hx', h1', h2', Builtin.min_, Builtin.min2]
          · cases h
        · cases h
      · split at h
        · rename_i x y hx
          have hx' : cl.args = #[x, y] := by apply Array.ext'; simpa using hx
          split at h
          · rename_i k z p k' z' q hX hY
            cases h
            have h1 := hR.evals hX hC.1
            have h2 := hR.evals hY hC.2
            have h1' : a.eval x = .int k z := by generalize a.eval x = v at h1; cases h1; rfl
            have h2' : a.eval y = .int k' z' := by generalize a.eval y = v at h2; cases h2; rfl
            refine ⟨_, fun w' _ => ?_, .v _⟩
            simp [execOp, ho, resolve, invoke, builtin, hb, hx', h1', h2', Builtin.max_, Builtin.max2]
          · cases h
        · cases h
      · split at h
        · rename_i x y hx
          have hx' : cl.args = #[x, y] := by apply Array.ext'; simpa using hx
          split at h
          · rename_i k z p k' z' q hX hY
            split at h
            case isFalse => cases h
            case isTrue e =>
            subst e
            cases h
            have h1 := hR.evals hX hC.1
            have h2 := hR.evals hY hC.2
            have h1' : a.eval x = .float k z := by generalize a.eval x = v at h1; cases h1; rfl
            have h2' : a.eval y = .float k z' := by generalize a.eval y = v at h2; cases h2; rfl
            refine ⟨_, fun w' _ => ?_, .v _⟩
            simp [execOp, ho, resolve, invoke, builtin, hb, hx', h1', h2', complex_one]
          · cases h
        · cases h
      · split at h
        · rename_i x hx
          have hx' : cl.args = #[x] := by apply Array.ext'; simpa using hx
          split at h
          · rename_i k z z' p hX
            cases h
            have h1 := hR.evals hX hC
            have h1' : a.eval x = .complex k z z' := by generalize a.eval x = v at h1; cases h1; rfl
            refine ⟨_, fun w' _ => ?_, .v _⟩
            simp [execOp, ho, resolve, invoke, builtin, hb, hx', h1', real_one]
          · cases h
        · cases h
      · split at h
        · rename_i x hx
          have hx' : cl.args = #[x] := by apply Array.ext'; simpa using hx
          split at h
          · rename_i k z z' p hX
            cases h
            have h1 := hR.evals hX hC
            have h1' : a.eval x = .complex k z z' := by generalize a.eval x = v at h1; cases h1; rfl
            refine ⟨_, fun w' _ => ?_, .v _⟩
            simp [execOp, ho, resolve, invoke, builtin, hb, hx', h1', imag_one]
          · cases h
        · cases h
      · cases h

end

end Go.Proofs.YtbogfmgfafdjiaaGreatDoor

/- Aggregates put together, on abstract values. -/
namespace Go.Proofs.YtbogfmgfafdjiaaGreatDoor
set_option linter.unusedVariables false
set_option linter.unusedSimpArgs false
open Go.RowKit

/-- One cell for certain. -/
def oneA : AV → Bool
  | .v x => x.oneCell'
  | .lst _ _ _ | .pel _ _ | .fn _ _ | .ref _ _ | .ptr _ _ _ | .eptr _ _ _ _ _ => true
  | _ => false
theorem oneA_rep {own : Nat → Prop} {w : World} {A : AV} {x : Value} (h : Rep own w A x) (h1 : oneA A = true) : x.oneCell' = true := by
  cases h <;> simp_all [oneA, Value.oneCell']

/-- The cells of a value, if they are known. -/
def cellsOf : AV → Option (List AV)
  | .agg cs => some cs
  | A => if oneA A then some [A] else none
theorem cellsOf_rep {own : Nat → Prop} {w : World} {A : AV} {cs : List AV} {x : Value} (h : Rep own w A x) (hc : cellsOf A = some cs) :
    x.cells.toList.length = cs.length ∧ (∀ u ∈ x.cells.toList, u.oneCell' = true) ∧ ∀ (j : Nat) B u, cs[j]? = some B → x.cells.toList[j]? = some u → Rep own w B u := by
  have one : ∀ {A : AV} {x : Value}, Rep own w A x → oneA A = true → some [A] = some cs → x.cells.toList.length = cs.length ∧ (∀ u ∈ x.cells.toList, u.oneCell' = true) ∧ ∀ (j : Nat) B u, cs[j]? = some B → x.cells.toList[j]? = some u → Rep own w B u := by
    intro A x h h1 he
    cases he
    have hx := oneA_rep h h1
    have hxc : x.cells = #[x] := by cases x <;> first | rfl | simp [Value.oneCell'] at hx
    rw [hxc]
    refine ⟨rfl, by simpa using hx, fun j B u hB hu => ?_⟩
    cases j with
    | zero => simp at hB hu; subst hB; subst hu; exact h
    | succ j => simp at hB
  cases A with
  | agg ds =>
    cases hc
    cases h with
    | agg hl h1 hr => exact ⟨hl, h1, hr⟩
  | _ =>
    unfold cellsOf at hc
    simp only at hc
    split at hc
    · exact one h (by assumption) hc
    · cases hc

/-- Cells laid over others. -/
def splice {α : Type} (cs : List α) (o : Nat) (ds : List α) : List α := cs.take o ++ ds ++ cs.drop (o + ds.length)
theorem splice_length {α : Type} {cs ds : List α} {o : Nat} (h : o + ds.length ≤ cs.length) : (splice cs o ds).length = cs.length := by
  simp [splice]; omega
theorem splice_get {α : Type} {cs ds : List α} {o : Nat} (h : o + ds.length ≤ cs.length) (j : Nat) : (splice cs o ds)[j]? = if o ≤ j ∧ j < o + ds.length then ds[j - o]? else cs[j]? := by
  unfold splice
  rw [List.append_assoc]
  by_cases h1 : j < o
  · rw [List.getElem?_append_left (by rw [List.length_take]; omega), if_neg (by omega), List.getElem?_take, if_pos h1]
  · rw [List.getElem?_append_right (by rw [List.length_take]; omega), List.length_take, Nat.min_eq_left (by omega)]
    by_cases h2 : j < o + ds.length
    · rw [List.getElem?_append_left (by omega), if_pos ⟨by omega, h2⟩]
    · rw [List.getElem?_append_right (by omega), if_neg (by omega), List.getElem?_drop]
      congr 1; omega

theorem fold_splice : ∀ (vs : List Value) (off k : Nat) (arr : Array Value), off + k + vs.length ≤ arr.size →
    ((vs.zipIdx k).foldl (fun cs (p : Value × Nat) => cs.setIfInBounds (off + p.2) p.1) arr).toList = splice arr.toList (off + k) vs
  | [], off, k, arr, h => by simp [splice]
  | v :: vs, off, k, arr, h => by
    simp only [List.length_cons] at h
    rw [List.zipIdx_cons, List.foldl_cons]
    rw [fold_splice vs off (k + 1) _ (by simp; omega)]
    apply List.ext_getElem?
    intro j
    rw [splice_get (by simp; omega), splice_get (by simp; omega)]
    simp only [Array.toList_setIfInBounds, List.getElem?_set, List.length_cons]
    by_cases h1 : j = off + k
    · subst h1
      rw [if_neg (by omega), if_pos (by omega), if_pos (by simp; omega)]
      simp [show off + k < arr.size by omega]
    · by_cases h2 : off + (k + 1) ≤ j ∧ j < off + (k + 1) + vs.length
      · rw [if_pos h2, if_pos (by omega)]
        rw [show j - (off + k) = (j - (off + (k + 1))) + 1 by omega, List.getElem?_cons_succ]
      · rw [if_neg h2, if_neg (fun e => h1 e.symm), if_neg (by omega)]

/-- Parts laid into places. -/
def fillA (place : Nat → Option (Nat × Nat)) : List (Nat × AV) → List AV → Option (List AV × Prop)
  | [], cs => some (cs, True)
  | (i, A) :: rest, cs =>
    match place i, cellsOf A with
    | some (o, n), some ds =>
      match fillA place rest (splice cs o ds) with
      | some (r, C) => some (r, (ds.length = n ∧ o + n ≤ cs.length) ∧ C)
      | none => none
    | _, _ => none

theorem fill_sound {own : Nat → Prop} {w : World} {place : Nat → Option (Nat × Nat)} : ∀ {parts : List (Nat × AV)} {vals : List (Nat × Value)} {cs r : List AV} {us : Array Value} {C : Prop}, fillA place parts cs = some (r, C) → C →
    (vals.map (·.1) = parts.map (·.1)) → (∀ (j : Nat) p q, parts[j]? = some p → vals[j]? = some q → Rep own w p.2 q.2) → us.toList.length = cs.length → (∀ u ∈ us.toList, u.oneCell' = true) → (∀ (j : Nat) A u, cs[j]? = some A → us.toList[j]? = some u → Rep own w A u) →
    ∃ us', Instr.fill place us vals = some us' ∧ us'.toList.length = r.length ∧ (∀ u ∈ us'.toList, u.oneCell' = true) ∧ ∀ (j : Nat) A u, r[j]? = some A → us'.toList[j]? = some u → Rep own w A u
  | [], vals, cs, r, us, C, h, hC, hm, hr, hl, h1, hrep => by
    cases h
    cases vals with
    | nil => exact ⟨us, rfl, hl, h1, hrep⟩
    | cons _ _ => simp at hm
  | (i, A) :: parts, vals, cs, r, us, C, h, hC, hm, hr, hl, h1, hrep => by
    cases vals with
    | nil => simp at hm
    | cons q vals =>
      obtain ⟨i', v⟩ := q
      simp only [List.map_cons, List.cons.injEq] at hm
      obtain ⟨rfl, hm⟩ := hm
      unfold fillA at h
      split at h
      case h_2 => cases h
      case h_1 o n ds hp hd =>
        split at h
        case h_2 => cases h
        case h_1 r' C' hf =>
          cases h
          obtain ⟨⟨hn, ho⟩, hC'⟩ := hC
          obtain ⟨g1, g2, g3⟩ := cellsOf_rep (hr 0 _ _ rfl rfl) hd
          simp only at g1 g2 g3
          have hvs : v.cells.size = n := by rw [← Array.length_toList, g1, hn]
          have hsz : us.size = cs.length := by rw [← Array.length_toList, hl]
          have hfold : (v.cells.zipIdx.foldl (fun cs (x : Value × Nat) => match x with | (c, j) => cs.setIfInBounds (o + j) c) us).toList = splice us.toList o v.cells.toList := by
            rw [← Array.foldl_toList, Array.toList_zipIdx]
            exact fold_splice v.cells.toList o 0 us (by rw [Array.length_toList]; omega)
          have hb : o + v.cells.toList.length ≤ us.toList.length := by rw [g1, hl]; omega
          have hb' : o + ds.length ≤ cs.length := by omega
          obtain ⟨us', h2, h3, h4, h5⟩ := fill_sound (own := own) (w := w) (vals := vals) (us := v.cells.zipIdx.foldl (fun cs (x : Value × Nat) => match x with | (c, j) => cs.setIfInBounds (o + j) c) us) hf hC' hm
            (fun j p q hp hq => hr (j + 1) p q (by simpa using hp) (by simpa using hq)) (by rw [hfold, splice_length hb, splice_length hb', hl])
            (fun u hu => by
              rw [hfold] at hu
              obtain ⟨j, hj⟩ := List.getElem?_of_mem hu
              rw [splice_get hb] at hj
              split at hj
              · exact g2 u (List.mem_of_getElem? hj)
              · exact h1 u (List.mem_of_getElem? hj))
            (fun j A u hA hu => by
              rw [hfold, splice_get hb] at hu
              rw [splice_get hb'] at hA
              rw [g1] at hu
              split at hu
              · rename_i hc; rw [if_pos hc] at hA; exact g3 _ A u hA hu
              · rename_i hc; rw [if_neg hc] at hA; exact hrep j A u hA hu)
          refine ⟨us', ?_, h3, h4, h5⟩
          unfold Instr.fill
          rw [hp]
          simp only
          rw [if_neg (by simp; omega)]
          exact h2

def partsA (σ : Slots) : List (Nat × Operand) → Option (List (Nat × AV) × Prop)
  | [] => some ([], True)
  | (i, x) :: l => match evalS σ x, partsA σ l with
    | some (A, p), some (m, q) => some ((i, A) :: m, p ∧ q)
    | _, _ => none
theorem parts_sound {c : Ctx} {σ : Slots} {F : Rows} {a : Act} {w : World} (hR : R c σ F a w) : ∀ {l : List (Nat × Operand)} {m : List (Nat × AV)} {C : Prop}, partsA σ l = some (m, C) → C →
    ((l.map fun p => (p.1, a.eval p.2)).map (·.1) = m.map (·.1)) ∧ ∀ (j : Nat) p q, m[j]? = some p → (l.map fun p => (p.1, a.eval p.2))[j]? = some q → Rep (Own c.off F) w p.2 q.2
  | [], m, C, h, hC => by cases h; exact ⟨rfl, fun j p q h => by simp at h⟩
  | (i, x) :: l, m, C, h, hC => by
    unfold partsA at h
    split at h
    · rename_i A p m' q hA hm
      cases h
      obtain ⟨h1, h2⟩ := parts_sound hR hm hC.2
      refine ⟨by simpa using h1, fun j p q hp hq => ?_⟩
      cases j with
      | zero => simp at hp hq; subst hp; subst hq; exact hR.evals hA hC.1
      | succ j => exact h2 j p q (by simpa using hp) (by simpa using hq)
    · cases h

def buildA (T : Types) (σ : Slots) (t : TypeId) (parts : List (Nat × Operand)) : Option (AV × Prop) :=
  match T.lookup t, partsA σ parts with
  | some i, some (m, p) =>
    match i.d with
    | .struct fs => (fillA (fun k => (fs[k]?).map fun f => (f.1, f.2.2)) m (i.zero.map .v)).map fun (D, E) => (.agg D, p ∧ E)
    | .array n e => match tsz T e with
      | some s => (fillA (fun k => some (k * s, s)) m (i.zero.map .v)).map fun (D, E) => (.agg D, p ∧ E)
      | none => none
    | _ => none
  | _, _ => none

theorem mapM_places {P : Program} : ∀ {l : List Field} {fs : List (Nat × TypeId × Nat)}, fsOk P l fs = true → l.mapM (fun f => (P.info? f.type).map fun i => (f.offset, i.size)) = some (fs.map fun f => (f.1, f.2.2))
  | [], [], _ => by simp
  | f :: l, (o, t, n) :: fs, h => by
    simp [fsOk] at h
    obtain ⟨⟨⟨⟨⟨rfl, rfl⟩, h3⟩, h4⟩, h5⟩, h6⟩ := h
    cases hq : P.info? f.type with
    | none => simp [hq] at h3
    | some q =>
      have hqs : q.size = n := by simpa [hq] using h3
      simp [List.mapM_cons, hq, hqs, mapM_places h6]
  | [], x :: fs, h => by simp [fsOk] at h
  | f :: l, [], h => by simp [fsOk] at h

theorem build_sound {P : Program} {T : Types} (hT : TOk P T) {c : Ctx} {σ : Slots} {F : Rows} {a : Act} {w : World} (hR : R c σ F a w) {t : TypeId} {parts : Array (Nat × Operand)} {D : AV} {C : Prop} (h : buildA T σ t parts.toList = some (D, C)) (hC : C) :
    ∃ u, (∀ w', (Instr.build t (parts.map fun (i, x) => (i, a.eval x))).run P w' = .ok u w') ∧ Rep (Own c.off F) w D u := by
  unfold buildA at h
  split at h
  case h_2 => cases h
  case h_1 i m p hi hm =>
    have told := hT.told hi
    obtain ⟨z, hz, hzr⟩ := told.run_zero
    have hlz : z.cells.toList.length = (i.zero.map AV.v).length := by simp [hz]
    have h1z : ∀ u ∈ z.cells.toList, u.oneCell' = true := by rw [hz]; exact told.zone
    have hrz : ∀ (j : Nat) A u, (i.zero.map AV.v)[j]? = some A → z.cells.toList[j]? = some u → Rep (Own c.off F) w A u := by
      intro j A u hA hu
      rw [hz] at hu
      rw [List.getElem?_map, hu] at hA
      cases hA
      exact .v _
    have hpl : (parts.map fun (i, x) => (i, a.eval x)).toList = parts.toList.map fun p => (p.1, a.eval p.2) := by simp
    split at h
    · rename_i fs hd
      simp only [Option.map_eq_some_iff] at h
      obtain ⟨⟨r, C'⟩, hr, he⟩ := h
      cases he
      obtain ⟨hp, hC'⟩ := hC
      obtain ⟨l, hul, hf⟩ := told.struct hd
      obtain ⟨g1, g2⟩ := parts_sound hR hm hp
      obtain ⟨us', h2, h3, h4, h5⟩ := fill_sound hr hC' g1 g2 hlz h1z hrz
      obtain ⟨j, z', hj, -, -, hz', hzz⟩ := told.info
      obtain rfl : z' = z := by
        have := hzr w
        simp [zeroValue, typeInfo, hj, hz'] at this
        exact this
      refine ⟨.agg us', fun w' => run_build w' t _ us' ?_, ?_⟩
      · unfold Program.built
        simp only [hj, hul, hz', mapM_places hf]
        rw [hpl]
        refine Eq.trans ?_ h2
        congr 1
        funext k
        simp
      · have := @Rep.agg (Own c.off F) w r us'.toList h3 h4 h5
        simpa using this
    · rename_i n e hd
      split at h
      case h_2 => cases h
      case h_1 s hs =>
        obtain ⟨ie, hie, rfl⟩ := tsz_some hs
        obtain ⟨je, ze, hje, hse, -⟩ := (hT.told hie).info
        simp only [Option.map_eq_some_iff] at h
        obtain ⟨⟨r, C'⟩, hr, he⟩ := h
        cases he
        obtain ⟨hp, hC'⟩ := hC
        obtain ⟨g1, g2⟩ := parts_sound hR hm hp
        obtain ⟨us', h2, h3, h4, h5⟩ := fill_sound hr hC' g1 g2 hlz h1z hrz
        obtain ⟨j, z', hj, -, -, hz', hzz⟩ := told.info
        obtain rfl : z' = z := by
          have := hzr w
          simp [zeroValue, typeInfo, hj, hz'] at this
          exact this
        refine ⟨.agg us', fun w' => run_build w' t _ us' ?_, ?_⟩
        · unfold Program.built
          simp only [hj, told.array hd, hz', hje, hse]
          rw [hpl]
          exact h2
        · have := @Rep.agg (Own c.off F) w r us'.toList h3 h4 h5
          simpa using this
    · cases h

end Go.Proofs.YtbogfmgfafdjiaaGreatDoor

/- Steps of a region, on abstract values. -/
namespace Go.Proofs.YtbogfmgfafdjiaaGreatDoor
set_option linter.unusedVariables false
set_option linter.unusedSimpArgs false
open Go.RowKit

/-- What is left of a region. -/
def L (P : Program) (ops : Array Oper) (c : Ctx) (rest : List Oper) (σ : Slots) (F : Rows) (Q : Exit → Act → World → Prop) : Prop := ∀ a w, R c σ F a w → wpList P ops Q rest a w
/-- A piece of code. -/
def S (P : Program) (c : Ctx) (x : Code) (σ : Slots) (F : Rows) (Q : Exit → Act → World → Prop) : Prop := ∀ a w, R c σ F a w → x.wp P Q a w
/-- A way out. -/
def E (c : Ctx) (e : Exit) (σ : Slots) (F : Rows) (Q : Exit → Act → World → Prop) : Prop := ∀ a w, R c σ F a w → Q e a w

/-- One operation of a region. -/
def Op1 (P : Program) (ops : Array Oper) (Q : Exit → Act → World → Prop) (o : Oper) (a : Act) (w : World) (K : Act → World → Prop) : Prop :=
  if Region.wanted o (yielded ops a.tmps) = true then o.wp P a w K Q else K (a.put o.dst undef) w

/-- A step touches rows of some numbers alone. -/
structure Stp (c : Ctx) (F F' : Rows) (w w' : World) (ids : List Nat) : Prop where
  ext : Ext (Own c.off F) (Own c.off F') w w'
  same : ∀ s ∈ F, s.1 ∉ ids → ∀ b, s.2.block = some b → w'.heap[b]? = w.heap[b]?
  keep : ∀ s ∈ F, s.1 ∉ ids → s ∈ F'

/-- What an operation leads to. -/
def O (P : Program) (ops : Array Oper) (c : Ctx) (o : Oper) (σ : Slots) (F : Rows) (Q : Exit → Act → World → Prop) (ids : List Nat) (ι : Type) (sl : ι → Slots) (ro : ι → Rows) : Prop :=
  ∀ a w, R c σ F a w → ∀ K : Act → World → Prop, (∀ i a' w', R c (sl i) (ro i) a' w' → Stp c F (ro i) w w' ids → (∃ v, a' = a.put o.dst v) → K a' w') → Op1 P ops Q o a w K

theorem Op1.plain {P : Program} {ops : Array Oper} {Q : Exit → Act → World → Prop} {o : Oper} {a : Act} {w : World} {K : Act → World → Prop} (hg : o.guard = none) (h : o.wp P a w K Q) : Op1 P ops Q o a w K := by
  unfold Op1; rw [if_pos (by simp [Region.wanted, hg])]; exact h

theorem L.of {P : Program} {ops : Array Oper} {c : Ctx} {o : Oper} {rest : List Oper} {σ : Slots} {F : Rows} {Q : Exit → Act → World → Prop} {ids : List Nat} {ι : Type} {sl : ι → Slots} {ro : ι → Rows} (h : O P ops c o σ F Q ids ι sl ro) (next : ∀ i, L P ops c rest (sl i) (ro i) Q) :
    L P ops c (o :: rest) σ F Q := fun a w hR => wpList_step fun K hK => h a w hR K fun i a' w' hR' _ _ => hK _ _ (next i a' w' hR')

/-- All that only computes or reads. -/
def pureB (T : Types) (σ : Slots) (F : Rows) (op : Op) : Option (AV × Prop) :=
  match op with
  | .build t ps => buildA T σ t ps.toList
  | op => pureA T σ F op
theorem pureB_sound {P : Program} {T : Types} {c : Ctx} {σ : Slots} {F : Rows} {a : Act} {w : World} (hT : TOk P T) (hR : R c σ F a w) {o : Oper} {A : AV} {C : Prop} (h : pureB T σ F o.op = some (A, C)) (hC : C) (hconv : ∀ s d x, o.op = .convert s d x → (P.underlying s).isSome = true) :
    ∃ u, Gives P o a w u ∧ Rep (Own c.off F) w A u := by
  unfold pureB at h
  split at h
  · rename_i t ps ho
    obtain ⟨u, h1, h2⟩ := build_sound hT hR h hC
    exact ⟨u, fun w' _ => by simp [execOp, ho, h1], h2⟩
  · exact pure_sound hT hR h hC hconv

/-- The guard of an operation: whether it runs. -/
def guardA (ops : Array Oper) (σ : Slots) (o : Oper) : Option (Option (Bool × Bool)) :=
  match o.guard with
  | none => some none
  | some (j, want) =>
    match (ops[j]?).bind (·.dst) with
    | some g => match σ.lookup g with
      | some (.v (.bool b)) => some (some (b, want))
      | some (.when b' t (.v (.bool b))) => some (some ((b' == t) && (b == want), true))
      | some (.when b' t (.when b'' t'' (.v (.bool b)))) => some (some ((b' == t) && ((b'' == t'') && (b == want)), true))
      | _ => none
    | none => none

/-- One operation that only computes or reads. -/
def stepA (T : Types) (N : Nat) (ops : Array Oper) (σ : Slots) (F : Rows) (o : Oper) : Option (Slots × Prop) :=
  match o.dst with
  | some d =>
    if d < N then
      match guardA ops σ o with
      | some none => (pureB T σ F o.op).map fun (D, E) => ((d, D) :: σ, E)
      | some (some (b, t)) => (pureB T σ F o.op).map fun (D, E) => ((d, .when b t D) :: σ, b = t → E)
      | none => none
    else none
  | none => none

def runA (T : Types) (N : Nat) (ops : Array Oper) (F : Rows) : Nat → List Oper → Slots → Option (List Oper × Slots × Prop)
  | 0, rest, σ => some (rest, σ, True)
  | n + 1, o :: rest, σ =>
    match stepA T N ops σ F o with
    | some (σ', C) => match runA T N ops F n rest σ' with
      | some (r, σ'', C') => some (r, σ'', C ∧ C')
      | none => none
    | none => none
  | _ + 1, [], _ => none

/-- Conversions, of which the table tells nothing: their source has a type. -/
def convOk (P : Program) (o : Oper) : Bool := match o.op with | .convert s _ _ => (P.underlying s).isSome | _ => true

section
variable {P : Program} {T : Types} {c : Ctx} {σ : Slots} {F : Rows} {Q : Exit → Act → World → Prop} {ops : Array Oper} {rest : List Oper} {o : Oper}

theorem wanted_iff {j : Nat} {want : Bool} {g : Nat} (hg : o.guard = some (j, want)) (hj : (ops[j]?).bind (·.dst) = some g) {a : Act} : Region.wanted o (yielded ops a.tmps) = true ↔ a.tmps[g]? = some (.bool want) := by
  unfold Region.wanted yielded
  rw [hg]
  simp only [hj, Option.bind_some]
  constructor
  · intro h
    split at h
    · rename_i b hb; simp at h; rw [hb, h]
    · simp at h
  · intro h; rw [h]; simp

theorem getD_some {tmps : Array Value} {g : Nat} {x : Value} (hx : x ≠ undef) (h : tmps.getD g undef = x) : tmps[g]? = some x := by
  rw [Array.getD_eq_getD_getElem?] at h
  cases hq : tmps[g]? with
  | none => simp [hq] at h; exact absurd h.symm hx
  | some y => simp [hq] at h; rw [h]

theorem getD_of_some {tmps : Array Value} {g : Nat} {x : Value} (h : tmps[g]? = some x) : tmps.getD g undef = x := by
  rw [Array.getD_eq_getD_getElem?, h]; rfl

theorem guard_iff {a : Act} {w : World} (hR : R c σ F a w) {b t : Bool} (hg : guardA ops σ o = some (some (b, t))) : Region.wanted o (yielded ops a.tmps) = true ↔ b = t := by
  unfold guardA at hg
  split at hg
  · cases hg
  · rename_i j want hgd
    split at hg
    case h_2 => cases hg
    case h_1 g hj =>
      rw [wanted_iff hgd hj]
      split at hg
      · rename_i b' hb'
        cases hg
        have h1 := hR.slots g _ hb'
        generalize hv : a.tmps.getD g undef = v at h1
        cases h1
        rw [getD_some (by simp [undef]) hv]
        simp
      · rename_i b' t' b'' hb'
        cases hg
        have h1 := hR.slots g _ hb'
        generalize hv : a.tmps.getD g undef = v at h1
        cases h1 with
        | when h1 h2 =>
          by_cases e : b' = t'
          · have h3 := h1 e
            cases h3
            rw [getD_some (by simp [undef]) hv]
            subst e
            simp
          · have hu := h2 e
            subst hu
            have hf : (b' == t') = false := by simpa using e
            simp only [hf, Bool.false_and, Bool.false_eq_true, iff_false]
            intro hs
            rw [getD_of_some hs] at hv
            simp [undef] at hv
      · rename_i b' t' b'' t'' b3 hb'
        cases hg
        have h1 := hR.slots g _ hb'
        generalize hv : a.tmps.getD g undef = v at h1
        have hno : v = undef → ∀ w0 : Bool, ¬ a.tmps[g]? = some (.bool w0) := by
          intro e w0 hs
          rw [getD_of_some hs] at hv
          rw [e] at hv
          simp [undef] at hv
        cases h1 with
        | when h1 h2 =>
          by_cases e : b' = t'
          · have h3 := h1 e
            cases h3 with
            | when h3 h4 =>
              by_cases e2 : b'' = t''
              · have h5 := h3 e2
                cases h5
                rw [getD_some (by simp [undef]) hv]
                subst e
                subst e2
                simp
              · have hf : (b'' == t'') = false := by simpa using e2
                simp only [hf, Bool.false_and, Bool.and_false, Bool.false_eq_true, iff_false]
                exact hno (h4 e2) _
          · have hf : (b' == t') = false := by simpa using e
            simp only [hf, Bool.false_and, Bool.false_eq_true, iff_false]
            exact hno (h2 e) _
      · cases hg

/-- A pure operation: what it yields, whatever its guard. -/
theorem step_sound {σ' : Slots} {C : Prop} {a : Act} {w : World} (hT : TOk P T) (hcv : convOk P o = true) (hR : R c σ F a w) (h : stepA T c.N ops σ F o = some (σ', C)) (hC : C) :
    ∃ d A u, o.dst = some d ∧ d < c.N ∧ σ' = (d, A) :: σ ∧ Rep (Own c.off F) w A u ∧ ((Region.wanted o (yielded ops a.tmps) = true ∧ Gives P o a w u) ∨ (Region.wanted o (yielded ops a.tmps) = false ∧ u = undef)) := by
  have hconv : ∀ s d x, o.op = .convert s d x → (P.underlying s).isSome = true := fun s d x e => by unfold convOk at hcv; rw [e] at hcv; exact hcv
  unfold stepA at h
  split at h
  case h_2 => cases h
  case h_1 d hd =>
    split at h
    case isFalse => cases h
    case isTrue hdN =>
      split at h
      · rename_i hg
        have hgn : o.guard = none := by
          unfold guardA at hg
          split at hg
          · assumption
          · split at hg
            · split at hg <;> cases hg
            · cases hg
        simp only [Option.map_eq_some_iff] at h
        obtain ⟨⟨A, C'⟩, hA, he⟩ := h
        cases he
        obtain ⟨u, hu, hrep⟩ := pureB_sound hT hR hA hC hconv
        exact ⟨d, A, u, hd, hdN, rfl, hrep, .inl ⟨by simp [Region.wanted, hgn], hu⟩⟩
      · rename_i b t hg
        simp only [Option.map_eq_some_iff] at h
        obtain ⟨⟨A, C'⟩, hA, he⟩ := h
        cases he
        have key := guard_iff hR hg
        by_cases hb : b = t
        · obtain ⟨u, hu, hrep⟩ := pureB_sound hT hR hA (hC hb) hconv
          exact ⟨d, .when b t A, u, hd, hdN, rfl, .when (fun _ => hrep) fun e => absurd hb e, .inl ⟨key.2 hb, hu⟩⟩
        · exact ⟨d, .when b t A, undef, hd, hdN, rfl, .when (fun e => absurd e hb) fun _ => rfl, .inr ⟨by simpa using fun hw => hb (key.1 hw), rfl⟩⟩
      · cases h

/-- A pure operation, whatever its guard. -/
theorem O.step {σ' : Slots} {C : Prop} (hT : TOk P T) (hcv : convOk P o = true) (h : stepA T c.N ops σ F o = some (σ', C)) (hC : C) : O P ops c o σ F Q [] Unit (fun _ => σ') (fun _ => F) := by
  intro a w hR K hK
  obtain ⟨d, A, u, hd, hdN, rfl, hrep, hy⟩ := step_sound hT hcv hR h hC
  have hk := hK () (a.put (some d) u) w (hR.pure hdN hrep) ⟨Ext.refl _ _, fun _ _ _ _ _ => rfl, fun s hs _ => hs⟩ ⟨u, by rw [hd]⟩
  unfold Op1
  rcases hy with ⟨hw, hg⟩ | ⟨hw, rfl⟩
  · rw [if_pos hw]
    simp only [Oper.wp]
    rw [hg.run, Oper.upon_value, hd]
    exact hk
  · rw [if_neg (by simp [hw]), hd]
    exact hk

theorem L.step {σ' : Slots} {C : Prop} (hT : TOk P T) (hcv : convOk P o = true) (h : stepA T c.N ops σ F o = some (σ', C)) (hC : C) (next : L P ops c rest σ' F Q) : L P ops c (o :: rest) σ F Q := L.of (O.step hT hcv h hC) fun _ => next

/-- So many operations at once. -/
theorem L.run : ∀ (n : Nat) {rest r : List Oper} {σ σ' : Slots} {C : Prop}, TOk P T → rest.all (convOk P) = true → runA T c.N ops F n rest σ = some (r, σ', C) → C → L P ops c r σ' F Q → L P ops c rest σ F Q
  | 0, rest, r, σ, σ', C, _, _, h, _, next => by cases h; exact next
  | n + 1, [], r, σ, σ', C, _, _, h, _, _ => by cases h
  | n + 1, o :: rest, r, σ, σ', C, hT, hcv, h, hC, next => by
    simp only [List.all_cons, Bool.and_eq_true] at hcv
    unfold runA at h
    split at h
    case h_2 => cases h
    case h_1 σ1 C1 h1 =>
      split at h
      case h_2 => cases h
      case h_1 r' σ2 C2 h2 =>
        cases h
        exact L.step hT hcv.1 h1 hC.1 (L.run n hT hcv.2 h2 hC.2 next)

/-- As many operations as only compute or read. -/
def goA (T : Types) (N : Nat) (ops : Array Oper) (F : Rows) : List Oper → Slots → Option (List Oper × Slots × Prop)
  | [], σ => some ([], σ, True)
  | o :: rest, σ =>
    match stepA T N ops σ F o with
    | some (σ', C) => match goA T N ops F rest σ' with
      | some (r, σ'', C') => some (r, σ'', C ∧ C')
      | none => none
    | none => some (o :: rest, σ, True)

theorem L.go : ∀ {rest r : List Oper} {σ σ' : Slots} {C : Prop}, TOk P T → rest.all (convOk P) = true → goA T c.N ops F rest σ = some (r, σ', C) → C → L P ops c r σ' F Q → L P ops c rest σ F Q
  | [], r, σ, σ', C, _, _, h, _, next => by cases h; exact next
  | o :: rest, r, σ, σ', C, hT, hcv, h, hC, next => by
    simp only [List.all_cons, Bool.and_eq_true] at hcv
    unfold goA at h
    split at h
    · rename_i σ1 C1 h1
      split at h
      case h_2 => cases h
      case h_1 r' σ2 C2 h2 =>
        cases h
        exact L.step hT hcv.1 h1 hC.1 (L.go hT hcv.2 h2 hC.2 next)
    · cases h; exact next

theorem L.nil (h : E c .normal σ F Q) : L P ops c [] σ F Q := fun a w hR => wpList_nil (h a w hR)

end

end Go.Proofs.YtbogfmgfafdjiaaGreatDoor

/- Steps that write or make memory, on abstract values. -/
namespace Go.Proofs.YtbogfmgfafdjiaaGreatDoor
set_option linter.unusedVariables false
set_option linter.unusedSimpArgs false
open Go.RowKit

/-- Another row in the place of one. -/
def setF (id i' : Nat) (r : Row) : Rows → Rows
  | [] => []
  | (k, s) :: t => if k = id then (i', r) :: t else (k, s) :: setF id i' r t
theorem setF_split {F : Rows} {id : Nat} {r : Row} (h : F.lookup id = some r) : ∃ L1 L2, F = L1 ++ (id, r) :: L2 ∧ ∀ i' r', setF id i' r' F = L1 ++ (i', r') :: L2 := by
  induction F with
  | nil => cases h
  | cons p t ih =>
    obtain ⟨k, s⟩ := p
    rw [lookup_cons] at h
    split at h
    · rename_i e; cases h; subst e; exact ⟨[], t, rfl, fun i' r' => by simp [setF]⟩
    · rename_i e
      obtain ⟨L1, L2, h1, h2⟩ := ih h
      refine ⟨(k, s) :: L1, L2, by rw [h1]; rfl, fun i' r' => ?_⟩
      rw [setF, if_neg (fun e' => e e'.symm), h2]
      rfl

def storeA (T : Types) (F : Rows) (t : TypeId) (A B : AV) : Option (Nat × Rows × Prop) :=
  match tsz T t, cellsOf B with
  | some n, some ds =>
    match A with
    | .ptr id b o => match F.lookup id with
      | some (.blk b' T' cs) => some (id, setF id id (.blk b' T' (splice cs o ds)) F, b = b' ∧ ds.length = n ∧ o + ds.length ≤ cs.length)
      | _ => none
    | .eptr id x sz k o => match F.lookup id with
      | some (.own x' E sz' m g) => some (id, setF id id (.own x' E sz' m (fun i => if i = k then splice (g k) o ds else g i)) F, x = x' ∧ sz = sz' ∧ k < m ∧ ds.length = n ∧ o + ds.length ≤ sz)
      | _ => none
    | _ => none
  | _, _ => none

section
variable {P : Program} {T : Types} {c : Ctx} {σ : Slots} {F : Rows} {Q : Exit → Act → World → Prop} {ops : Array Oper} {rest : List Oper} {o : Oper}

theorem setRow_all (w : World) (g : Nat) (cs : Array Value) : (w.setRow g cs).os = w.os ∧ (w.setRow g cs).tape = w.tape ∧ (w.setRow g cs).output = w.output ∧ (w.setRow g cs).heap.size = w.heap.size := by
  refine ⟨rfl, rfl, rfl, by simp [World.setRow]⟩

/-- A step that writes one row over. -/
theorem R.write {a : Act} {w : World} (hR : R c σ F a w) {id : Nat} {r r' : Row} (hrow : F.lookup id = some r) {w' : World} (hs : w.heap.size ≤ w'.heap.size) (hos : w'.os = w.os) (htp : w'.tape = w.tape) (hou : w'.output = w.output)
    (hb : ∀ b, b < w.heap.size → r.block ≠ some b → w'.heap[b]? = w.heap[b]?) (hk : ∀ b, r'.block = some b → r.block = some b ∨ w.heap.size ≤ b) {i' : Nat}
    (hr : Ext (Own c.off F) (Own c.off (setF id i' r' F)) w w' → r'.sat (Own c.off (setF id i' r' F)) w') :
    Kept c.fo c.w0 w' ∧ (∀ s ∈ setF id i' r' F, ∀ b, s.2.block = some b → c.fo b ∨ c.w0.heap.size ≤ b) ∧ Sat c.off (setF id i' r' F) w' ∧ Stp c F (setF id i' r' F) w w' [id] := by
  obtain ⟨L1, L2, h1, h2⟩ := setF_split hrow
  rw [h2] at hr ⊢
  have hsat := hR.sat
  rw [h1] at hr hsat
  obtain ⟨g1, g2⟩ := hsat.turn hR.off hs hb hk hr
  have hfr : ∀ b, r.block = some b → c.fo b ∨ c.w0.heap.size ≤ b := fun b hb => hR.fresh (id, r) (by rw [h1]; simp) b hb
  have hk0 := hR.kept.size
  have hsame : ∀ s ∈ F, s.1 ∉ [id] → (∀ b, s.2.block = some b → w'.heap[b]? = w.heap[b]?) ∧ s ∈ L1 ++ (i', r') :: L2 := by
    intro s hs hn
    rw [h1] at hs
    obtain ⟨n1, n2, n3⟩ := List.pairwise_append.1 hsat.nodup
    rw [List.pairwise_cons] at n2
    have hsz : ∀ b, s.2.block = some b → b < w.heap.size := fun b hb => hsat.lt hs hb
    rcases List.mem_append.1 hs with h3 | h3
    · exact ⟨fun b e => hb b (hsz b e) fun e' => n3 s h3 (id, r) (by simp) b e e', by simp [h3]⟩
    · rcases List.mem_cons.1 h3 with rfl | h3
      · simp at hn
      · exact ⟨fun b e => hb b (hsz b e) fun e' => n2.1 s h3 b e' e, by simp [h3]⟩
  refine ⟨⟨hos.trans hR.kept.os, htp.trans hR.kept.tape, hou.trans hR.kept.output, Nat.le_trans hk0 hs, fun b hlt hn => ?_⟩, fun s hs' b hsb => ?_, g1, ⟨by rw [h1]; exact g2, fun s hs hn => (hsame s hs hn).1, fun s hs hn => (hsame s hs hn).2⟩⟩
  · rw [hb b (by omega) (fun e => by rcases hfr b e with h | h; exact hn h; omega)]
    exact hR.kept.block b hlt hn
  · rcases List.mem_append.1 hs' with h3 | h3
    · exact hR.fresh s (by rw [h1]; simp [h3]) b hsb
    · rcases List.mem_cons.1 h3 with rfl | h3
      · rcases hk b hsb with h4 | h4
        · exact hfr b h4
        · exact .inr (by omega)
      · exact hR.fresh s (by rw [h1]; simp [h3]) b hsb

theorem flat_splice {own : Nat → Prop} {w : World} {us ds' : List Value} {cs ds : List AV} {o : Nat} (hl : us.length = cs.length) (h1 : ∀ u ∈ us, u.oneCell' = true) (hr : ∀ (j : Nat) A u, cs[j]? = some A → us[j]? = some u → Rep own w A u)
    (hl' : ds'.length = ds.length) (h1' : ∀ u ∈ ds', u.oneCell' = true) (hr' : ∀ (j : Nat) A u, ds[j]? = some A → ds'[j]? = some u → Rep own w A u) (ho : o + ds.length ≤ cs.length) :
    (splice us o ds').length = (splice cs o ds).length ∧ (∀ u ∈ splice us o ds', u.oneCell' = true) ∧ ∀ (j : Nat) A u, (splice cs o ds)[j]? = some A → (splice us o ds')[j]? = some u → Rep own w A u := by
  have ho' : o + ds'.length ≤ us.length := by omega
  refine ⟨by rw [splice_length ho, splice_length ho', hl], fun u hu => ?_, fun j A u hA hu => ?_⟩
  · obtain ⟨j, hj⟩ := List.getElem?_of_mem hu
    rw [splice_get ho'] at hj
    split at hj
    · exact h1' u (List.mem_of_getElem? hj)
    · exact h1 u (List.mem_of_getElem? hj)
  · rw [splice_get ho] at hA
    rw [splice_get ho', hl'] at hu
    split at hu
    · rename_i hc; rw [if_pos hc] at hA; exact hr' _ A u hA hu
    · rename_i hc; rw [if_neg hc] at hA; exact hr j A u hA hu

/-- A store. -/
theorem O.store {t : TypeId} {x y : Operand} {A B : AV} {p q C : Prop} {F' : Rows} {rid : Nat} (hT : TOk P T) (ho : o.op = .store t x y) (hg : o.guard = none) (hd : o.dst = none) (hx : evalS σ x = some (A, p)) (hy : evalS σ y = some (B, q)) (hs : storeA T F t A B = some (rid, F', C))
    (hC : p ∧ q ∧ C) : O P ops c o σ F Q [rid] Unit (fun _ => σ) (fun _ => F') := by
  intro a w hR K hK
  refine Op1.plain hg ?_
  obtain ⟨hp, hq, hC⟩ := hC
  have hA := hR.evals hx hp
  have hB := hR.evals hy hq
  unfold storeA at hs
  split at hs
  case h_2 => cases hs
  case h_1 n ds hn hds =>
    obtain ⟨i, hi, rfl⟩ := tsz_some hn
    obtain ⟨g1, g2, g3⟩ := cellsOf_rep hB hds
    have hvs : (a.eval y).cells.size = ds.length := by rw [← Array.length_toList, g1]
    split at hs
    · rename_i id b off
      split at hs
      case h_2 => cases hs
      case h_1 b' T' cs hrow =>
        cases hs
        obtain ⟨rfl, hsz, hle⟩ := hC
        have hA' : a.eval x = .pointer (some ⟨b, off, none⟩) := by generalize a.eval x = v at hA; cases hA; rfl
        obtain ⟨us, hh, hl, h1, hr⟩ := hR.sat.at hrow
        have hrun := run_storeCells_at P b off T' (a.eval y).cells.toList 0 us.toArray w hh (by rw [g1]; simp; omega) g2
        simp only [Nat.add_zero] at hrun
        have hst : (storeVar t ⟨b, off, none⟩ (a.eval y)).run P w = .ok () (w.setRow b (splice us off (a.eval y).cells.toList).toArray) := by
          unfold storeVar
          simp only [Sem.run_bind, (hT.told hi).size, Result.andThen_ok]
          rw [if_neg (by simp; omega)]
          simpa [splice] using hrun
        have hgive : (execOp a.eval o).run P w = .ok .skip (w.setRow b (splice us off (a.eval y).cells.toList).toArray) := by
          simp [execOp, ho, hA', Instr.storeAt, Instr.sureAddr, hst]
        obtain ⟨w1, w2, w3, w4⟩ := setRow_all w b (splice us off (a.eval y).cells.toList).toArray
        obtain ⟨k1, k2, k3, k4⟩ := hR.write (i' := rid) (r' := .blk b T' (splice cs off ds)) hrow (w' := w.setRow b (splice us off (a.eval y).cells.toList).toArray) (by omega) w1 w2 w3
          (fun b' hlt hne => setRow_other w b b' _ (fun e => hne (by rw [e]; rfl))) (fun b' hb' => .inl hb') (fun he => by
            obtain ⟨f1, f2, f3⟩ := flat_splice (own := Own c.off (setF rid rid (.blk b T' (splice cs off ds)) F)) (w := w.setRow b (splice us off (a.eval y).cells.toList).toArray) hl h1 (fun j A u hA hu => (hr j A u hA hu).ext he) g1 g2 (fun j A u hA hu => (g3 j A u hA hu).ext he) hle
            exact ⟨_, setRow_heap w b us.toArray _ T' (0, 0) hh, f1, f2, f3⟩)
        simp only [Oper.wp]
        rw [hgive, Oper.upon_skip, hd]
        exact hK () _ _ (hR.step_none k1 k2 k3 k4.ext) k4 ⟨undef, by rw [hd]⟩
    · rename_i id x' sz k off
      split at hs
      case h_2 => cases hs
      case h_1 x0 E' sz' m g hrow =>
        cases hs
        obtain ⟨rfl, rfl, hkm, hsz, hle⟩ := hC
        have hA' : a.eval x = .pointer (some ((headOf x').add (k * sz + off))) := by generalize a.eval x = v at hA; cases hA; rfl
        obtain ⟨us, ho', hlen, h1, hr⟩ := hR.sat.at hrow
        obtain ⟨hus, hown⟩ := ho'
        rcases hown with ⟨-, rfl⟩ | ⟨g', cap, cur, rfl, -, hh, hmc, hcm, hcs, htk⟩
        · omega
        · have hkk : k * sz + sz ≤ m * sz := by have := Nat.mul_le_mul_right sz (show k + 1 ≤ m by omega); rw [Nat.add_mul, Nat.one_mul] at this; exact this
          have hmm : m * sz ≤ cap * sz := Nat.mul_le_mul_right _ hmc
          have haddr : (headOf (.slice (some ⟨g', 0, none⟩) m cap)).add (k * sz + off) = ⟨g', k * sz + off, none⟩ := by rw [show headOf (.slice (some ⟨g', 0, none⟩) m cap) = ⟨g', 0, none⟩ from rfl, addr_add_lit, Nat.zero_add]
          rw [haddr] at hA'
          have hcl : cur.toList.length = cap * sz := by rw [Array.length_toList, hcs]
          have hrun := run_storeCells_at P g' (k * sz + off) E' (a.eval y).cells.toList 0 cur w hh (by rw [g1, ← Array.length_toList, hcl]; omega) g2
          simp only [Nat.add_zero] at hrun
          have hst : (storeVar t ⟨g', k * sz + off, none⟩ (a.eval y)).run P w = .ok () (w.setRow g' (splice cur.toList (k * sz + off) (a.eval y).cells.toList).toArray) := by
            unfold storeVar
            simp only [Sem.run_bind, (hT.told hi).size, Result.andThen_ok]
            rw [if_neg (by simp; omega)]
            simpa [splice] using hrun
          have hgive : (execOp a.eval o).run P w = .ok .skip (w.setRow g' (splice cur.toList (k * sz + off) (a.eval y).cells.toList).toArray) := by
            simp [execOp, ho, hA', Instr.storeAt, Instr.sureAddr, hst]
          have hbound : k * sz + off + (a.eval y).cells.toList.length ≤ us.length := by rw [g1, hus]; omega
          have hbound' : k * sz + off + (a.eval y).cells.toList.length ≤ cur.toList.length := by rw [g1, hcl]; omega
          obtain ⟨w1, w2, w3, w4⟩ := setRow_all w g' (splice cur.toList (k * sz + off) (a.eval y).cells.toList).toArray
          obtain ⟨k1, k2, k3, k4⟩ := hR.write (i' := rid) (r' := .own (.slice (some ⟨g', 0, none⟩) m cap) E' sz m (fun i => if i = k then splice (g k) off ds else g i)) hrow (w' := w.setRow g' (splice cur.toList (k * sz + off) (a.eval y).cells.toList).toArray) (by omega) w1 w2 w3
            (fun b' hlt hne => setRow_other w g' b' _ (fun e => hne (by rw [e]; rfl))) (fun b' hb' => .inl hb') (fun he => by
              have hlk := hlen k hkm
              refine ⟨splice us (k * sz + off) (a.eval y).cells.toList, ⟨by rw [splice_length hbound, hus], .inr ⟨g', cap, _, rfl, Nat.zero_le _, setRow_heap w g' cur _ E' (0, 0) hh, hmc, hcm, by rw [← hcs, List.size_toArray, splice_length hbound', Array.length_toList], ?_⟩⟩, fun i hi => ?_, fun u hu => ?_, fun i hi j A hA => ?_⟩
              · apply List.ext_getElem?
                intro j
                simp only [List.getElem?_take]
                rw [splice_get hbound, splice_get hbound']
                by_cases hj : j < m * sz
                · rw [if_pos hj, ← htk, List.getElem?_take, if_pos hj]
                · rw [if_neg hj, if_neg (by rw [hus] at hbound; omega)]
                  exact (List.getElem?_eq_none (by omega)).symm
              · simp only
                split
                · rename_i e; subst e; rw [splice_length (by omega)]; exact hlk
                · exact hlen i hi
              · obtain ⟨j, hj⟩ := List.getElem?_of_mem hu
                rw [splice_get hbound] at hj
                split at hj
                · exact g2 u (List.mem_of_getElem? hj)
                · exact h1 u (List.mem_of_getElem? hj)
              · rw [splice_get hbound]
                simp only at hA
                by_cases e : i = k
                · subst e
                  rw [if_pos rfl, splice_get (by omega)] at hA
                  rw [g1]
                  split at hA
                  · rename_i hc
                    rw [if_pos (by omega), show i * sz + j - (i * sz + off) = j - off by omega]
                    have hlt := (List.getElem?_eq_some_iff.1 hA).1
                    have hx := List.getElem?_eq_getElem (l := (a.eval y).cells.toList) (i := j - off) (by rw [g1]; exact hlt)
                    exact ⟨_, hx, (g3 _ A _ hA hx).ext he⟩
                  · rename_i hc
                    have hjlt := (List.getElem?_eq_some_iff.1 hA).1
                    rw [if_neg (by omega)]
                    obtain ⟨u, hu, hrep⟩ := hr i hi j A hA
                    exact ⟨u, hu, hrep.ext he⟩
                · rw [if_neg e] at hA
                  have hjlt := (List.getElem?_eq_some_iff.1 hA).1
                  rw [hlen i hi] at hjlt
                  have hne : ¬ (k * sz + off ≤ i * sz + j ∧ i * sz + j < k * sz + off + (a.eval y).cells.toList.length) := by
                    rw [g1]
                    rcases Nat.lt_or_ge i k with h | h
                    · have := Nat.mul_le_mul_right sz (show i + 1 ≤ k by omega); rw [Nat.add_mul, Nat.one_mul] at this; omega
                    · have := Nat.mul_le_mul_right sz (show k + 1 ≤ i by omega); rw [Nat.add_mul, Nat.one_mul] at this; omega
                  rw [if_neg hne]
                  obtain ⟨u, hu, hrep⟩ := hr i hi j A hA
                  exact ⟨u, hu, hrep.ext he⟩)
          simp only [Oper.wp]
          rw [hgive, Oper.upon_skip, hd]
          exact hK () _ _ (hR.step_none k1 k2 k3 k4.ext) k4 ⟨undef, by rw [hd]⟩
    · cases hs

theorem L.store {t : TypeId} {x y : Operand} {A B : AV} {p q C : Prop} {F' : Rows} {k : Nat} (hT : TOk P T) (ho : o.op = .store t x y) (hg : o.guard = none) (hd : o.dst = none) (hx : evalS σ x = some (A, p)) (hy : evalS σ y = some (B, q)) (hs : storeA T F t A B = some (k, F', C))
    (hC : p ∧ q ∧ C) (next : L P ops c rest σ F' Q) : L P ops c (o :: rest) σ F Q := L.of (O.store hT ho hg hd hx hy hs hC) fun _ => next

end

end Go.Proofs.YtbogfmgfafdjiaaGreatDoor

/- Steps that make memory, and appends, on abstract values. -/
namespace Go.Proofs.YtbogfmgfafdjiaaGreatDoor
set_option linter.unusedVariables false
set_option linter.unusedSimpArgs false
open Go.RowKit

section
variable {P : Program} {T : Types} {c : Ctx} {σ : Slots} {F : Rows} {Q : Exit → Act → World → Prop} {ops : Array Oper} {rest : List Oper} {o : Oper}

theorem heap_alloc_size (w : World) (x : Obj) : (w.alloc x).heap.size = w.heap.size + 1 := by simp

/-- A step that makes a row. -/
theorem R.make {a : Act} {w : World} (hR : R c σ F a w) {r : Row} (x : Obj) {i : Nat} (hk : ∀ b, r.block = some b → w.heap.size ≤ b)
    (hr : Ext (Own c.off F) (Own c.off ((i, r) :: F)) w (w.alloc x) → r.sat (Own c.off ((i, r) :: F)) (w.alloc x)) :
    Kept c.fo c.w0 (w.alloc x) ∧ (∀ s ∈ (i, r) :: F, ∀ b, s.2.block = some b → c.fo b ∨ c.w0.heap.size ≤ b) ∧ Sat c.off ((i, r) :: F) (w.alloc x) ∧ Stp c F ((i, r) :: F) w (w.alloc x) [] := by
  obtain ⟨g1, g2⟩ := hR.sat.add hR.off (i := i) (w' := w.alloc x) (by simp) (fun b hlt => Below.heap_alloc _ _ _ hlt) hk hr
  refine ⟨hR.kept.alloc x, fun s hs b hsb => ?_, g1, g2, fun s hs _ b hb => Below.heap_alloc _ _ _ (hR.sat.lt hs hb), fun s hs _ => by simp [hs]⟩
  rcases List.mem_cons.1 hs with rfl | h3
  · exact .inr (Nat.le_trans hR.kept.size (hk b hsb))
  · exact hR.fresh s h3 b hsb

theorem new_blk {a : Act} {w : World} (hR : R c σ F a w) (i : Nat) (T' : TypeId) {us : Array Value} {cs : List AV} (hl : us.toList.length = cs.length) (h1 : ∀ u ∈ us.toList, u.oneCell' = true) (hr : ∀ (j : Nat) A u, cs[j]? = some A → us.toList[j]? = some u → Rep (Own c.off F) w A u) :
    Kept c.fo c.w0 (w.alloc (.cells us T')) ∧ (∀ s ∈ (i, Row.blk w.heap.size T' cs) :: F, ∀ b, s.2.block = some b → c.fo b ∨ c.w0.heap.size ≤ b) ∧ Sat c.off ((i, .blk w.heap.size T' cs) :: F) (w.alloc (.cells us T')) ∧
      Stp c F ((i, .blk w.heap.size T' cs) :: F) w (w.alloc (.cells us T')) [] :=
  hR.make (.cells us T') (fun b hb => by cases hb; exact Nat.le_refl _) fun he => ⟨us.toList, by simpa using heap_alloc_new w (.cells us T'), hl, h1, fun j A u hA hu => (hr j A u hA hu).ext he⟩

/-- A variable in memory that begins with a value. -/
theorem O.box {t : TypeId} {x : Operand} {A : AV} {p : Prop} {cs : List AV} {d : Nat} (i : Nat) (ho : o.op = .box t x) (hg : o.guard = none) (hd : o.dst = some d) (hdN : Nat.blt d c.N = true) (hx : evalS σ x = some (A, p)) (hp : p) (hcs : cellsOf A = some cs)
    : O P ops c o σ F Q [] Nat (fun b => (d, .ptr i b 0) :: σ) (fun b => (i, .blk b t cs) :: F) := by
  intro a w hR K hK
  refine Op1.plain hg ?_
  obtain ⟨g1, g2, g3⟩ := cellsOf_rep (hR.evals hx hp) hcs
  obtain ⟨k1, k2, k3, k4⟩ := new_blk hR i t g1 g2 g3
  have hgive : (execOp a.eval o).run P w = .ok (.value (.pointer (some ⟨w.heap.size, 0, none⟩))) (w.alloc (.cells (a.eval x).cells t)) := by
    simp [execOp, ho, Instr.box, newVar, newRow]
  simp only [Oper.wp]
  rw [hgive, Oper.upon_value, hd]
  exact hK _ _ _ (hR.step (of_blt hdN) k1 k2 k3 k4.ext (.ptr _ _ _)) k4 ⟨_, by rw [hd]⟩

/-- A variable in memory. -/
theorem O.alloc {t : TypeId} {n : TI} {d : Nat} (i : Nat) (hT : TOk P T) (ho : o.op = .alloc t) (hg : o.guard = none) (hd : o.dst = some d) (hdN : Nat.blt d c.N = true) (ht : T.lookup t = some n)
    : O P ops c o σ F Q [] Nat (fun b => (d, .ptr i b 0) :: σ) (fun b => (i, .blk b t (n.zero.map .v)) :: F) := by
  intro a w hR K hK
  refine Op1.plain hg ?_
  have told := hT.told ht
  obtain ⟨z, hz, hzr⟩ := told.run_zero
  obtain ⟨k1, k2, k3, k4⟩ := new_blk hR i t (us := z.cells) (cs := n.zero.map .v) (by rw [hz]; simp) (by rw [hz]; exact told.zone) (fun j A u hA hu => by
    rw [hz] at hu
    rw [List.getElem?_map, hu] at hA
    cases hA
    exact .v _)
  have hgive : (execOp a.eval o).run P w = .ok (.value (.pointer (some ⟨w.heap.size, 0, none⟩))) (w.alloc (.cells z.cells t)) := by
    simp [execOp, ho, Instr.alloc, hzr, newVar, newRow]
  simp only [Oper.wp]
  rw [hgive, Oper.upon_value, hd]
  exact hK _ _ _ (hR.step (of_blt hdN) k1 k2 k3 k4.ext (.ptr _ _ _)) k4 ⟨_, by rw [hd]⟩

/-- A row of one's own out of flat cells. -/
def rowsOf (sz : Nat) (cs : List AV) (i : Nat) : List AV := (cs.drop (i * sz)).take sz

theorem sat_own_flat {own : Nat → Prop} {w : World} {b E sz n : Nat} {us : List Value} {cs : List AV} (hh : w.heap[b]? = some (.cells us.toArray E (0, 0))) (hn : us.length = n * sz) (hm : n ≤ maxLen) (hl : us.length = cs.length) (h1 : ∀ u ∈ us, u.oneCell' = true)
    (hr : ∀ (j : Nat) A u, cs[j]? = some A → us[j]? = some u → Rep own w A u) : Row.sat own w (.own (.slice (some ⟨b, 0, none⟩) n n) E sz n (rowsOf sz cs)) := by
  have key : ∀ i, i < n → i * sz + sz ≤ n * sz := fun i hi => by have := Nat.mul_le_mul_right sz (show i + 1 ≤ n by omega); rw [Nat.add_mul, Nat.one_mul] at this; exact this
  refine ⟨us, ⟨hn, .inr ⟨b, n, us.toArray, rfl, Nat.zero_le _, hh, Nat.le_refl _, hm, by simpa using hn, by rw [← hn]; simp⟩⟩, fun i hi => ?_, h1, fun i hi j A hA => ?_⟩
  · have := key i hi
    simp only [rowsOf, List.length_take, List.length_drop, ← hl, hn]
    omega
  · unfold rowsOf at hA
    rw [List.getElem?_take] at hA
    split at hA
    · rw [List.getElem?_drop] at hA
      have hlt := (List.getElem?_eq_some_iff.1 hA).1
      have hu := List.getElem?_eq_getElem (l := us) (i := i * sz + j) (by omega)
      exact ⟨_, hu, hr _ A _ hA hu⟩
    · cases hA

theorem tile_eq (z : List Value) (n : Nat) : ∀ (m : Nat), z.length = m → ((Array.range (n * m)).map fun i => z.toArray[i % z.toArray.size]!).toList.length = n * m := by
  intro m hm; simp

/-- '[]T{..}'. -/
theorem O.buildSlice {t e : TypeId} {len : Nat} {parts : Array (Nat × Operand)} {n : TI} {d : Nat} {m : List (Nat × AV)} {p C : Prop} {cs : List AV} (i : Nat) (hT : TOk P T) (ho : o.op = .buildSlice t len parts) (hg : o.guard = none) (hd : o.dst = some d) (hdN : Nat.blt d c.N = true)
    (ht : tdOf T t = some (.slice e)) (he : T.lookup e = some n) (hsmall : len * n.size ≤ 16777216) (hsmall' : len ≤ 16777216) (hm : partsA σ parts.toList = some (m, p))
    (hf : fillA (fun k => some (k * n.size, n.size)) m ((List.range (len * n.size)).map fun j => .v (n.zero.getD (j % n.size) undef)) = some (cs, C)) (hC : p ∧ C)
    : O P ops c o σ F Q [] Value (fun x => (d, .ref i x) :: σ) (fun x => (i, .own x e n.size len (rowsOf n.size cs)) :: F) := by
  intro a w hR K hK
  refine Op1.plain hg ?_
  obtain ⟨ti, hti, htd⟩ := tdOf_some ht
  have told := hT.told he
  obtain ⟨z, hz, hzr⟩ := told.run_zero
  obtain ⟨hp, hC⟩ := hC
  obtain ⟨g1, g2⟩ := parts_sound hR hm hp
  have hzl : z.cells.toList.length = n.size := by rw [hz, told.zsize]
  have hzs : z.cells.size = n.size := by rw [← Array.length_toList, hzl]
  have hpl : (parts.map fun (i, x) => (i, a.eval x)).toList = parts.toList.map fun p => (p.1, a.eval p.2) := by simp
  have tile : ∀ (zero : Array Value), (len * n.size = 0 ∨ zero = z.cells) → ((Array.range (len * n.size)).map fun j => zero[j % zero.size]!).toList = (List.range (len * n.size)).map fun j => n.zero.getD (j % n.size) undef := by
    intro zero h
    rcases h with h | h
    · simp [h]
    · subst h
      simp only [Array.toList_map, Array.toList_range]
      apply List.map_congr_left
      intro j hj
      have hpos : 0 < n.size := by
        rcases Nat.eq_zero_or_pos n.size with h | h
        · rw [h] at hj; simp at hj
        · exact h
      have hlt : j % n.size < n.zero.length := by rw [told.zsize]; exact Nat.mod_lt _ hpos
      rw [hzs, ← hz]
      have hlt' : j % n.size < z.cells.size := by rw [hzs]; exact Nat.mod_lt _ hpos
      rw [getElem!_pos z.cells _ hlt', List.getD_eq_getElem?_getD]
      simp [hlt']
  obtain ⟨zero, hzero, hzrun⟩ : ∃ zero : Array Value, (len * n.size = 0 ∨ zero = z.cells) ∧ ((if len * n.size = 0 then pure #[] else do pure (← zeroValue e).cells) : Sem (Array Value)).run P w = .ok zero w := by
    by_cases h0 : len * n.size = 0
    · exact ⟨#[], .inl h0, by simp [h0]⟩
    · exact ⟨z.cells, .inr rfl, by rw [if_neg h0]; simp [hzr]⟩
  obtain ⟨us', h2, h3, h4, h5⟩ := fill_sound (own := Own c.off F) (w := w) (us := (Array.range (len * n.size)).map fun j => zero[j % zero.size]!) hf hC g1 g2 (by rw [tile zero hzero]; simp)
    (fun u hu => by
      rw [tile zero hzero] at hu
      obtain ⟨j, hj, rfl⟩ := List.mem_map.1 hu
      have hpos : 0 < n.size := by
        rcases Nat.eq_zero_or_pos n.size with h | h
        · rw [h] at hj; simp at hj
        · exact h
      have hlt : j % n.size < n.zero.length := by rw [told.zsize]; exact Nat.mod_lt _ hpos
      rw [List.getD_eq_getElem?_getD, List.getElem?_eq_getElem hlt]
      exact told.zone _ (List.getElem_mem hlt))
    (fun j A u hA hu => by
      rw [tile zero hzero] at hu
      rw [List.getElem?_map] at hA hu
      cases hq : (List.range (len * n.size))[j]? with
      | none => simp [hq] at hA
      | some y => simp only [hq, Option.map_some, Option.some.injEq] at hA hu; subst hA; subst hu; exact .v _)
  have hlen : us'.toList.length = len * n.size := by
    rw [h3]
    have : ∀ {parts : List (Nat × AV)} {cs r : List AV} {C : Prop}, fillA (fun k => some (k * n.size, n.size)) parts cs = some (r, C) → C → r.length = cs.length := by
      intro parts
      induction parts with
      | nil => intro cs r C h _; cases h; rfl
      | cons q l ih =>
        intro cs r C h hC
        obtain ⟨k, A⟩ := q
        unfold fillA at h
        split at h
        case h_2 => cases h
        case h_1 o n' ds hp hd =>
          cases hp
          split at h
          case h_2 => cases h
          case h_1 r' C' hf' =>
            cases h
            obtain ⟨⟨q1, q2⟩, q3⟩ := hC
            rw [ih hf' q3, splice_length (by omega)]
    rw [this hf hC]; simp
  obtain ⟨k1, k2, k3, k4⟩ := hR.make (.cells us' e) (i := i) (r := .own (.slice (some ⟨w.heap.size, 0, none⟩) len len) e n.size len (rowsOf n.size cs)) (fun b hb => by cases hb; exact Nat.le_refl _) fun hext =>
    sat_own_flat (us := us'.toList) (by simpa using heap_alloc_new w (.cells us' e)) hlen (by simp only [maxLen]; omega) h3 h4 fun j A u hA hu => (h5 j A u hA hu).ext hext
  have hgive : (execOp a.eval o).run P w = .ok (.value (.slice (some ⟨w.heap.size, 0, none⟩) len len)) (w.alloc (.cells us' e)) := by
    have hns : ¬ (len * n.size > 2 ^ 24) := by omega
    simp only [execOp, ho, Instr.buildSlice, Sem.run_bind, run_underlying ((hT.told hti).slice htd), Result.andThen_ok, told.size, if_neg hns]
    have hz2 := hzrun
    by_cases h0 : len * n.size = 0
    · rw [if_pos h0] at hz2 ⊢
      simp at hz2
      subst hz2
      simp [h0] at h2 ⊢
      simp [h2, newRow]
    · rw [if_neg h0] at hz2 ⊢
      simp [hzr] at hz2
      subst hz2
      rw [← hpl] at h2
      simp only [Sem.run_bind, hzr, Result.andThen_ok, Sem.run_pure]
      rw [h2]
      simp [newRow]
  simp only [Oper.wp]
  rw [hgive, Oper.upon_value, hd]
  exact hK _ _ _ (hR.step (of_blt hdN) k1 k2 k3 k4.ext (.ref _ _ rfl)) k4 ⟨_, by rw [hd]⟩

theorem L.box {t : TypeId} {x : Operand} {A : AV} {p : Prop} {cs : List AV} {d : Nat} (i : Nat) (ho : o.op = .box t x) (hg : o.guard = none) (hd : o.dst = some d) (hdN : Nat.blt d c.N = true) (hx : evalS σ x = some (A, p)) (hp : p) (hcs : cellsOf A = some cs)
    (next : ∀ b, L P ops c rest ((d, .ptr i b 0) :: σ) ((i, .blk b t cs) :: F) Q) : L P ops c (o :: rest) σ F Q := L.of (O.box i ho hg hd hdN hx hp hcs) next
theorem L.alloc {t : TypeId} {n : TI} {d : Nat} (i : Nat) (hT : TOk P T) (ho : o.op = .alloc t) (hg : o.guard = none) (hd : o.dst = some d) (hdN : Nat.blt d c.N = true) (ht : T.lookup t = some n)
    (next : ∀ b, L P ops c rest ((d, .ptr i b 0) :: σ) ((i, .blk b t (n.zero.map .v)) :: F) Q) : L P ops c (o :: rest) σ F Q := L.of (O.alloc i hT ho hg hd hdN ht) next
theorem L.buildSlice {t e : TypeId} {len : Nat} {parts : Array (Nat × Operand)} {n : TI} {d : Nat} {m : List (Nat × AV)} {p C : Prop} {cs : List AV} (i : Nat) (hT : TOk P T) (ho : o.op = .buildSlice t len parts) (hg : o.guard = none) (hd : o.dst = some d) (hdN : Nat.blt d c.N = true)
    (ht : tdOf T t = some (.slice e)) (he : T.lookup e = some n) (hsmall : len * n.size ≤ 16777216) (hsmall' : len ≤ 16777216) (hm : partsA σ parts.toList = some (m, p))
    (hf : fillA (fun k => some (k * n.size, n.size)) m ((List.range (len * n.size)).map fun j => .v (n.zero.getD (j % n.size) undef)) = some (cs, C)) (hC : p ∧ C)
    (next : ∀ x : Value, L P ops c rest ((d, .ref i x) :: σ) ((i, .own x e n.size len (rowsOf n.size cs)) :: F) Q) : L P ops c (o :: rest) σ F Q := L.of (O.buildSlice i hT ho hg hd hdN ht he hsmall hsmall' hm hf hC) next

end

end Go.Proofs.YtbogfmgfafdjiaaGreatDoor

/- append, on abstract values. -/
namespace Go.Proofs.YtbogfmgfafdjiaaGreatDoor
set_option linter.unusedVariables false
set_option linter.unusedSimpArgs false
open Go.RowKit

/-- A slice that reads as so many elements. -/
def Reads (own : Nat → Prop) (w : World) (u : Value) (sz m : Nat) (g : Nat → List AV) (news : List Value) : Prop :=
  ∃ A cap, u = .slice A m cap ∧ (A = none → m = 0 ∧ cap = 0) ∧ news.length = m * sz ∧ (∀ ad, A = some ad → ∀ (j : Nat) v, news[j]? = some v → w.cell? (ad.add j) = some v) ∧ (∀ v ∈ news, v.oneCell' = true) ∧
    (∀ i, i < m → (g i).length = sz) ∧ ∀ i, i < m → ∀ (j : Nat) B, (g i)[j]? = some B → ∃ v, news[i * sz + j]? = some v ∧ Rep own w B v

theorem lst_reads {own : Nat → Prop} {w : World} {sz m : Nat} {g : Nat → List AV} {u : Value} (h : Rep own w (.lst sz m g) u) : ∃ news, Reads own w u sz m g news := by
  cases h with
  | @lst _ n cap _ A u hn hm hnil hlen h1 hc hb hr =>
    have idx : ∀ i j, j < sz → (i * sz + j) / sz = i ∧ (i * sz + j) % sz = j := fun i j hj => by
      rw [Nat.mul_comm]
      exact ⟨by rw [Nat.mul_add_div (by omega), Nat.div_eq_of_lt hj, Nat.add_zero], by rw [Nat.mul_add_mod, Nat.mod_eq_of_lt hj]⟩
    have dm : ∀ j, j < m * sz → j / sz < m ∧ j % sz < sz ∧ j / sz * sz + j % sz = j := fun j hj => by
      have hs : 0 < sz := by
        rcases Nat.eq_zero_or_pos sz with h | h
        · rw [h] at hj; simp at hj
        · exact h
      exact ⟨by rw [Nat.div_lt_iff_lt_mul hs]; exact hj, Nat.mod_lt _ hs, by rw [Nat.mul_comm]; exact Nat.div_add_mod j sz⟩
    refine ⟨(List.range (m * sz)).map fun j => u (j / sz) (j % sz), A, cap, rfl, hnil, by simp, fun ad ha j v hv => ?_, fun v hv => ?_, hlen, fun i hi j B hB => ?_⟩
    · obtain ⟨hlt, rfl⟩ := List.getElem?_eq_some_iff.1 hv
      simp only [List.length_map, List.length_range] at hlt
      obtain ⟨d1, d2, d3⟩ := dm j hlt
      simp only [List.getElem_map, List.getElem_range]
      have := hc ad ha _ d1 _ d2
      rw [d3] at this
      exact this
    · obtain ⟨j, -, rfl⟩ := List.mem_map.1 hv; exact h1 _ _
    · have hj := (List.getElem?_eq_some_iff.1 hB).1
      rw [hlen i hi] at hj
      have hlt : i * sz + j < m * sz := by have := Nat.mul_le_mul_right sz (show i + 1 ≤ m by omega); rw [Nat.add_mul, Nat.one_mul] at this; omega
      refine ⟨u i j, ?_, hr i hi j B hB⟩
      rw [List.getElem?_map, List.getElem?_range hlt, Option.map_some, (idx i j hj).1, (idx i j hj).2]

theorem own_reads {own : Nat → Prop} {w : World} {x : Value} {E sz n : Nat} {g : Nat → List AV} (h : Row.sat own w (.own x E sz n g)) : ∃ news, Reads own w x sz n g news := by
  obtain ⟨us, ho, hlen, h1, hr⟩ := h
  rcases ho.2 with ⟨rfl, rfl⟩ | ⟨g', cap, cur, rfl, -, hh, hmc, hcm, hcs, htk⟩
  · exact ⟨us, none, 0, rfl, fun _ => ⟨rfl, rfl⟩, ho.1, (fun ad ha => by cases ha), h1, hlen, hr⟩
  · refine ⟨us, some ⟨g', 0, none⟩, cap, rfl, (fun h => by cases h), ho.1, fun ad ha j v hv => ?_, h1, hlen, hr⟩
    cases ha
    rw [addr_add_lit, Nat.zero_add, (own_cell ho j (List.getElem?_eq_some_iff.1 hv).1).1]
    exact hv

/-- What is appended. -/
def srcA (F : Rows) (sz : Nat) (A : AV) : Option (Nat × (Nat → List AV) × Prop) :=
  match A with
  | .lst s m g => if s = sz then some (m, g, True) else none
  | .ref id x => match F.lookup id with
    | some (.own x' _ s m g) => if s = sz then some (m, g, x = x') else none
    | _ => none
  | .v (.slice none 0 0) => some (0, fun _ => [], True)
  | _ => none

theorem src_sound {off : Nat → Prop} {F : Rows} {w : World} (hS : Sat off F w) {sz : Nat} {A : AV} {m : Nat} {g : Nat → List AV} {C : Prop} (h : srcA F sz A = some (m, g, C)) (hC : C) {u : Value} (hu : Rep (Own off F) w A u) : ∃ news, Reads (Own off F) w u sz m g news := by
  unfold srcA at h
  split at h
  · split at h
    · rename_i e; subst e; cases h; exact lst_reads hu
    · cases h
  · split at h
    case h_2 => cases h
    case h_1 x' E s m' g' hrow =>
      split at h
      · rename_i e; subst e; cases h
        subst hC
        cases hu
        exact own_reads (hS.at hrow)
      · cases h
  · cases h
    cases hu
    exact ⟨[], none, 0, rfl, fun _ => ⟨rfl, rfl⟩, by simp, (fun ad ha => by cases ha), by simp, fun i hi => absurd hi (by omega), fun i hi => absurd hi (by omega)⟩
  · cases h

/-- One row behind another. -/
def joinG (n : Nat) (g h : Nat → List AV) (i : Nat) : List AV := if i < n then g i else h (i - n)

section
variable {P : Program} {T : Types} {c : Ctx} {σ : Slots} {F : Rows} {Q : Exit → Act → World → Prop} {ops : Array Oper} {rest : List Oper} {o : Oper}

theorem run_append_any {w : World} (hT : TOk P T) {off : Nat → Prop} {own : Nat → Prop} {t ty e : TypeId} {i : TI} (ht : tdOf T t = some (.slice e)) (he : T.lookup e = some i) (hs0 : 0 < i.size) (hb0 : 0 < i.bytes)
    {v : Value} {n : Nat} {xs : List Value} (HO : w.ownsRow 0 e i.size v n xs) {u : Value} {m : Nat} {g : Nat → List AV} {news : List Value} (hr : Reads own w u i.size m g news) (hl : (n + m) * i.bytes ≤ 140737488355328) :
    ∃ v1 w1, (Builtin.append_ #[t, t] ty #[v, u]).run P w = .ok v1 w1 ∧ w1.ownsRow 0 e i.size v1 (n + m) (xs ++ news) ∧ w.grownBy w1 v.ownBlock ∧ (v1.ownBlock = v.ownBlock ∨ v1.ownBlock = some w.heap.size) := by
  obtain ⟨ti, hti, htd⟩ := tdOf_some ht
  have told := hT.told he
  obtain ⟨j, z, hj, hsz, hby, hz, hzz⟩ := told.info
  have hzs : z.cells.size = i.size := by rw [← Array.length_toList, hzz, told.zsize]
  obtain ⟨A, cap, rfl, hnil, hnl, hc, h1, -⟩ := hr
  have hu := (hT.told hti).slice htd
  cases A with
  | none =>
    obtain ⟨rfl, rfl⟩ := hnil rfl
    have : news = [] := List.eq_nil_of_length_eq_zero (by simpa using hnl)
    subst this
    exact ⟨v, w, run_append_owned_none (P := P) (w := w) 0 t ty e j i.size hu hj v n xs HO, by simpa using HO, ⟨rfl, rfl, rfl, Nat.le_refl _, fun _ _ _ => rfl⟩, .inl rfl⟩
  | some ad =>
    have hn2 : n + m ≤ 140737488355328 := Nat.le_trans (Nat.le_mul_of_pos_right _ hb0) hl
    obtain ⟨v1, w1, r1, r2, r3, _, r5⟩ := run_append_own_at (P := P) (w := w) 0 t ty e j z i.size i.bytes hu hj hz hsz hby hzs hs0 v n xs HO ad m cap news hnl (hc ad rfl) h1 (by simp only [maxLen]; omega) hl (Nat.zero_le _)
    exact ⟨v1, w1, r1, r2, r3, r5⟩

theorem join_rep {own own' : Nat → Prop} {w w1 : World} (he : Ext own own' w w1) {sz n m : Nat} {g g2 : Nat → List AV} {xs news : List Value} (hxl : xs.length = n * sz) (hlen : ∀ i, i < n → (g i).length = sz)
    (hr : ∀ i, i < n → ∀ (j : Nat) A, (g i)[j]? = some A → ∃ u, xs[i * sz + j]? = some u ∧ Rep own w A u) (hlen2 : ∀ i, i < m → (g2 i).length = sz) (hr2 : ∀ i, i < m → ∀ (j : Nat) A, (g2 i)[j]? = some A → ∃ u, news[i * sz + j]? = some u ∧ Rep own w A u) :
    (∀ i, i < n + m → (joinG n g g2 i).length = sz) ∧ ∀ i, i < n + m → ∀ (j : Nat) A, (joinG n g g2 i)[j]? = some A → ∃ u, (xs ++ news)[i * sz + j]? = some u ∧ Rep own' w1 A u := by
  refine ⟨fun i hi => ?_, fun i hi j A hA => ?_⟩
  · unfold joinG
    split
    · exact hlen i (by assumption)
    · exact hlen2 _ (by omega)
  · unfold joinG at hA
    split at hA
    · rename_i hlt
      obtain ⟨u, hu, hrep⟩ := hr i hlt j A hA
      exact ⟨u, by rw [List.getElem?_append_left (List.getElem?_eq_some_iff.1 hu).1]; exact hu, hrep.ext he⟩
    · rename_i hge
      obtain ⟨u, hu, hrep⟩ := hr2 (i - n) (by omega) j A hA
      refine ⟨u, ?_, hrep.ext he⟩
      have e : i * sz + j = xs.length + ((i - n) * sz + j) := by rw [hxl, ← Nat.add_assoc, ← Nat.add_mul]; congr 2; omega
      rw [e, List.getElem?_append_right (by omega), Nat.add_sub_cancel_left]
      exact hu

/-- append onto a slice of one's own. -/
theorem O.append {s x : Operand} {t e : TypeId} {i : TI} {id : Nat} {x0 x0' : Value} {sz n m d : Nat} {g g2 : Nat → List AV} {B : AV} {p q C : Prop} (hT : TOk P T) (ho : o.op = .call { callee := .builtin .append, args := #[s, x], argTypes := #[t, t] }) (hg : o.guard = none) (hd : o.dst = some d) (hdN : Nat.blt d c.N = true)
    (ht : tdOf T t = some (.slice e)) (he : T.lookup e = some i) (hs : evalS σ s = some (.ref id x0, p)) (hrow : F.lookup id = some (.own x0' e sz n g)) (hx : evalS σ x = some (B, q)) (hsrc : srcA F sz B = some (m, g2, C))
    (hC : x0 = x0' ∧ p ∧ q ∧ C) (hsz : sz = i.size ∧ 0 < i.size ∧ 0 < i.bytes) (hl : (n + m) * i.bytes ≤ 140737488355328)
    : O P ops c o σ F Q [id] Value (fun x1 => (d, .ref id x1) :: σ) (fun x1 => setF id id (.own x1 e sz (n + m) (joinG n g g2)) F) := by
  intro a w hR K hK
  refine Op1.plain hg ?_
  obtain ⟨rfl, hp, hq, hC⟩ := hC
  obtain ⟨rfl, hs0, hb0⟩ := hsz
  have hA := hR.evals hs hp
  have hA' : a.eval s = x0 := by generalize a.eval s = v at hA; cases hA; rfl
  obtain ⟨news, hnews⟩ := src_sound hR.sat hsrc hC (hR.evals hx hq)
  obtain ⟨us, hown, hlen, h1, hr⟩ := hR.sat.at hrow
  obtain ⟨v1, w1, r1, r2, r3, r4⟩ := run_append_any (off := c.off) hT (ty := o.type) ht he hs0 hb0 hown hnews hl
  obtain ⟨A2, cap2, hu2, hnil2, hnl2, hc2, h12, hlen2, hr2⟩ := hnews
  obtain ⟨k1, k2, k3, k4⟩ := hR.write (i' := id) (r' := .own v1 e i.size (n + m) (joinG n g g2)) hrow (w' := w1) r3.size r3.os r3.tape r3.output
    (fun b hlt hne => r3.block b hlt fun e => hne e.symm) (fun b hb => by
      rcases r4 with h | h
      · left; exact h.symm.trans hb
      · right; have e := h.symm.trans hb; cases e; exact Nat.le_refl _) (fun hext => by
      obtain ⟨j1, j2⟩ := join_rep hext hown.1 hlen hr hlen2 hr2
      exact ⟨us ++ news, r2, j1, fun u hu => by rcases List.mem_append.1 hu with h | h; exact h1 u h; exact h12 u h, j2⟩)
  have hgive : (execOp a.eval o).run P w = .ok (.value v1) w1 := by
    simp [execOp, ho, resolve, invoke, builtin, hA', r1]
  simp only [Oper.wp]
  rw [hgive, Oper.upon_value, hd]
  have hone : v1.oneCell' = true := by
    obtain ⟨A, cap, rfl, -⟩ := own_form0 r2; rfl
  exact hK v1 _ _ (hR.step (of_blt hdN) k1 k2 k3 k4.ext (.ref _ _ hone)) k4 ⟨_, by rw [hd]⟩

/-- append onto nil. -/
theorem O.appendNil {s x : Operand} {t e : TypeId} {i : TI} {m d : Nat} {g2 : Nat → List AV} {B : AV} {p q C : Prop} (id : Nat) (hT : TOk P T) (ho : o.op = .call { callee := .builtin .append, args := #[s, x], argTypes := #[t, t] }) (hg : o.guard = none) (hd : o.dst = some d) (hdN : Nat.blt d c.N = true)
    (ht : tdOf T t = some (.slice e)) (he : T.lookup e = some i) (hs : evalS σ s = some (.v (.slice none 0 0), p)) (hx : evalS σ x = some (B, q)) (hsrc : srcA F i.size B = some (m, g2, C))
    (hC : p ∧ q ∧ C) (hsz : 0 < i.size ∧ 0 < i.bytes) (hl : m * i.bytes ≤ 140737488355328)
    : O P ops c o σ F Q [] Value (fun x1 => (d, .ref id x1) :: σ) (fun x1 => (id, .own x1 e i.size m g2) :: F) := by
  intro a w hR K hK
  refine Op1.plain hg ?_
  obtain ⟨hp, hq, hC⟩ := hC
  obtain ⟨hs0, hb0⟩ := hsz
  have hA := hR.evals hs hp
  have hA' : a.eval s = .slice none 0 0 := by generalize a.eval s = v at hA; cases hA; rfl
  obtain ⟨news, hnews⟩ := src_sound hR.sat hsrc hC (hR.evals hx hq)
  obtain ⟨v1, w1, r1, r2, r3, r4⟩ := run_append_any (off := c.off) hT (ty := o.type) ht he hs0 hb0 (World.ownsRow_nil w 0 e i.size) hnews (by simpa using hl)
  obtain ⟨A2, cap2, hu2, hnil2, hnl2, hc2, h12, hlen2, hr2⟩ := hnews
  simp only [Nat.zero_add, List.nil_append] at r2
  have hblk : ∀ b, v1.ownBlock = some b → w.heap.size ≤ b := fun b hb => by
    rcases r4 with h | h
    · rw [h] at hb; cases hb
    · have e := h.symm.trans hb; cases e; exact Nat.le_refl _
  obtain ⟨g1, g2'⟩ := hR.sat.add hR.off (i := id) (r := .own v1 e i.size m g2) (w' := w1) r3.size (fun b hlt => r3.block b hlt fun e => by cases e) hblk fun hext =>
    ⟨news, r2, hlen2, h12, fun k hk j A hA => by obtain ⟨u, hu, hrep⟩ := hr2 k hk j A hA; exact ⟨u, hu, hrep.ext hext⟩⟩
  have hgive : (execOp a.eval o).run P w = .ok (.value v1) w1 := by
    simp [execOp, ho, resolve, invoke, builtin, hA', r1]
  simp only [Oper.wp]
  rw [hgive, Oper.upon_value, hd]
  have hone : v1.oneCell' = true := by
    obtain ⟨A, cap, rfl, -⟩ := own_form0 r2; rfl
  have hk0 := hR.kept.size
  refine hK v1 _ _ (hR.step (of_blt hdN) ⟨r3.os.trans hR.kept.os, r3.tape.trans hR.kept.tape, r3.output.trans hR.kept.output, Nat.le_trans hk0 r3.size, fun b hlt hn => (r3.block b (by omega) fun e => by cases e).trans (hR.kept.block b hlt hn)⟩ (fun s hs b hsb => ?_) g1 g2' (.ref _ _ hone)) ⟨g2', (fun s hs _ b hb => r3.block b (hR.sat.lt hs hb) (fun e => by cases e)), fun s hs _ => by simp [hs]⟩ ⟨_, by rw [hd]⟩
  rcases List.mem_cons.1 hs with rfl | h3
  · exact .inr (Nat.le_trans hk0 (hblk b hsb))
  · exact hR.fresh s h3 b hsb

theorem L.append {s x : Operand} {t e : TypeId} {i : TI} {id : Nat} {x0 x0' : Value} {sz n m d : Nat} {g g2 : Nat → List AV} {B : AV} {p q C : Prop} (hT : TOk P T) (ho : o.op = .call { callee := .builtin .append, args := #[s, x], argTypes := #[t, t] }) (hg : o.guard = none) (hd : o.dst = some d) (hdN : Nat.blt d c.N = true)
    (ht : tdOf T t = some (.slice e)) (he : T.lookup e = some i) (hs : evalS σ s = some (.ref id x0, p)) (hrow : F.lookup id = some (.own x0' e sz n g)) (hx : evalS σ x = some (B, q)) (hsrc : srcA F sz B = some (m, g2, C))
    (hC : x0 = x0' ∧ p ∧ q ∧ C) (hsz : sz = i.size ∧ 0 < i.size ∧ 0 < i.bytes) (hl : (n + m) * i.bytes ≤ 140737488355328)
    (next : ∀ x1 : Value, L P ops c rest ((d, .ref id x1) :: σ) (setF id id (.own x1 e sz (n + m) (joinG n g g2)) F) Q) : L P ops c (o :: rest) σ F Q := L.of (O.append hT ho hg hd hdN ht he hs hrow hx hsrc hC hsz hl) next
theorem L.appendNil {s x : Operand} {t e : TypeId} {i : TI} {m d : Nat} {g2 : Nat → List AV} {B : AV} {p q C : Prop} (id : Nat) (hT : TOk P T) (ho : o.op = .call { callee := .builtin .append, args := #[s, x], argTypes := #[t, t] }) (hg : o.guard = none) (hd : o.dst = some d) (hdN : Nat.blt d c.N = true)
    (ht : tdOf T t = some (.slice e)) (he : T.lookup e = some i) (hs : evalS σ s = some (.v (.slice none 0 0), p)) (hx : evalS σ x = some (B, q)) (hsrc : srcA F i.size B = some (m, g2, C))
    (hC : p ∧ q ∧ C) (hsz : 0 < i.size ∧ 0 < i.bytes) (hl : m * i.bytes ≤ 140737488355328)
    (next : ∀ x1 : Value, L P ops c rest ((d, .ref id x1) :: σ) ((id, .own x1 e i.size m g2) :: F) Q) : L P ops c (o :: rest) σ F Q := L.of (O.appendNil id hT ho hg hd hdN ht he hs hx hsrc hC hsz hl) next

/-- Without a row. -/
def delF (id : Nat) : Rows → Rows
  | [] => []
  | (k, s) :: t => if k = id then t else (k, s) :: delF id t
theorem delF_split {F : Rows} {id : Nat} {r : Row} (h : F.lookup id = some r) : ∃ L1 L2, F = L1 ++ (id, r) :: L2 ∧ delF id F = L1 ++ L2 := by
  induction F with
  | nil => cases h
  | cons p t ih =>
    obtain ⟨k, s⟩ := p
    rw [lookup_cons] at h
    split at h
    · rename_i e; cases h; subst e; exact ⟨[], t, rfl, by simp [delF]⟩
    · rename_i e
      obtain ⟨L1, L2, h1, h2⟩ := ih h
      exact ⟨(k, s) :: L1, L2, by rw [h1]; rfl, by rw [delF, if_neg (fun e' => e e'.symm), h2]; rfl⟩

/-- A row of one's own is given away: nobody turns it any more. -/
theorem freeze_rep {off : Nat → Prop} {F : Rows} {w : World} (hS : Sat off F w) {id : Nat} {x : Value} {E sz n : Nat} {g : Nat → List AV} (hrow : F.lookup id = some (.own x E sz n g)) : Rep (Own off (delF id F)) w (.lst sz n g) x := by
  obtain ⟨us, ho, hlen, h1, hr⟩ := hS.at hrow
  obtain ⟨L1, L2, e1, e2⟩ := delF_split hrow
  have hmem : (id, Row.own x E sz n g) ∈ F := lookup_mem hrow
  have hnot : ∀ b, x.ownBlock = some b → ¬ Own off (delF id F) b := by
    rintro b hb (h | ⟨s, hs, hsb⟩)
    · exact hS.off _ hmem b hb h
    · have hn := hS.nodup
      rw [e1] at hn
      rw [e2] at hs
      obtain ⟨n1, n2, n3⟩ := List.pairwise_append.1 hn
      rcases List.mem_append.1 hs with h | h
      · exact n3 s h (id, .own x E sz n g) (by simp) b hsb hb
      · exact (List.pairwise_cons.1 n2).1 s h b hb hsb
  have hless : Ext (Own off F) (Own off (delF id F)) w w := Ext.less (fun b hb => Own.tail (fun r hr => by rw [e2] at hr; rw [e1]; rcases List.mem_append.1 hr with h | h <;> simp [h]) hb) w
  rcases ho.2 with ⟨rfl, rfl⟩ | ⟨g', cap, cur, rfl, -, hh, hmc, hcm, hcs, htk⟩
  · exact .lst (fun _ _ => .bool false) (Nat.le_refl _) (by simp) (fun _ => ⟨rfl, rfl⟩) (fun i hi => absurd hi (by omega)) (fun _ _ => rfl) (fun ad ha => by cases ha) (fun ad ha => by cases ha) (fun i hi => absurd hi (by omega))
  · refine .lst (fun i j => if i < n ∧ j < sz then us.getD (i * sz + j) (.bool false) else .bool false) hmc hcm (fun h => by cases h) hlen (fun i j => ?_) (fun ad ha i hi j hj => ?_) (fun ad ha h0 hs => by cases ha; exact hnot g' rfl) (fun i hi j A hA => ?_)
    · split
      · rename_i hij
        rw [List.getD_eq_getElem?_getD]
        cases hq : us[i * sz + j]? with
        | none => rfl
        | some u => exact h1 u (List.mem_of_getElem? hq)
      · rfl
    · cases ha
      have hlt : i * sz + j < us.length := by rw [ho.1]; have := Nat.mul_le_mul_right sz (show i + 1 ≤ n by omega); rw [Nat.add_mul, Nat.one_mul] at this; omega
      rw [addr_add_lit, Nat.zero_add, (own_cell ho _ hlt).1, if_pos ⟨hi, hj⟩, List.getD_eq_getElem?_getD, List.getElem?_eq_getElem hlt]
      rfl
    · obtain ⟨u, hu, hrep⟩ := hr i hi j A hA
      have hj := (List.getElem?_eq_some_iff.1 hA).1
      rw [hlen i hi] at hj
      rw [if_pos ⟨hi, hj⟩, List.getD_eq_getElem?_getD, hu]
      exact hrep.ext hless

theorem R.del {a : Act} {w : World} (h : R c σ F a w) (id : Nat) {r : Row} (hrow : F.lookup id = some r) : R c σ (delF id F) a w := by
  obtain ⟨L1, L2, e1, e2⟩ := delF_split hrow
  have hsub : (delF id F).Sublist F := by
    rw [e2]
    conv => rhs; rw [e1]
    exact List.Sublist.append (List.Sublist.refl _) (List.sublist_cons_self _ _)
  exact ⟨h.len, h.defers, h.hoff, h.kept, fun r hr => h.fresh r (hsub.subset hr), h.sat.tail hsub, fun k A hA => (h.slots k A hA).ext (Ext.less (fun b hb => Own.tail (fun r hr => hsub.subset hr) hb) w)⟩

theorem freezeSlot {K : Act → World → Prop} (d id : Nat) {id' : Nat} {x x' : Value} {E sz n : Nat} {g : Nat → List AV} (hrow : F.lookup id = some (.own x E sz n g)) (hd : σ.lookup d = some (.ref id' x')) (hx : x' = x)
    (next : ∀ a w, R c ((d, .lst sz n g) :: σ) (delF id F) a w → K a w) : ∀ a w, R c σ F a w → K a w := by
  intro a w hR
  subst hx
  have hf := freeze_rep hR.sat hrow
  have hR' := hR.del id hrow
  have h1 := hR.slots d _ hd
  refine next a w ⟨hR'.len, hR'.defers, hR'.hoff, hR'.kept, hR'.fresh, hR'.sat, fun k A hA => ?_⟩
  rw [lookup_cons] at hA
  split at hA
  · rename_i e
    subst e
    cases hA
    generalize a.tmps.getD k undef = v at h1 ⊢
    cases h1
    exact hf
  · exact hR'.slots k A hA

theorem Sat.cell {off : Nat → Prop} {F : Rows} {w : World} (h : Sat off F w) {id b : Nat} {T : TypeId} {cs : List AV} (hrow : F.lookup id = some (.blk b T cs)) {j : Nat} {A B : AV} (hc : cs[j]? = some A) (hi : ∀ u, Rep (Own off F) w A u → Rep (Own off F) w B u) : Sat off (setF id id (.blk b T (cs.set j B)) F) w ∧ ∀ b', Own off (setF id id (.blk b T (cs.set j B)) F) b' ↔ Own off F b' := by
  obtain ⟨L1, L2, e1, e2⟩ := setF_split hrow
  have hown : ∀ b', Own off (setF id id (.blk b T (cs.set j B)) F) b' ↔ Own off F b' := by
    intro b'
    rw [e2]
    conv => rhs; rw [e1]
    unfold Own
    simp only [List.mem_append, List.mem_cons]
    constructor
    · rintro (h | ⟨s, h1 | rfl | h1, h2⟩)
      · exact .inl h
      · exact .inr ⟨s, .inl h1, h2⟩
      · exact .inr ⟨_, .inr (.inl rfl), h2⟩
      · exact .inr ⟨s, .inr (.inr h1), h2⟩
    · rintro (h | ⟨s, h1 | rfl | h1, h2⟩)
      · exact .inl h
      · exact .inr ⟨s, .inl h1, h2⟩
      · exact .inr ⟨_, .inr (.inl rfl), h2⟩
      · exact .inr ⟨s, .inr (.inr h1), h2⟩
  refine ⟨⟨fun s hs => ?_, ?_, fun s hs b' hb' => ?_⟩, hown⟩
  · have hext : Ext (Own off F) (Own off (setF id id (.blk b T (cs.set j B)) F)) w w := Ext.less (fun b' hb' => (hown b').1 hb') w
    have key : s ∈ F ∨ s = (id, .blk b T (cs.set j B)) := by
      rw [e2] at hs
      rw [e1]
      rcases List.mem_append.1 hs with h | h
      · left; simp [h]
      · rcases List.mem_cons.1 h with rfl | h
        · right; rfl
        · left; simp [h]
    rcases key with hs | rfl
    · exact (h.rows s hs).ext hext fun _ _ => rfl
    · obtain ⟨us, hh, hl, h1, hr⟩ := h.at hrow
      refine ⟨us, hh, by simpa using hl, h1, fun k A' u hA' hu => ?_⟩
      rw [List.getElem?_set] at hA'
      split at hA'
      · rename_i e
        subst e
        split at hA'
        · cases hA'
          exact (hi u (hr _ A u hc hu)).ext hext
        · cases hA'
      · exact (hr k A' u hA' hu).ext hext
  · have hn := h.nodup
    rw [e1] at hn
    rw [e2]
    obtain ⟨n1, n2, n3⟩ := List.pairwise_append.1 hn
    rw [List.pairwise_cons] at n2
    exact List.pairwise_append.2 ⟨n1, List.pairwise_cons.2 ⟨n2.1, n2.2⟩, fun s hs t ht b' e3 e4 => by
      rcases List.mem_cons.1 ht with rfl | ht
      · exact n3 s hs (id, .blk b T cs) (by simp) b' e3 e4
      · exact n3 s hs t (by simp [ht]) b' e3 e4⟩
  · rw [e2] at hs
    rcases List.mem_append.1 hs with h3 | h3
    · exact h.off s (by rw [e1]; simp [h3]) b' hb'
    · rcases List.mem_cons.1 h3 with rfl | h3
      · exact h.off (id, .blk b T cs) (by rw [e1]; simp) b' hb'
      · exact h.off s (by rw [e1]; simp [h3]) b' hb'

theorem R.cell {a : Act} {w : World} (h : R c σ F a w) {id b : Nat} {T : TypeId} {cs : List AV} (hrow : F.lookup id = some (.blk b T cs)) {j : Nat} {A B : AV} (hc : cs[j]? = some A) (hi : ∀ u, Rep (Own c.off F) w A u → Rep (Own c.off F) w B u) : R c σ (setF id id (.blk b T (cs.set j B)) F) a w := by
  obtain ⟨g1, g2⟩ := h.sat.cell hrow hc hi
  refine ⟨h.len, h.defers, h.hoff, h.kept, fun s hs b' hb' => ?_, g1, fun k A' hA' => (h.slots k A' hA').ext (Ext.less (fun b' hb' => (g2 b').1 hb') w)⟩
  obtain ⟨L1, L2, e1, e2⟩ := setF_split hrow
  rw [e2] at hs
  rcases List.mem_append.1 hs with h3 | h3
  · exact h.fresh s (by rw [e1]; simp [h3]) b' hb'
  · rcases List.mem_cons.1 h3 with rfl | h3
    · exact h.fresh (id, .blk b T cs) (by rw [e1]; simp) b' hb'
    · exact h.fresh s (by rw [e1]; simp [h3]) b' hb'

theorem freezeCell {K : Act → World → Prop} (k j id : Nat) {id' b : Nat} {T : TypeId} {cs : List AV} {x x' : Value} {E sz n : Nat} {g : Nat → List AV} (hrow : F.lookup id = some (.own x E sz n g)) (hk : (delF id F).lookup k = some (.blk b T cs)) (hd : cs[j]? = some (.ref id' x')) (hx : x' = x)
    (next : ∀ a w, R c σ (setF k k (.blk b T (cs.set j (.lst sz n g))) (delF id F)) a w → K a w) : ∀ a w, R c σ F a w → K a w := by
  intro a w hR
  subst hx
  have hf := freeze_rep hR.sat hrow
  exact next a w ((hR.del id hrow).cell hk hd fun u hu => by cases hu; exact hf)

end

end Go.Proofs.YtbogfmgfafdjiaaGreatDoor

/- Contracts of functions, calls, and the forms of code, on abstract values. -/
namespace Go.Proofs.YtbogfmgfafdjiaaGreatDoor
set_option linter.unusedVariables false
set_option linter.unusedSimpArgs false
open Go.RowKit

abbrev blocksOf (F : Rows) (b : Nat) : Prop := ∃ s ∈ F, s.2.block = some b

/-- What comes back of a call. -/
def Ret (off : Nat → Prop) (F : Rows) (w : World) (Post : AV → Rows → Prop) (e : Ending) (w' : World) : Prop :=
  ∃ v r F', Post r F' ∧ e = .returned v ∧ Rep (Own off F') w' r v ∧ Sat off F' w' ∧ Kept (blocksOf F) w w' ∧ ∀ s ∈ F', ∀ b, s.2.block = some b → blocksOf F b ∨ w.heap.size ≤ b

/-- The contract of a function. -/
def FnC (P : Program) (f : FuncId) (As : List AV) (F : Rows) (Post : AV → Rows → Prop) : Prop :=
  ∀ (off : Nat → Prop) (w : World) (vs : List Value), (∀ b, off b → b < w.heap.size) → Sat off F w → vs.length = As.length → (∀ (j : Nat) A u, As[j]? = some A → vs[j]? = some u → Rep (Own off F) w A u) →
    Calls P f vs.toArray w (Ret off F w Post)

/-- The contract of a function that only computes. -/
def PFn (P : Program) (f : FuncId) (As : List AV) (r : AV) : Prop := FnC P f As [] fun r' F' => r' = r ∧ F' = []

def initS (As : List AV) : Slots := As.zipIdx.map fun p => (p.2, p.1)

theorem initS_lookup : ∀ (As : List AV) (k i : Nat) (A : AV), ((As.zipIdx k).map fun p => (p.2, p.1)).lookup i = some A → k ≤ i ∧ As[i - k]? = some A
  | [], k, i, A, h => by simp at h
  | B :: As, k, i, A, h => by
    rw [List.zipIdx_cons, List.map_cons, lookup_cons] at h
    split at h
    · rename_i e; subst e; cases h; simp
    · have := initS_lookup As (k + 1) i A h
      refine ⟨by omega, ?_⟩
      rw [show i - k = (i - (k + 1)) + 1 by omega]
      simpa using this.2

section
variable {P : Program} {T : Types} {c : Ctx} {σ : Slots} {F : Rows} {Q : Exit → Act → World → Prop} {ops : Array Oper} {rest : List Oper} {o : Oper}

theorem FnC.intro {f : FuncId} {fn : Func} {code : Code} {As : List AV} {Post : AV → Rows → Prop} {N : Nat} (hf : P.funcs[f]? = some fn) (hb : fn.body = some code) (hN : fn.ntmps = N) (hn : Nat.ble As.length N = true)
    (h : ∀ off w0, S P ⟨off, blocksOf F, w0, N⟩ code (initS As) F (bodyPost P fn (Ret off F w0 Post))) : FnC P f As F Post := by
  intro off w vs hoff hS hl hr
  refine calls_of_wp hf hb (h off w _ w ⟨?_, rfl, hoff, Kept.refl _ _, fun r hr b hb => .inl ⟨r, hr, hb⟩, hS, fun k A hA => ?_⟩)
  · have := Nat.le_of_ble_eq_true hn; simp [hN, hl]; omega
  · obtain ⟨-, hA⟩ := initS_lookup As 0 k A hA
    simp only [Nat.sub_zero] at hA
    have hk : k < vs.length := by rw [hl]; exact (List.getElem?_eq_some_iff.1 hA).1
    have : (vs.toArray ++ Array.replicate (fn.ntmps - vs.toArray.size) undef).getD k undef = vs[k] := by
      rw [Array.getD_eq_getD_getElem?, Array.getElem?_append_left (by simpa using hk)]
      simp [hk]
    rw [this]
    exact hr k A _ hA (List.getElem?_eq_getElem hk)

theorem FnC.mono {f : FuncId} {As : List AV} {Post Post' : AV → Rows → Prop} (h : FnC P f As F Post) (hp : ∀ r F', Post r F' → Post' r F') : FnC P f As F Post' := fun off w vs h1 h2 h3 h4 =>
  (h off w vs h1 h2 h3 h4).mono fun e w' ⟨v, r, F', hP, rest⟩ => ⟨v, r, F', hp _ _ hP, rest⟩

def argsA (σ : Slots) : List Operand → Option (List AV × Prop)
  | [] => some ([], True)
  | x :: l => match evalS σ x, argsA σ l with
    | some (A, p), some (m, q) => some (A :: m, p ∧ q)
    | _, _ => none
theorem args_sound {a : Act} {w : World} (hR : R c σ F a w) : ∀ {l : List Operand} {m : List AV} {C : Prop}, argsA σ l = some (m, C) → C → (l.map a.eval).length = m.length ∧ ∀ (j : Nat) A u, m[j]? = some A → (l.map a.eval)[j]? = some u → Rep (Own c.off F) w A u
  | [], m, C, h, _ => by cases h; exact ⟨rfl, fun j A u h => by simp at h⟩
  | x :: l, m, C, h, hC => by
    unfold argsA at h
    split at h
    · rename_i A p m' q hA hm
      cases h
      obtain ⟨h1, h2⟩ := args_sound hR hm hC.2
      refine ⟨by simpa using h1, fun j B u hB hu => ?_⟩
      cases j with
      | zero => simp at hB hu; subst hB; subst hu; exact hR.evals hA hC.1
      | succ j => simp at hB hu; exact h2 j B u hB (by simpa using hu)
    · cases h

/-- One list of knowledge is less than another. -/
def Imps : List AV → List AV → Prop
  | [], [] => True
  | A :: l, B :: m => Imp A B ∧ Imps l m
  | _, _ => False
theorem Imps.get : ∀ {l m : List AV}, Imps l m → l.length = m.length ∧ ∀ (j : Nat) B, m[j]? = some B → ∃ A, l[j]? = some A ∧ Imp A B
  | [], [], _ => ⟨rfl, fun j B h => by simp at h⟩
  | A :: l, B :: m, h => by
    obtain ⟨h1, h2⟩ := Imps.get h.2
    refine ⟨by simp [h1], fun j C hC => ?_⟩
    cases j with
    | zero => simp at hC; subst hC; exact ⟨A, rfl, h.1⟩
    | succ j => simp at hC; obtain ⟨D, hD, hi⟩ := h2 j C hC; exact ⟨D, by simpa using hD, hi⟩
  | [], _ :: _, h => h.elim
  | _ :: _, [], h => h.elim

/-- A function of the program with a body. -/
def callable (P : Program) (f : FuncId) : Bool := match P.funcs[f]? with
  | some fn => fn.name != "runtime.NumGoroutine" && fn.body.isSome
  | none => false

theorem run_call {f : FuncId} (hf : callable P f = true) (args : Array Value) (w : World) : (callFunc f args).run P w = .ok (.enter f args) w := by
  unfold callable at hf
  cases h : P.funcs[f]? with
  | none => simp [h] at hf
  | some fn =>
    simp only [h, Bool.and_eq_true, bne_iff_ne, ne_eq] at hf
    obtain ⟨bd, hb⟩ := Option.isSome_iff_exists.1 hf.2
    simp [callFunc, h, hf.1, hb]

theorem Sat.split {off : Nat → Prop} {G H : Rows} {w : World} (h : Sat off (G ++ H) w) : Sat (Own off H) G w ∧ ∀ b, Own (Own off H) G b ↔ Own off (G ++ H) b := by
  obtain ⟨n1, n2, n3⟩ := List.pairwise_append.1 h.nodup
  have hown : ∀ b, Own (Own off H) G b ↔ Own off (G ++ H) b := by
    intro b
    unfold Own
    simp only [List.mem_append]
    constructor
    · rintro ((h | ⟨s, h1, h2⟩) | ⟨s, h1, h2⟩)
      · exact .inl h
      · exact .inr ⟨s, .inr h1, h2⟩
      · exact .inr ⟨s, .inl h1, h2⟩
    · rintro (h | ⟨s, h1 | h1, h2⟩)
      · exact .inl (.inl h)
      · exact .inr ⟨s, h1, h2⟩
      · exact .inl (.inr ⟨s, h1, h2⟩)
  refine ⟨⟨fun r hr => ?_, n1, fun r hr b hb => ?_⟩, hown⟩
  · exact (h.rows r (by simp [hr])).ext (Ext.less (fun b hb => (hown b).1 hb) w) fun _ _ => rfl
  · rintro (h1 | ⟨s, h1, h2⟩)
    · exact h.off r (by simp [hr]) b hb h1
    · exact n3 r hr s h1 b hb h2

theorem Own.joined {off : Nat → Prop} {H G : Rows} (b : Nat) : Own (Own off H) G b ↔ Own off (G ++ H) b := by
  unfold Own
  simp only [List.mem_append]
  constructor
  · rintro ((h | ⟨s, h1, h2⟩) | ⟨s, h1, h2⟩)
    · exact .inl h
    · exact .inr ⟨s, .inr h1, h2⟩
    · exact .inr ⟨s, .inl h1, h2⟩
  · rintro (h | ⟨s, h1 | h1, h2⟩)
    · exact .inl (.inl h)
    · exact .inr ⟨s, h1, h2⟩
    · exact .inl (.inr ⟨s, h1, h2⟩)

theorem Sat.join {off : Nat → Prop} {G H G' : Rows} {w w' : World} (h : Sat off (G ++ H) w) (hoff : ∀ b, off b → b < w.heap.size) (hG : Sat (Own off H) G' w') (hk : Kept (blocksOf G) w w') (hf : ∀ s ∈ G', ∀ b, s.2.block = some b → blocksOf G b ∨ w.heap.size ≤ b) :
    Sat off (G' ++ H) w' ∧ Ext (Own off (G ++ H)) (Own off (G' ++ H)) w w' := by
  obtain ⟨n1, n2, n3⟩ := List.pairwise_append.1 h.nodup
  have hext : Ext (Own off (G ++ H)) (Own off (G' ++ H)) w w' := by
    refine ⟨hk.size, fun b hlt hn => hk.block b hlt fun ⟨s, h1, h2⟩ => hn (.inr ⟨s, by simp [h1], h2⟩), fun b hlt hn => ?_⟩
    rintro (h1 | ⟨s, h1, h2⟩)
    · exact hn (.inl h1)
    · rcases List.mem_append.1 h1 with h3 | h3
      · rcases hf s h3 b h2 with ⟨t, h4, h5⟩ | h4
        · exact hn (.inr ⟨t, by simp [h4], h5⟩)
        · omega
      · exact hn (.inr ⟨s, by simp [h3], h2⟩)
  refine ⟨⟨fun r hr => ?_, List.pairwise_append.2 ⟨hG.nodup, n2, fun r hr s hs b e1 e2 => hG.off r hr b e1 (.inr ⟨s, hs, e2⟩)⟩, fun r hr b hb ho => ?_⟩, hext⟩
  · rcases List.mem_append.1 hr with hr | hr
    · exact (hG.rows r hr).ext (Ext.less (fun b hb => (Own.joined b).2 hb) w') fun _ _ => rfl
    · have hmem : r ∈ G ++ H := by simp [hr]
      refine (h.rows r hmem).ext hext fun b hb => hk.block b (h.lt hmem hb) ?_
      rintro ⟨s, h1, h2⟩
      exact n3 s h1 r hr b h2 hb
  · rcases List.mem_append.1 hr with hr | hr
    · exact hG.off r hr b hb (.inl ho)
    · exact h.off r (by simp [hr]) b hb ho

theorem Sat.perm {off : Nat → Prop} {F G : Rows} {w : World} (h : Sat off F w) (hp : F.Perm G) : Sat off G w ∧ ∀ b, Own off G b ↔ Own off F b := by
  have hown : ∀ b, Own off G b ↔ Own off F b := fun b => by unfold Own; simp only [hp.mem_iff]
  refine ⟨⟨fun r hr => (h.rows r (hp.mem_iff.2 hr)).ext (Ext.less (fun b hb => (hown b).1 hb) w) fun _ _ => rfl, ?_, fun r hr => h.off r (hp.mem_iff.2 hr)⟩, hown⟩
  exact hp.pairwise h.nodup fun {a b} hab x hx hy => hab x hy hx

/-- A call: rows G go along, rows H stay. -/
theorem call_core {a : Act} {w : World} (hR : R c σ F a w) {f : FuncId} {G H : Rows} (hp : F.Perm (G ++ H)) {Bs : List AV} {Post : AV → Rows → Prop} (h : FnC P f Bs G Post) {vs : List Value} (hl : vs.length = Bs.length) (hr : ∀ (j : Nat) A u, Bs[j]? = some A → vs[j]? = some u → Rep (Own c.off F) w A u)
    {d : Nat} (hdN : Nat.blt d c.N = true) {K : Act → World → Prop} {Q' : Exit → Act → World → Prop} (next : ∀ r G', Post r G' → ∀ a1 w', R c ((d, r) :: σ) (G' ++ H) a1 w' → Stp c F (G' ++ H) w w' (G.map (·.1)) → (∃ v, a1 = a.put (some d) v) → K a1 w') :
    Calls P f vs.toArray w fun
      | .returned v, w'' => K (a.put (some d) v) w''
      | .panicked chain, w'' => Q' (.panic chain) a w''
      | .outgrown, _ => LetsOut Q' := by
  obtain ⟨hs, ho⟩ := hR.sat.perm hp
  obtain ⟨hs1, ho1⟩ := hs.split
  have hoff : ∀ b, Own c.off H b → b < w.heap.size := by
    rintro b (h1 | ⟨s, h1, h2⟩)
    · exact hR.off b h1
    · exact hs.lt (by simp [h1]) h2
  refine (h (Own c.off H) w vs hoff hs1 hl fun j A u hA hu => (hr j A u hA hu).ext (Ext.less (fun b hb => (ho b).1 ((ho1 b).1 hb)) w)).mono ?_
  rintro e w' ⟨v, r, G', hP, rfl, hrep, hS', hk, hf⟩
  obtain ⟨j1, j2⟩ := hs.join hR.off hS' hk hf
  have hfo : ∀ b, blocksOf G b → b < c.w0.heap.size → c.fo b := by
    rintro b ⟨s, h1, h2⟩ hlt
    rcases hR.fresh s (hp.mem_iff.2 (by simp [h1])) b h2 with h3 | h3
    · exact h3
    · omega
  have hext : Ext (Own c.off F) (Own c.off (G' ++ H)) w w' := (Ext.less (fun b hb => (ho b).1 hb) w).trans j2
  have hother : ∀ s ∈ F, s.1 ∉ G.map (·.1) → s ∈ H := fun s hs' hn => by
    rcases List.mem_append.1 (hp.mem_iff.1 hs') with h1 | h1
    · exact absurd (List.mem_map.2 ⟨s, h1, rfl⟩) hn
    · exact h1
  obtain ⟨m1, m2, m3⟩ := List.pairwise_append.1 hs.nodup
  refine next r G' hP _ _ (hR.step (of_blt hdN) (hR.kept.trans hk fun k hk hb => hfo k hb hk) (fun s hs' b hb => ?_) j1 hext (hrep.ext (Ext.less (fun b hb => (Own.joined b).2 hb) w'))) ⟨hext, fun s hs' hn b hb => hk.block b (hR.sat.lt hs' hb) fun ⟨t, h1, h2⟩ => m3 t h1 s (hother s hs' hn) b h2 hb, fun s hs' hn => by simp [hother s hs' hn]⟩ ⟨v, rfl⟩
  have hk0 := hR.kept.size
  rcases List.mem_append.1 hs' with h3 | h3
  · rcases hf s h3 b hb with ⟨t, h4, h5⟩ | h4
    · exact hR.fresh t (hp.mem_iff.2 (by simp [h4])) b h5
    · exact .inr (by omega)
  · exact hR.fresh s (hp.mem_iff.2 (by simp [h3])) b hb

/-- What a call operation does. -/
theorem exec_call {a : Act} {w : World} (hR : R c σ F a w) {cl : Call} {x : Operand} {f : FuncId} {caps As : List AV} {p q : Prop} (ho : o.op = .call cl) (hcl : cl.callee = .value x) (hx : evalS σ x = some (.fn (.func f) caps, p)) (ha : argsA σ cl.args.toList = some (As, q)) (hpq : p ∧ q) (hf : callable P f = true) :
    ∃ vs : List Value, (execOp a.eval o).run P w = .ok (.enter f vs.toArray) w ∧ vs.length = (As ++ caps).length ∧ ∀ (j : Nat) A u, (As ++ caps)[j]? = some A → vs[j]? = some u → Rep (Own c.off F) w A u := by
  obtain ⟨g1, g2⟩ := args_sound hR ha hpq.2
  have hX := hR.evals hx hpq.1
  generalize hv : a.eval x = v at hX
  cases hX with
  | fn hl hr =>
    rename_i us
    refine ⟨cl.args.toList.map a.eval ++ us, ?_, by rw [List.length_append, g1, hl, List.length_append], fun j A u hA hu => ?_⟩
    · have harr : cl.args.map a.eval = (cl.args.toList.map a.eval).toArray := by apply Array.ext'; simp
      simp only [execOp, ho, resolve, hcl, hv, Deferred.ofValue, Sem.run_bind, Sem.run_pure, Result.andThen_ok, invoke, harr]
      rw [show (#[] ++ (List.map a.eval cl.args.toList).toArray ++ us.toArray) = (List.map a.eval cl.args.toList ++ us).toArray by simp]
      exact run_call hf _ _
    · rcases Nat.lt_or_ge j As.length with h | h
      · rw [List.getElem?_append_left h] at hA
        rw [List.getElem?_append_left (by rw [g1]; exact h)] at hu
        exact g2 j A u hA hu
      · rw [List.getElem?_append_right h] at hA
        rw [List.getElem?_append_right (by rw [g1]; exact h), g1] at hu
        exact hr _ A u hA hu

/-- What a contract leaves open. -/
abbrev PostOf (Post : AV → Rows → Prop) : Type := { p : AV × Rows // Post p.1 p.2 }

/-- A call, at its place. -/
theorem O.call {cl : Call} {x : Operand} {f d : Nat} {caps As Bs : List AV} {p q : Prop} {G H : Rows} {Post : AV → Rows → Prop} (ho : o.op = .call cl) (hcl : cl.callee = .value x) (hg : o.guard = none) (hd : o.dst = some d) (hdN : Nat.blt d c.N = true) (hx : evalS σ x = some (.fn (.func f) caps, p)) (ha : argsA σ cl.args.toList = some (As, q))
    (hpq : p ∧ q) (hf : callable P f = true) (himp : Imps (As ++ caps) Bs) (hp : F.Perm (G ++ H)) (h : FnC P f Bs G Post) : O P ops c o σ F Q (G.map (·.1)) (PostOf Post) (fun i => (d, i.1.1) :: σ) (fun i => i.1.2 ++ H) := by
  intro a w hR K hK
  refine Op1.plain hg ?_
  obtain ⟨vs, h1, h2, h3⟩ := exec_call hR ho hcl hx ha hpq hf
  obtain ⟨i1, i2⟩ := himp.get
  simp only [Oper.wp]
  rw [h1, Oper.upon_enter, hd]
  exact call_core hR hp h (h2.trans i1) (fun j A u hA hu => by obtain ⟨B, hB, hi⟩ := i2 j A hA; exact hi _ _ _ (h3 j B u hB hu)) hdN fun r G' hP a' w' hR' hS hv => hK ⟨(r, G'), hP⟩ a' w' hR' hS (by rw [hd]; exact hv)

theorem L.call {cl : Call} {x : Operand} {f d : Nat} {caps As Bs : List AV} {p q : Prop} {G H : Rows} {Post : AV → Rows → Prop} (ho : o.op = .call cl) (hcl : cl.callee = .value x) (hg : o.guard = none) (hd : o.dst = some d) (hdN : Nat.blt d c.N = true) (hx : evalS σ x = some (.fn (.func f) caps, p)) (ha : argsA σ cl.args.toList = some (As, q))
    (hpq : p ∧ q) (hf : callable P f = true) (himp : Imps (As ++ caps) Bs) (hp : F.Perm (G ++ H)) (h : FnC P f Bs G Post) (next : ∀ r G', Post r G' → L P ops c rest ((d, r) :: σ) (G' ++ H) Q) : L P ops c (o :: rest) σ F Q :=
  L.of (O.call ho hcl hg hd hdN hx ha hpq hf himp hp h) fun i => next i.1.1 i.1.2 i.2

theorem O.callP {cl : Call} {x : Operand} {f d : Nat} {caps As Bs : List AV} {p q : Prop} {r : AV} (ho : o.op = .call cl) (hcl : cl.callee = .value x) (hg : o.guard = none) (hd : o.dst = some d) (hdN : Nat.blt d c.N = true) (hx : evalS σ x = some (.fn (.func f) caps, p)) (ha : argsA σ cl.args.toList = some (As, q))
    (hpq : p ∧ q) (hf : callable P f = true) (himp : Imps (As ++ caps) Bs) (h : PFn P f Bs r) : O P ops c o σ F Q [] Unit (fun _ => (d, r) :: σ) (fun _ => F) := fun a w hR K hK =>
  O.call (Q := Q) (G := []) (H := F) ho hcl hg hd hdN hx ha hpq hf himp (by simp) h a w hR K fun i a' w' hR' hS hv => by
    obtain ⟨⟨r', G'⟩, e1, e2⟩ := i
    simp only at e1 e2
    subst e1; subst e2
    exact hK () a' w' hR' hS hv

/-- A call of what only computes. -/
theorem L.callP {cl : Call} {x : Operand} {f d : Nat} {caps As Bs : List AV} {p q : Prop} {r : AV} (ho : o.op = .call cl) (hcl : cl.callee = .value x) (hg : o.guard = none) (hd : o.dst = some d) (hdN : Nat.blt d c.N = true) (hx : evalS σ x = some (.fn (.func f) caps, p)) (ha : argsA σ cl.args.toList = some (As, q))
    (hpq : p ∧ q) (hf : callable P f = true) (himp : Imps (As ++ caps) Bs) (h : PFn P f Bs r) (next : L P ops c rest ((d, r) :: σ) F Q) : L P ops c (o :: rest) σ F Q :=
  L.of (O.callP ho hcl hg hd hdN hx ha hpq hf himp h) fun _ => next

/-- A guarded call of what only computes. -/
theorem O.callG {cl : Call} {x : Operand} {f d : Nat} {b t : Bool} {caps As Bs : List AV} {p q : Prop} {r : AV} (ho : o.op = .call cl) (hcl : cl.callee = .value x) (hg : guardA ops σ o = some (some (b, t))) (hd : o.dst = some d) (hdN : Nat.blt d c.N = true) (hx : evalS σ x = some (.fn (.func f) caps, p)) (ha : argsA σ cl.args.toList = some (As, q))
    (hpq : b = t → p ∧ q) (hf : callable P f = true) (himp : Imps (As ++ caps) Bs) (h : b = t → PFn P f Bs r) : O P ops c o σ F Q [] Unit (fun _ => (d, .when b t r) :: σ) (fun _ => F) := by
  intro a w hR K hK
  unfold Op1
  have key := guard_iff hR hg
  by_cases hb : b = t
  · rw [if_pos (key.2 hb)]
    obtain ⟨vs, h1, h2, h3⟩ := exec_call hR ho hcl hx ha (hpq hb) hf
    obtain ⟨i1, i2⟩ := himp.get
    simp only [Oper.wp]
    rw [h1, Oper.upon_enter, hd]
    refine call_core (G := []) (H := F) hR (by simp) (h hb) (h2.trans i1) (fun j A u hA hu => by obtain ⟨B, hB, hi⟩ := i2 j A hA; exact hi _ _ _ (h3 j B u hB hu)) hdN fun r' G' ⟨e1, e2⟩ a' w' hR' hS hv => ?_
    subst e1; subst e2
    exact hK () a' w' (hR'.weakenSlot d fun own w x hx => .when (fun _ => hx) fun e => absurd hb e) hS (by rw [hd]; exact hv)
  · rw [if_neg (fun hw => hb (key.1 hw)), hd]
    exact hK () _ _ (hR.pure (of_blt hdN) (.when (fun e => absurd e hb) fun _ => rfl)) ⟨Ext.refl _ _, fun _ _ _ _ _ => rfl, fun s hs _ => hs⟩ ⟨undef, by rw [hd]⟩

theorem L.callG {cl : Call} {x : Operand} {f d : Nat} {b t : Bool} {caps As Bs : List AV} {p q : Prop} {r : AV} (ho : o.op = .call cl) (hcl : cl.callee = .value x) (hg : guardA ops σ o = some (some (b, t))) (hd : o.dst = some d) (hdN : Nat.blt d c.N = true) (hx : evalS σ x = some (.fn (.func f) caps, p)) (ha : argsA σ cl.args.toList = some (As, q))
    (hpq : b = t → p ∧ q) (hf : callable P f = true) (himp : Imps (As ++ caps) Bs) (h : b = t → PFn P f Bs r) (next : L P ops c rest ((d, .when b t r) :: σ) F Q) : L P ops c (o :: rest) σ F Q := L.of (O.callG ho hcl hg hd hdN hx ha hpq hf himp h) fun _ => next

/-- Code. -/
theorem S.seq {x y : Code} (h : S P c x σ F (Exit.then (y.wp P Q) Q)) : S P c (.seq x y) σ F Q := fun a w hR => wp_seq (h a w hR)
theorem S.region {id : Nat} (h : L P ops c ops.toList σ F Q) : S P c (.region id ops false) σ F Q := fun a w hR => wp_region_list (h a w hR)
theorem S.cond {x : Operand} {y z : Code} {b : Bool} (hx : evalA σ x = some (.v (.bool b))) (ht : b = true → S P c y σ F Q) (hf : b = false → S P c z σ F Q) : S P c (.cond x y z) σ F Q := fun a w hR => by
  have h := hR.eval hx
  have h' : a.eval x = .bool b := by generalize a.eval x = v at h; cases h; rfl
  exact wp_cond_split h' (fun e => ht e a w hR) fun e => hf e a w hR
theorem S.skip (h : E c .normal σ F Q) : S P c .skip σ F Q := fun a w hR => wp_skip (h a w hR)
theorem S.label {l : Nat} (h : E c .normal σ F Q) : S P c (.label l) σ F Q := fun a w hR => wp_label (h a w hR)
theorem S.exit {id : Nat} (h : E c (.exit id) σ F Q) : S P c (.exit id) σ F Q := fun a w hR => wp_exit (h a w hR)
theorem S.goto {l : Nat} (h : E c (.goto l) σ F Q) : S P c (.goto l) σ F Q := fun a w hR => wp_goto (h a w hR)
theorem S.ret (h : E c .ret σ F Q) : S P c .ret σ F Q := fun a w hR => wp_ret (h a w hR)
theorem S.block {id : Nat} {x : Code} (h : S P c x σ F (Exit.inBlock id Q)) : S P c (.block id x) σ F Q := fun a w hR => wp_block (h a w hR)

theorem first_of {p : Nat → Prop} : ∀ (n : Nat), p n → ∃ k, p k ∧ ∀ m, p m → k ≤ m := by
  intro n
  induction n using Nat.strongRecOn with
  | _ n ih =>
    intro hn
    by_cases h : ∃ m, m < n ∧ p m
    · obtain ⟨m, h1, h2⟩ := h
      exact ih m h1 h2
    · exact ⟨n, hn, fun m hm => by rcases Nat.lt_or_ge m n with h1 | h1; exact absurd ⟨m, h1, hm⟩ h; exact h1⟩

/-- A measure of what holds. -/
noncomputable def least {ι : Type} (I : ι → Act → World → Prop) (μ : ι → Nat) (a : Act) (w : World) : Nat :=
  open Classical in if h : ∃ k, (∃ i, μ i = k ∧ I i a w) ∧ ∀ m, (∃ i, μ i = m ∧ I i a w) → k ≤ m then Classical.choose h else 0
theorem least_ex {ι : Type} {I : ι → Act → World → Prop} {μ : ι → Nat} {a : Act} {w : World} {i : ι} (h : I i a w) : ∃ k, (∃ i, μ i = k ∧ I i a w) ∧ ∀ m, (∃ i, μ i = m ∧ I i a w) → k ≤ m :=
  first_of (p := fun k => ∃ i, μ i = k ∧ I i a w) (μ i) ⟨i, rfl, h⟩
theorem least_at {ι : Type} {I : ι → Act → World → Prop} {μ : ι → Nat} {a : Act} {w : World} {i : ι} (h : I i a w) : ∃ j, I j a w ∧ μ j = least I μ a w := by
  have he := least_ex (μ := μ) h
  unfold least
  rw [dif_pos he]
  obtain ⟨⟨j, h1, h2⟩, -⟩ := Classical.choose_spec he
  exact ⟨j, h2, h1⟩
theorem least_le {ι : Type} {I : ι → Act → World → Prop} {μ : ι → Nat} {a : Act} {w : World} {i : ι} (h : I i a w) : least I μ a w ≤ μ i := by
  have he := least_ex (μ := μ) h
  unfold least
  rw [dif_pos he]
  exact (Classical.choose_spec he).2 _ ⟨i, rfl, h⟩

/-- A loop: what holds at its head is told by a state. -/
theorem S.loop {ι : Type} {x : Code} (sl : ι → Slots) (ro : ι → Rows) (μ : ι → Nat) (start : ∀ a w, R c σ F a w → ∃ i, R c (sl i) (ro i) a w)
    (round : ∀ i, S P c x (sl i) (ro i) (Exit.then (fun a w => ∃ j, μ j < μ i ∧ R c (sl j) (ro j) a w) Q)) : S P c (.loop x) σ F Q := by
  intro a w hR
  refine wp_loop (fun a w => ∃ i, R c (sl i) (ro i) a w) (least (fun i a w => R c (sl i) (ro i) a w) μ) (start a w hR) fun a w ⟨i, hi⟩ => ?_
  obtain ⟨j, hj, he⟩ := least_at (I := fun i a w => R c (sl i) (ro i) a w) (μ := μ) hi
  refine wp_mono (round j a w hj) fun e a' w' h => ?_
  cases e with
  | normal =>
    obtain ⟨k, h1, h2⟩ := h
    exact ⟨⟨k, h2⟩, by have := least_le (I := fun i a w => R c (sl i) (ro i) a w) (μ := μ) h2; omega⟩
  | _ => exact h

/-- A scope whose label is jumped back to. -/
theorem S.scope {ι : Type} {x r : Code} (l : Nat) (sl : ι → Slots) (ro : ι → Rows) (μ : ι → Nat) (hf : findLabel x l = some r) (first : S P c x σ F (Exit.jump l (fun a w => ∃ i, R c (sl i) (ro i) a w) Q))
    (pass : ∀ i, S P c r (sl i) (ro i) (Exit.jump l (fun a w => ∃ j, μ j < μ i ∧ R c (sl j) (ro j) a w) Q)) : S P c (.scope x) σ F Q := by
  intro a w hR
  refine wp_scope_jumps l (fun a w => ∃ i, R c (sl i) (ro i) a w) (least (fun i a w => R c (sl i) (ro i) a w) μ) hf (first a w hR) fun a w ⟨i, hi⟩ => ?_
  obtain ⟨j, hj, he⟩ := least_at (I := fun i a w => R c (sl i) (ro i) a w) (μ := μ) hi
  refine wp_mono (pass j a w hj) fun e a' w' h => ?_
  cases e with
  | goto l' =>
    obtain ⟨h0, k, h1, h2⟩ := h
    exact ⟨h0, ⟨k, h2⟩, by have := least_le (I := fun i a w => R c (sl i) (ro i) a w) (μ := μ) h2; omega⟩
  | _ => exact h

end

end Go.Proofs.YtbogfmgfafdjiaaGreatDoor

/- What a function hands back, on abstract values. -/
namespace Go.Proofs.YtbogfmgfafdjiaaGreatDoor
set_option linter.unusedVariables false
set_option linter.unusedSimpArgs false
open Go.RowKit

def resA (T : Types) (σ : Slots) (F : Rows) : List ResultVar → Option (List AV × Prop)
  | [] => some ([], True)
  | .tmp t :: l => match evalS σ (.tmp t), resA T σ F l with
    | some (A, p), some (m, q) => some (A :: m, p ∧ q)
    | _, _ => none
  | .cell t ty :: l => match evalS σ (.tmp t), resA T σ F l with
    | some (A, p), some (m, q) => match loadA T F ty A with
      | some (B, r) => some (B :: m, p ∧ r ∧ q)
      | none => none
    | _, _ => none

def oneOf : List AV → AV
  | [A] => A
  | l => .tup l

section
variable {P : Program} {T : Types} {c : Ctx} {σ : Slots} {F : Rows} {a : Act} {w : World}

def resRun (tmps : Array Value) : ResultVar → Sem Value
  | .tmp t => pure (tmps.getD t undef)
  | .cell a t => do loadVar t (← asAddr (tmps.getD a undef))

theorem load_ptr {x : Value} {t : TypeId} {u : Value} (h : (Instr.loadAt t x).run P w = .ok u w) : (do loadVar t (← asAddr x) : Sem Value).run P w = .ok u w := by
  unfold Instr.loadAt Instr.sureAddr at h
  cases x <;> first | (simp at h; done) | skip
  rename_i p
  cases p with
  | none => simp at h
  | some ad => simpa [asAddr] using h

theorem res_sound (hT : TOk P T) (hR : R c σ F a w) : ∀ {l : List ResultVar} {m : List AV} {C : Prop}, resA T σ F l = some (m, C) → C →
    ∃ us : List Value, (l.mapM (resRun a.tmps)).run P w = .ok us w ∧ us.length = m.length ∧ ∀ (j : Nat) A u, m[j]? = some A → us[j]? = some u → Rep (Own c.off F) w A u
  | [], m, C, h, _ => by cases h; exact ⟨[], by simp, rfl, fun j A u h => by simp at h⟩
  | .tmp t :: l, m, C, h, hC => by
    unfold resA at h
    split at h
    · rename_i A p m' q hA hm
      cases h
      obtain ⟨us, h1, h2, h3⟩ := res_sound hT hR hm hC.2
      have hv := hR.evals hA hC.1
      refine ⟨a.tmps.getD t undef :: us, by simp [List.mapM_cons, resRun, h1], by simp [h2], fun j B u hB hu => ?_⟩
      cases j with
      | zero => simp at hB hu; subst hB; subst hu; simpa [Act.eval] using hv
      | succ j => exact h3 j B u (by simpa using hB) (by simpa using hu)
    · cases h
  | .cell t ty :: l, m, C, h, hC => by
    unfold resA at h
    split at h
    · rename_i A p m' q hA hm
      split at h
      · rename_i B r hB
        cases h
        obtain ⟨us, h1, h2, h3⟩ := res_sound hT hR hm hC.2.2
        obtain ⟨u, hu, hrep⟩ := load_sound hT hR.sat hB hC.2.1 (hR.evals hA hC.1)
        have hrun := load_ptr (hu w fun _ _ => rfl)
        refine ⟨u :: us, ?_, by simp [h2], fun j B' u' hB' hu' => ?_⟩
        · rw [List.mapM_cons]
          have e : resRun a.tmps (.cell t ty) = (do loadVar ty (← asAddr (a.eval (.tmp t)))) := rfl
          rw [e]
          simp only [Sem.run_bind] at hrun ⊢
          rw [hrun]
          simp [h1]
        · cases j with
          | zero => simp at hB' hu'; subst hB'; subst hu'; exact hrep
          | succ j => exact h3 j B' u' (by simpa using hB') (by simpa using hu')
      · cases h
    · cases h

theorem results_run (hT : TOk P T) (hR : R c σ F a w) {fn : Func} {rs : List ResultVar} (hrs : fn.results = rs.toArray) {m : List AV} {C : Prop} (h : resA T σ F rs = some (m, C)) (hC : C) :
    ∃ v, (results fn a.tmps).run P w = .ok v w ∧ Rep (Own c.off F) w (oneOf m) v := by
  obtain ⟨us, h1, h2, h3⟩ := res_sound hT hR h hC
  have hrun : (results fn a.tmps).run P w = .ok (if h : us.toArray.size = 1 then us.toArray[0] else .tuple us.toArray) w := by
    have e : results fn a.tmps = (do let vs ← fn.results.mapM (resRun a.tmps); pure (if h : vs.size = 1 then vs[0] else .tuple vs)) := by
      unfold results
      congr 1
    rw [e, hrs, Array.mapM_eq_mapM_toList]
    simp [h1]
  refine ⟨_, hrun, ?_⟩
  match us, m, h2, h3 with
  | [u], [A], _, h3 => exact h3 0 A u rfl rfl
  | [], [], _, h3 => exact .tup rfl (fun j A u h => by simp at h)
  | u :: v :: us, A :: B :: m, h2, h3 => exact .tup h2 h3

/-- A return. -/
theorem E.ret {off : Nat → Prop} {F0 F' : Rows} {w0 : World} {N : Nat} {Post : AV → Rows → Prop} {fn : Func} {rs : List ResultVar} {m : List AV} {C : Prop} {r : AV} (hT : TOk P T) (hrs : fn.results = rs.toArray) (h : resA T σ F rs = some (m, C)) (hC : C) (hr : Imp (oneOf m) r) (hF : F'.Sublist F) (hP : Post r F') :
    E ⟨off, blocksOf F0, w0, N⟩ .ret σ F (bodyPost P fn (Ret off F0 w0 Post)) := by
  intro a w hR
  obtain ⟨v, h1, h2⟩ := results_run hT hR hrs h hC
  refine ⟨hR.defers, v, h1, v, r, F', hP, rfl, (hr _ _ _ h2).ext (Ext.less (fun b hb => Own.tail (fun s hs => hF.subset hs) hb) w), hR.sat.tail hF, hR.kept, fun s hs b hb => hR.fresh s (hF.subset hs) b hb⟩

theorem E.fall {off : Nat → Prop} {F0 F' : Rows} {w0 : World} {N : Nat} {Post : AV → Rows → Prop} {fn : Func} {rs : List ResultVar} {m : List AV} {C : Prop} {r : AV} (hT : TOk P T) (hrs : fn.results = rs.toArray) (h : resA T σ F rs = some (m, C)) (hC : C) (hr : Imp (oneOf m) r) (hF : F'.Sublist F) (hP : Post r F') :
    E ⟨off, blocksOf F0, w0, N⟩ .normal σ F (bodyPost P fn (Ret off F0 w0 Post)) := fun a w hR => E.ret hT hrs h hC hr hF hP a w hR

/-- A return of what only computes. -/
theorem E.retP {off : Nat → Prop} {w0 : World} {N : Nat} {fn : Func} {rs : List ResultVar} {m : List AV} {C : Prop} {r : AV} (hT : TOk P T) (hrs : fn.results = rs.toArray) (h : resA T σ F rs = some (m, C)) (hC : C) (hr : Imp (oneOf m) r) :
    E ⟨off, blocksOf [], w0, N⟩ .ret σ F (bodyPost P fn (Ret off [] w0 fun r' F' => r' = r ∧ F' = [])) :=
  E.ret hT hrs h hC hr (List.nil_sublist _) ⟨rfl, rfl⟩

end

end Go.Proofs.YtbogfmgfafdjiaaGreatDoor
