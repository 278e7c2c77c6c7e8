/- Small facts about memory blocks, used by the walks. -/
import Derived.WalkKit
import Derived.WalkSpells
import Derived.WalkLawsBesides
import Derived.ScopeJumps
import Derived.Lib.Hide
import Derived.Maps.AppendAt
import Derived.Deep.QuietTactic
import Derived.BigQuiet
import Derived.OwnWalk
import Derived.Laws.IdiomCopy
import Derived.Deep.RegionLaw
import Derived.Lib.SliceRun
import Derived.Laws.AppendOwnNone
namespace Go.Proofs.Ytglmdoghknpgkaa
set_option linter.unusedVariables false
set_option linter.unusedSimpArgs false
open Go.RowKit

/-- Block k of w is a row of cells of type t. -/
def Blk (w : World) (k : Nat) (cs : List Value) (t : TypeId) : Prop := w.heap[k]? = some (.cells cs.toArray t (0, 0))

theorem Blk.lt {w : World} {k : Nat} {cs : List Value} {t : TypeId} (h : Blk w k cs t) : k < w.heap.size := (Array.getElem?_eq_some_iff.1 h).1

theorem Blk.cell {w : World} {k : Nat} {cs : List Value} {t : TypeId} (h : Blk w k cs t) (i : Nat) : w.cell? ⟨k, i, none⟩ = cs[i]? := by
  unfold Blk at h; simp [World.cell?, h]

theorem Blk.frozen {w : World} {k : Nat} {cs : List Value} {t : TypeId} (h : Blk w k cs t) (i : Nat) : w.frozen? ⟨k, i, none⟩ = false := by
  unfold Blk at h; simp [World.frozen?, h]

theorem Blk.far {w : World} {k : Nat} {cs : List Value} {t : TypeId} (h : Blk w k cs t) {a : Addr} (hne : k ≠ a.block) (u : Value) : Blk (w.setCell a u) k cs t := by
  unfold Blk at *; rw [Below.heap_setCell _ _ _ _ hne]; exact h

theorem Blk.set {w : World} {k : Nat} {cs : List Value} {t : TypeId} (h : Blk w k cs t) (i : Nat) (u : Value) : Blk (w.setCell ⟨k, i, none⟩ u) k (cs.set i u) t := by
  unfold Blk at *
  simp only [World.setCell, Array.getElem?_modify, if_true, h, Option.map_some]
  simp

theorem Blk.alloc {w : World} {k : Nat} {cs : List Value} {t : TypeId} (h : Blk w k cs t) (o : Obj) : Blk (w.alloc o) k cs t := by
  have := h.lt
  unfold Blk at *; rw [Below.heap_alloc _ _ _ this]; exact h

theorem Blk.new (w : World) (cs : Array Value) (t : TypeId) : Blk (w.alloc (.cells cs t)) w.heap.size cs.toList t := by
  unfold Blk; rw [heap_alloc_new]

theorem Blk.ne {w : World} {k k' : Nat} {cs cs' : List Value} {t t' : TypeId} (h : Blk w k cs t) (h' : Blk w k' cs' t') (ht : t ≠ t') : k ≠ k' := by
  rintro rfl
  unfold Blk at *; rw [h] at h'; injection h' with h'; injection h' with _ h'; exact ht h'

/-- What a row that the program owns says of its block. -/
theorem own_set {w : World} {base : Nat} {e : TypeId} {size : Nat} {g cap n : Nat} {xs : List Value}
    (h : w.ownsRow base e size (.slice (some ⟨g, 0, none⟩) n cap) n xs) (j : Nat) (u : Value) :
    (w.setCell ⟨g, j, none⟩ u).ownsRow base e size (.slice (some ⟨g, 0, none⟩) n cap) n (xs.set j u) := by
  obtain ⟨h1, h2⟩ := h
  refine ⟨by simpa using h1, ?_⟩
  rcases h2 with ⟨h2, _⟩ | ⟨g', cap', cur, hv, hg, hh, hn, hc, hs, ht⟩
  · cases h2
  · cases hv
    refine .inr ⟨g, cap, cur.set! j u, rfl, hg, ?_, hn, hc, by simpa using hs, ?_⟩
    · have hb : Blk w g cur.toList e := by unfold Blk; simpa using hh
      have := hb.set j u
      unfold Blk at this
      rw [this]
      simp [← Array.toList_setIfInBounds]
    · rw [← ht]
      simp [List.take_set]

theorem own_far {w : World} {base : Nat} {e : TypeId} {size n : Nat} {v : Value} {xs : List Value}
    (h : w.ownsRow base e size v n xs) {a : Addr} (hne : v.ownBlock ≠ some a.block) (u : Value) : (w.setCell a u).ownsRow base e size v n xs := by
  obtain ⟨h1, h2⟩ := h
  refine ⟨h1, ?_⟩
  rcases h2 with h2 | ⟨g, cap, cur, rfl, hg, hh, r⟩
  · exact .inl h2
  · refine .inr ⟨g, cap, cur, rfl, hg, ?_, r⟩
    rw [Below.heap_setCell _ _ _ _ (by rintro rfl; exact hne rfl)]; exact hh

theorem own_blk {w : World} {base : Nat} {e : TypeId} {size n g cap : Nat} {xs : List Value}
    (h : w.ownsRow base e size (.slice (some ⟨g, 0, none⟩) n cap) n xs) : ∃ cs, Blk w g cs e ∧ cs.take (n * size) = xs ∧ cs.length = cap * size := by
  rcases h.2 with ⟨h2, _⟩ | ⟨g', cap', cur, hv, hg, hh, hn, hc, hs, ht⟩
  · cases h2
  · cases hv
    exact ⟨cur.toList, by unfold Blk; simpa using hh, ht, by simpa using hs⟩

theorem own_form {w : World} {base : Nat} {e : TypeId} {size n : Nat} {v : Value} {xs : List Value}
    (h : w.ownsRow base e size v n xs) (hn : 0 < n) : ∃ g cap, v = .slice (some ⟨g, 0, none⟩) n cap ∧ n ≤ cap ∧ base ≤ g := by
  rcases h.2 with ⟨_, h2⟩ | ⟨g, cap, cur, hv, hg, hh, hn, hc, hs, ht⟩
  · omega
  · exact ⟨g, cap, hv, hn, hg⟩

theorem own_form0 {w : World} {base : Nat} {e : TypeId} {size n : Nat} {v : Value} {xs : List Value}
    (h : w.ownsRow base e size v n xs) : ∃ A cap, v = .slice A n cap ∧ n ≤ cap ∧ cap ≤ maxLen := by
  rcases h.2 with ⟨h1, rfl⟩ | ⟨g, cap, cur, hv, hg, hh, hn, hc, hs, ht⟩
  · exact ⟨none, 0, h1, by simp, by simp⟩
  · exact ⟨_, cap, hv, hn, hc⟩

theorem own_cell {w : World} {base : Nat} {e : TypeId} {size n g cap : Nat} {xs : List Value}
    (h : w.ownsRow base e size (.slice (some ⟨g, 0, none⟩) n cap) n xs) (j : Nat) (hj : j < xs.length) : w.cell? ⟨g, j, none⟩ = xs[j]? ∧ w.frozen? ⟨g, j, none⟩ = false := by
  obtain ⟨cs, hb, ht, _⟩ := own_blk h
  refine ⟨?_, hb.frozen j⟩
  rw [hb.cell, ← ht]
  rw [← ht, List.length_take] at hj
  rw [List.getElem?_take, if_pos (by omega)]

/-- The frame of a call on a structure: which blocks may have turned. -/
structure Kept (S : Nat → Prop) (w w' : World) : Prop where
  os : w'.os = w.os
  tape : w'.tape = w.tape
  output : w'.output = w.output
  size : w.heap.size ≤ w'.heap.size
  block : ∀ k, k < w.heap.size → ¬ S k → w'.heap[k]? = w.heap[k]?

theorem Kept.refl (S : Nat → Prop) (w : World) : Kept S w w := ⟨rfl, rfl, rfl, Nat.le_refl _, fun _ _ _ => rfl⟩
theorem Kept.trans {S S' : Nat → Prop} {a b c : World} (h : Kept S a b) (k : Kept S' b c) (hs : ∀ k, k < a.heap.size → S' k → S k) : Kept S a c :=
  ⟨k.os.trans h.os, k.tape.trans h.tape, k.output.trans h.output, Nat.le_trans h.size k.size,
   fun i hi hn => (k.block i (Nat.lt_of_lt_of_le hi h.size) (fun h' => hn (hs i hi h'))).trans (h.block i hi hn)⟩
theorem Kept.mono {S S' : Nat → Prop} {a b : World} (h : Kept S a b) (hs : ∀ k, k < a.heap.size → S k → S' k) : Kept S' a b :=
  ⟨h.os, h.tape, h.output, h.size, fun i hi hn => h.block i hi (fun h' => hn (hs i hi h'))⟩
theorem Kept.of_below {S : Nat → Prop} {a b : World} (h : Below a.heap.size a b) : Kept S a b := ⟨h.os, h.tape, h.output, h.size, fun i hi _ => h.block i hi⟩
theorem Kept.below {S : Nat → Prop} {a b : World} (h : Kept S a b) {B : Nat} (hB : B ≤ a.heap.size) (hs : ∀ k, k < B → ¬ S k) : Below B a b :=
  ⟨h.os, h.tape, h.output, h.size, fun i hi => h.block i (by omega) (hs i hi)⟩
theorem Kept.alloc {S : Nat → Prop} {a b : World} (h : Kept S a b) (o : Obj) : Kept S a (b.alloc o) :=
  ⟨h.os, h.tape, h.output, by have := h.size; simp; omega, fun i hi hn => (Below.heap_alloc _ _ _ (Nat.lt_of_lt_of_le hi h.size)).trans (h.block i hi hn)⟩
theorem Kept.drewN {S : Nat → Prop} {a b : World} (h : Kept S a b) (n : Nat) : Kept S a (b.drewN n) := ⟨h.os, h.tape, h.output, h.size, h.block⟩
theorem Kept.set {S : Nat → Prop} {a b : World} (h : Kept S a b) {p : Addr} (hp : p.block < a.heap.size → S p.block) (u : Value) : Kept S a (b.setCell p u) :=
  ⟨h.os, h.tape, h.output, by simpa [World.setCell] using h.size, fun i hi hn => (Below.heap_setCell _ _ _ _ (by rintro rfl; exact hn (hp hi))).trans (h.block i hi hn)⟩
theorem Kept.grown {S : Nat → Prop} {a b c : World} {row : Option Nat} (h : Kept S a b) (hg : b.grownBy c row) (hr : ∀ k, row = some k → k < a.heap.size → S k) : Kept S a c :=
  h.trans (S' := fun k => row = some k) ⟨hg.os, hg.tape, hg.output, hg.size, fun i hi hn => hg.block i hi (fun e => hn e.symm)⟩ (fun k hk e => hr k e hk)
theorem Kept.blk {S : Nat → Prop} {a b : World} (h : Kept S a b) {k : Nat} {cs : List Value} {t : TypeId} (hb : Blk a k cs t) (hs : ¬ S k) : Blk b k cs t := by
  have := hb.lt
  unfold Blk at *; rw [h.block k this hs]; exact hb
theorem Kept.own {S : Nat → Prop} {a b : World} (h : Kept S a b) {base : Nat} {e : TypeId} {size n : Nat} {v : Value} {xs : List Value}
    (ho : a.ownsRow base e size v n xs) (hs : ∀ k, v.ownBlock = some k → ¬ S k) : b.ownsRow base e size v n xs := by
  have hlt := ho.lt
  obtain ⟨h1, h2⟩ := ho
  refine ⟨h1, ?_⟩
  rcases h2 with h2 | ⟨g, cap, cur, rfl, hg, hh, r⟩
  · exact .inl h2
  · exact .inr ⟨g, cap, cur, rfl, hg, by rw [h.block g (hlt g rfl).2 (hs g rfl)]; exact hh, r⟩

/-! Rows of structs: each element is so many cells. -/
def fl {α : Type} (enc : α → List Value) (l : List α) : List Value := l.flatMap enc

section
variable {α : Type} {enc : α → List Value} {sz : Nat}
theorem fl_nil : fl enc ([] : List α) = [] := rfl
theorem fl_cons (x : α) (l : List α) : fl enc (x :: l) = enc x ++ fl enc l := by simp [fl]
theorem fl_append (a b : List α) : fl enc (a ++ b) = fl enc a ++ fl enc b := by simp [fl]
theorem fl_one (x : α) : fl enc [x] = enc x := by simp [fl]
theorem fl_length (hs : ∀ x, (enc x).length = sz) (l : List α) : (fl enc l).length = l.length * sz := by
  induction l with
  | nil => simp [fl]
  | cons a l ih => rw [fl_cons, List.length_append, hs, ih, List.length_cons, Nat.add_mul, Nat.one_mul, Nat.add_comm]
theorem fl_split (l : List α) (k : Nat) (h : k < l.length) : fl enc l = fl enc (l.take k) ++ (enc l[k] ++ fl enc (l.drop (k + 1))) := by
  rw [← fl_cons, ← fl_append]
  congr 1
  rw [← List.drop_eq_getElem_cons h, List.take_append_drop]
theorem fl_get (hs : ∀ x, (enc x).length = sz) (l : List α) (k : Nat) (h : k < l.length) (j : Nat) (hj : j < sz) : (fl enc l)[k * sz + j]? = (enc l[k])[j]? := by
  have hl : (fl enc (l.take k)).length = k * sz := by rw [fl_length hs, List.length_take, Nat.min_eq_left (by omega)]
  rw [fl_split l k h, List.getElem?_append_right (by omega), hl, List.getElem?_append_left (by rw [hs]; omega)]
  congr 1; omega
theorem fl_set (hs : ∀ x, (enc x).length = sz) (l : List α) (k : Nat) (h : k < l.length) (j : Nat) (hj : j < sz) (u : Value) (x : α) (hx : enc x = (enc l[k]).set j u) :
    (fl enc l).set (k * sz + j) u = fl enc (l.set k x) := by
  have hl : (fl enc (l.take k)).length = k * sz := by rw [fl_length hs, List.length_take, Nat.min_eq_left (by omega)]
  rw [fl_split l k h, fl_split (l.set k x) k (by simpa using h)]
  rw [List.set_append_right _ _ (by omega), hl, List.set_append_left _ _ (by rw [hs]; omega)]
  simp [hx, List.take_set_of_le, List.drop_set_of_lt, show k * sz + j - k * sz = j by omega]
theorem fl_take (hs : ∀ x, (enc x).length = sz) (l : List α) (k : Nat) (h : k ≤ l.length) : (fl enc l).take (k * sz) = fl enc (l.take k) := by
  have hl : (fl enc (l.take k)).length = k * sz := by rw [fl_length hs, List.length_take, Nat.min_eq_left h]
  conv => lhs; rw [← List.take_append_drop k l, fl_append]
  rw [List.take_append_of_le_length (by omega), ← hl, List.take_length]
theorem fl_drop (hs : ∀ x, (enc x).length = sz) (l : List α) (k : Nat) (h : k ≤ l.length) : (fl enc l).drop (k * sz) = fl enc (l.drop k) := by
  have hl : (fl enc (l.take k)).length = k * sz := by rw [fl_length hs, List.length_take, Nat.min_eq_left h]
  conv => lhs; rw [← List.take_append_drop k l, fl_append]
  rw [← hl, List.drop_left]
end

section
variable {α : Type} {enc : α → List Value} {size : Nat} {P : Program} {ops : Array Oper} {rest : List Oper} {o : Oper} {a : Act} {Q : Exit → Act → World → Prop}
/-- append(v, y), the variadic's box just laid. -/
theorem app1 {W : World} {B : Nat} (base : Nat) (hgd : o.guard = none) (s x : Operand) (t e : TypeId) (z : Value) (bytes : Nat)
    (ho : o.op = .call { callee := .builtin .append, args := #[s, x], argTypes := #[t, t] })
    (ht : P.underlying t = some (.slice e)) (hinfo : (P.info? e).map (fun i => (i.zero, i.size, i.bytes)) = some (some z, size, bytes)) (hz : z.cells.size = size) (hs0 : 0 < size) (hb0 : 0 < bytes)
    (hlen : ∀ x, (enc x).length = size) (v : Value) (l : List α) (y : α) (ys : Array Value) (hys : ys.toList = enc y) (hs : a.eval s = v) (hx : a.eval x = .slice (some ⟨B, 0, none⟩) 1 1) (hB : W.heap.size = B)
    (h1 : ∀ u ∈ enc y, u.oneCell' = true)
    (HO : W.ownsRow base e size v l.length (fl enc l)) (hbase : base ≤ W.heap.size) (hl : (l.length + 1) * bytes ≤ 140737488355328)
    (h : ∀ v1 w1, w1.ownsRow base e size v1 (l ++ [y]).length (fl enc (l ++ [y])) → W.grownBy w1 v.ownBlock → (v1.ownBlock = v.ownBlock ∨ v1.ownBlock = some (W.heap.size + 1)) → wpList P ops Q rest (a.put o.dst v1) w1) :
    wpList P ops Q (o :: rest) a (W.alloc (.cells ys e)) := by
  subst hB
  obtain ⟨i0, hi, hzz⟩ := Option.map_eq_some_iff.1 hinfo
  simp only [Prod.mk.injEq] at hzz
  obtain ⟨hz0, hz1, hz2⟩ := hzz
  have hn : l.length + 1 ≤ 140737488355328 := Nat.le_trans (Nat.le_mul_of_pos_right _ hb0) hl
  have hsz : ys.size = size := by rw [← Array.length_toList, hys, hlen]
  refine wpList_append_own_at (W.alloc (.cells ys e)) hgd s x t ho base e i0 z size bytes ht hi hz0 hz1 hz2 hz hs0 v l.length (fl enc l) hs (HO.alloc _) ⟨W.heap.size, 0, none⟩ 1 1 (enc y) hx (by rw [hlen]; simp)
    (fun j u hj => by
      have hb := Blk.new W ys e
      have hadd : (⟨W.heap.size, 0, none⟩ : Addr).add j = ⟨W.heap.size, j, none⟩ := by unfold Addr.add; split <;> simp_all
      rw [hadd, hb.cell, hys]; exact hj) h1 (by simp only [maxLen]; omega) hl (by simp; omega) ?_
  intro v1 w1 hown hg _ hat
  refine h v1 w1 (by rw [fl_append, fl_one, List.length_append]; exact hown) (World.grownBy.trans (World.grownBy_alloc W _ _) hg) ?_
  simpa using hat
end

/-- A scope with one label that the run falls into and jumps back to. -/
theorem wp_scope_label {P : Program} {a : Act} {w : World} {Q : Exit → Act → World → Prop} {c R : Code} (l : Nat) (J : Act → World → Prop) (μ : Act → World → Nat) (hf : findLabel c l = some (.seq .skip R))
    (first : (∀ a w, J a w → R.wp P (Exit.jump l J Q) a w) → c.wp P (Exit.jump l J Q) a w)
    (pass : ∀ a w, J a w → R.wp P (Exit.jump l (fun a' w' => J a' w' ∧ μ a' w' < μ a w) Q) a w) : (Code.scope c).wp P Q a w :=
  wp_scope_jumps l J μ hf (first fun a w hJ => wp_mono (pass a w hJ) (fun e a w h => by cases e <;> first | exact h | exact ⟨h.1, h.2.1⟩))
    (fun a w hJ => wp_seq (wp_skip (pass a w hJ)))

/-- A frame some of whose slots are anything. -/
theorem uof {T : Array Value} {D : List Deferred} {F : (Nat → Value) → Array Value} (h : T = F (fun i => T.getD i undef)) : ∃ u : Nat → Value, ({ tmps := T, defers := D } : Act) = { tmps := F u, defers := D } :=
  ⟨_, congrArg (fun t => ({ tmps := t, defers := D } : Act)) h⟩

theorem quiet_same {P : Program} {f : FuncId} {args : Array Value} {w : World} {n : Nat} {v : Value}
    (h : Calls P f args (w.drewN n) fun e w' => e = .returned v ∧ w.drewN n = w') : Calls P f args (w.drewN n) fun e w'' => e = .returned v ∧ ∃ m, w'' = w.drewN m :=
  h.mono fun _ _ ⟨he, hm⟩ => ⟨he, n, hm.symm⟩

/-- A slice that reads as a list; where it lies is left open. -/
def Rd {α : Type} (enc : α → List Value) (w : World) (v : Value) (l : List α) : Prop :=
  ∃ A cap, v = .slice A l.length cap ∧ l.length ≤ cap ∧ cap ≤ 9223372036854775807 ∧ (A = none → l = [] ∧ cap = 0) ∧ ∀ ad, A = some ad → ∀ j u, (fl enc l)[j]? = some u → w.cell? (ad.add j) = some u

section
variable {α : Type} {enc : α → List Value}
theorem Rd.nil (enc : α → List Value) (w : World) : Rd enc w (.slice none 0 0) [] := ⟨none, 0, rfl, by simp, by omega, fun _ => ⟨rfl, rfl⟩, fun _ h => by cases h⟩
theorem Rd.below {w w' : World} {v : Value} {l : List α} (h : Rd enc w v l) (hb : Below w.heap.size w w') : Rd enc w' v l := by
  obtain ⟨A, cap, hv, hl, hm, hn, hc⟩ := h
  exact ⟨A, cap, hv, hl, hm, hn, fun ad ha j u hu => by
    have := hc ad ha j u hu
    rw [hb.cell (World.block_lt_of_cell? w _ this)]; exact this⟩
theorem Rd.drewN {w : World} {v : Value} {l : List α} (h : Rd enc w v l) (n : Nat) : Rd enc (w.drewN n) v l := h
theorem Rd.alloc {w : World} {v : Value} {l : List α} (h : Rd enc w v l) (o : Obj) : Rd enc (w.alloc o) v l := h.below ((Below.refl _ _).alloc (Nat.le_refl _) o)
theorem Rd.of_own {w : World} {base : Nat} {e : TypeId} {sz : Nat} {v : Value} {l : List α} (h : w.ownsRow base e sz v l.length (fl enc l)) : Rd enc w v l := by
  rcases h.2 with ⟨h1, h2⟩ | ⟨g, cap, cur, hv, hg, hh, hn, hc, hs, ht⟩
  · obtain rfl : l = [] := List.length_eq_zero_iff.1 h2
    rw [h1]; exact Rd.nil _ _
  · refine ⟨_, cap, hv, hn, by simpa [maxLen] using hc, (fun h => by cases h), fun ad ha j u hu => ?_⟩
    cases ha
    exact h.cells (g := g) (by rw [hv]; rfl) j u hu
end

theorem setCells_heap {g : Nat} : ∀ (vs : List Value) (o : Nat) (w : World) (k : Nat), k ≠ g → (w.setCells g o vs).heap[k]? = w.heap[k]?
  | [], _, _, _, _ => rfl
  | v :: r, o, w, k, h => by
    show ((w.setCell ⟨g, o, none⟩ v).setCells g (o + 1) r).heap[k]? = _
    rw [setCells_heap r (o + 1) _ k h, Below.heap_setCell _ _ _ _ h]
theorem setCells_same {g : Nat} : ∀ (vs : List Value) (o : Nat) (w : World), (w.setCells g o vs).os = w.os ∧ (w.setCells g o vs).tape = w.tape ∧ (w.setCells g o vs).output = w.output ∧ (w.setCells g o vs).heap.size = w.heap.size
  | [], _, _ => ⟨rfl, rfl, rfl, rfl⟩
  | v :: r, o, w => by
    obtain ⟨h1, h2, h3, h4⟩ := setCells_same (g := g) r (o + 1) (w.setCell ⟨g, o, none⟩ v)
    exact ⟨h1, h2, h3, h4.trans (by simp [World.setCell])⟩
theorem setCells_grown {g : Nat} (vs : List Value) (o : Nat) (w : World) : w.grownBy (w.setCells g o vs) (some g) := by
  obtain ⟨h1, h2, h3, h4⟩ := setCells_same (g := g) vs o w
  exact ⟨h1, h2, h3, by omega, fun k _ hk => setCells_heap vs o w k (by rintro rfl; exact hk rfl)⟩
theorem Blk.setCells {g : Nat} {t : TypeId} : ∀ (vs : List Value) (o : Nat) (w : World) (cs : List Value), Blk w g cs t → o + vs.length ≤ cs.length → Blk (w.setCells g o vs) g (cs.take o ++ vs ++ cs.drop (o + vs.length)) t
  | [], o, w, cs, h, hl => by
    have e : cs.take o ++ [] ++ cs.drop (o + 0) = cs := by simp
    show Blk w g (cs.take o ++ [] ++ cs.drop (o + 0)) t
    rw [e]; exact h
  | v :: r, o, w, cs, h, hl => by
    have h1 := (h.set o v).setCells r (o + 1) _ _ (by simp at *; omega)
    show Blk ((w.setCell ⟨g, o, none⟩ v).setCells g (o + 1) r) g _ t
    have e : (cs.set o v).take (o + 1) = cs.take o ++ [v] := by
      rw [List.take_succ_eq_append_getElem (by simp at *; omega)]; simp [List.take_set_of_le]
    rw [e, List.drop_set_of_lt (by omega)] at h1
    simpa [Nat.add_assoc, Nat.add_comm 1] using h1

theorem zeroCells_length (z : Value) (n : Nat) : (Builtin.zeroCells z.cells n).toList.length = n * z.cells.size := by simp [Builtin.zeroCells]
theorem run_clear_cells {P : Program} (w : World) (t e ty : TypeId) (z : Value) (ht : P.underlying t = some (.slice e)) (hv : ∀ w, (zeroValue e).run P w = .ok z w) (h1 : ∀ u ∈ z.cells, u.oneCell' = true) (b o n c : Nat) (hn : 0 < n)
    (hc : ∀ j, j < n * z.cells.size → (w.cell? ⟨b, o + j, none⟩).isSome = true) (hf : ∀ j, j < n * z.cells.size → w.frozen? ⟨b, o + j, none⟩ = false) :
    (Builtin.clear_ #[t] ty #[.slice (some ⟨b, o, none⟩) n c]).run P w = .ok (.tuple #[]) (w.setCells b o (Builtin.zeroCells z.cells n).toList) := by
  have hall : ∀ v ∈ (Builtin.zeroCells z.cells n).toList, v.oneCell' = true := by
    intro v hv
    have hv' : v ∈ Builtin.zeroCells z.cells n := Array.mem_toList_iff.1 hv
    unfold Builtin.zeroCells at hv'
    obtain ⟨i, hi, rfl⟩ := Array.mem_map.1 hv'
    rcases Nat.eq_zero_or_pos z.cells.size with h0 | h0
    · simp [h0] at hi
    · have : i % z.cells.size < z.cells.size := Nat.mod_lt _ h0
      have e : z.cells[i % z.cells.size]! = z.cells[i % z.cells.size] := getElem!_pos z.cells _ this
      rw [e]
      exact h1 _ (Array.getElem_mem this)
  have hst := run_storeCells_cells (P := P) b o (Builtin.zeroCells z.cells n).toList 0 w (by rw [zeroCells_length]; simpa using hc) (by rw [zeroCells_length]; simpa using hf) hall
  simp only [Nat.add_zero] at hst
  obtain ⟨m, rfl⟩ : ∃ m, n = m + 1 := ⟨n - 1, by omega⟩
  simp [Builtin.clear_, run_underlying ht, hv, hst]

/-- Where the first one stands, or -1. -/
def idxOf {α : Type} (p : α → Bool) (l : List α) : Int := match l.findIdx? p with | some k => (k : Int) | none => -1
theorem idxOf_none {α : Type} {p : α → Bool} {l : List α} (h : ∀ j (hj : j < l.length), p l[j] = false) : idxOf p l = -1 := by
  unfold idxOf
  have : l.findIdx? p = none := by
    rw [List.findIdx?_eq_none_iff]
    intro x hx
    obtain ⟨j, hj, rfl⟩ := List.getElem_of_mem hx
    exact h j hj
  rw [this]
theorem idxOf_some {α : Type} {p : α → Bool} {l : List α} {k : Nat} (hk : k < l.length) (hp : p l[k] = true) (h : ∀ j (hj : j < k), p l[j] = false) : idxOf p l = k := by
  unfold idxOf
  have : l.findIdx? p = some k := by
    rw [List.findIdx?_eq_some_iff_getElem]
    exact ⟨hk, hp, fun j hj => by simp [h j hj]⟩
  rw [this]
theorem idxOf_cases {α : Type} (p : α → Bool) (l : List α) : (idxOf p l = -1 ∧ l.findIdx? p = none) ∨ ∃ k, k < l.length ∧ idxOf p l = (k : Int) ∧ l.findIdx? p = some k := by
  unfold idxOf
  cases h : l.findIdx? p with
  | none => exact .inl ⟨rfl, rfl⟩
  | some k => exact .inr ⟨k, (List.findIdx?_eq_some_iff_getElem.1 h).1, rfl, rfl⟩

theorem add_field (ad : Addr) (m j : Nat) (hj : 0 < j) : ad.add (m + j) = ⟨(ad.add m).block, (ad.add m).off + j, none⟩ := by
  unfold Addr.add
  by_cases hm : m = 0
  · subst hm; simp [Nat.ne_of_gt hj]
  · simp [hm, Nat.add_assoc]
theorem add_lit (g j : Nat) : (⟨g, 0, none⟩ : Addr).add j = ⟨g, j, none⟩ := by unfold Addr.add; split <;> simp_all
/-- An element's cells, as the walk asks for them. -/
theorem elem_cell {α : Type} {enc : α → List Value} {sz : Nat} (hs : ∀ x, (enc x).length = sz) {w : World} {ad : Addr} {l : List α} (hc : ∀ j u, (fl enc l)[j]? = some u → w.cell? (ad.add j) = some u) (k : Nat) (hk : k < l.length) (j : Nat) (u : Value)
    (hu : (enc l[k])[j]? = some u) : w.cell? (if j = 0 then ad.add (k * sz) else ⟨(ad.add (k * sz)).block, (ad.add (k * sz)).off + j, none⟩) = some u := by
  have hj : j < sz := by have := (List.getElem?_eq_some_iff.1 hu).1; rwa [hs] at this
  have h := hc (k * sz + j) u (by rw [fl_get hs l k hk j hj]; exact hu)
  by_cases h0 : j = 0
  · subst h0; simpa using h
  · rw [if_neg h0, ← add_field _ _ _ (by omega)]; exact h

theorem elem_c0 {α : Type} {enc : α → List Value} {sz : Nat} (hs : ∀ x, (enc x).length = sz) {w : World} {ad : Addr} {l : List α} (hc : ∀ j u, (fl enc l)[j]? = some u → w.cell? (ad.add j) = some u) (k : Nat) (hk : k < l.length) (u : Value)
    (hu : (enc l[k])[0]? = some u) : w.cell? (ad.add (k * sz)) = some u := elem_cell hs hc k hk 0 u hu
theorem elem_cS {α : Type} {enc : α → List Value} {sz : Nat} (hs : ∀ x, (enc x).length = sz) {w : World} {ad : Addr} {l : List α} (hc : ∀ j u, (fl enc l)[j]? = some u → w.cell? (ad.add j) = some u) (k : Nat) (hk : k < l.length) (j : Nat) (u : Value)
    (hu : (enc l[k])[j + 1]? = some u) : w.cell? ⟨(ad.add (k * sz)).block, (ad.add (k * sz)).off + (j + 1), none⟩ = some u := by
  have := elem_cell hs hc k hk (j + 1) u hu
  rwa [if_neg (Nat.succ_ne_zero j)] at this
theorem lit2 {l : List Value} (h : l.length = 2) : l = [l.getD 0 undef, l.getD 1 undef] := by match l, h with | [_, _], _ => rfl
theorem lit3 {l : List Value} (h : l.length = 3) : l = [l.getD 0 undef, l.getD 1 undef, l.getD 2 undef] := by match l, h with | [_, _, _], _ => rfl
theorem lit4 {l : List Value} (h : l.length = 4) : l = [l.getD 0 undef, l.getD 1 undef, l.getD 2 undef, l.getD 3 undef] := by match l, h with | [_, _, _, _], _ => rfl
theorem lit5 {l : List Value} (h : l.length = 5) : l = [l.getD 0 undef, l.getD 1 undef, l.getD 2 undef, l.getD 3 undef, l.getD 4 undef] := by match l, h with | [_, _, _, _, _], _ => rfl
theorem lit6 {l : List Value} (h : l.length = 6) : l = [l.getD 0 undef, l.getD 1 undef, l.getD 2 undef, l.getD 3 undef, l.getD 4 undef, l.getD 5 undef] := by match l, h with | [_, _, _, _, _, _], _ => rfl

theorem alloc_cell {w : World} {a : Addr} {v : Value} (h : w.cell? a = some v) (o : Obj) : (w.alloc o).cell? a = some v := by
  rw [← h]; exact Below.cell ((Below.refl _ _).alloc (Nat.le_refl _) _) (World.block_lt_of_cell? w _ h)

section
variable {α : Type} {enc : α → List Value} {size : Nat} {P : Program}
/-- append(v, u...), u a slice that reads as a list. -/
theorem run_appN {W : World} (base : Nat) (t ty e : TypeId) (z : Value) (bytes : Nat)
    (ht : P.underlying t = some (.slice e)) (hinfo : (P.info? e).map (fun i => (i.zero, i.size, i.bytes)) = some (some z, size, bytes)) (hz : z.cells.size = size) (hs0 : 0 < size) (hb0 : 0 < bytes)
    (hlen : ∀ x, (enc x).length = size) (h1 : ∀ x, ∀ c ∈ enc x, c.oneCell' = true) (v : Value) (l : List α) (u : Value) (ys : List α) (hu : Rd enc W u ys)
    (HO : W.ownsRow base e size v l.length (fl enc l)) (hbase : base ≤ W.heap.size) (hl : (l.length + ys.length) * bytes ≤ 140737488355328) :
    ∃ v1 w1, (Builtin.append_ #[t, t] ty #[v, u]).run P W = .ok v1 w1 ∧ w1.ownsRow base e size v1 (l ++ ys).length (fl enc (l ++ ys)) ∧ W.grownBy w1 v.ownBlock ∧ (v1.ownBlock = v.ownBlock ∨ v1.ownBlock = some W.heap.size) := by
  obtain ⟨i0, hi, hzz⟩ := Option.map_eq_some_iff.1 hinfo
  simp only [Prod.mk.injEq] at hzz
  obtain ⟨hz0, hz1, hz2⟩ := hzz
  obtain ⟨A, cap, rfl, hlc, hcm, hn, hc⟩ := hu
  cases A with
  | none =>
    obtain ⟨rfl, rfl⟩ := hn rfl
    exact ⟨v, W, run_append_owned_none (P := P) (w := W) base t ty e i0 size ht hi v l.length (fl enc l) HO, by simpa using HO, ⟨rfl, rfl, rfl, Nat.le_refl _, fun _ _ _ => rfl⟩, .inl rfl⟩
  | some ad =>
    have hn2 : l.length + ys.length ≤ 140737488355328 := Nat.le_trans (Nat.le_mul_of_pos_right _ hb0) hl
    obtain ⟨v1, w1, hr, ho, hg, _, hat⟩ := run_append_own_at (P := P) (w := W) base t ty e i0 z size bytes ht hi hz0 hz1 hz2 hz hs0 v l.length (fl enc l) HO ad ys.length cap (fl enc ys) (fl_length hlen ys) (hc ad rfl)
      (fun c hcm => by obtain ⟨x, _, hx⟩ := List.mem_flatMap.1 hcm; exact h1 x c hx) (by simp only [maxLen]; omega) hl hbase
    exact ⟨v1, w1, hr, by rw [List.length_append, fl_append]; exact ho, hg, hat⟩

variable {ops : Array Oper} {rest : List Oper} {o : Oper} {a : Act} {Q : Exit → Act → World → Prop}
theorem wpList_appN {W : World} (base : Nat) (hgd : o.guard = none) (s x : Operand) (t e : TypeId) (z : Value) (bytes : Nat)
    (ho : o.op = .call { callee := .builtin .append, args := #[s, x], argTypes := #[t, t] })
    (ht : P.underlying t = some (.slice e)) (hinfo : (P.info? e).map (fun i => (i.zero, i.size, i.bytes)) = some (some z, size, bytes)) (hz : z.cells.size = size) (hs0 : 0 < size) (hb0 : 0 < bytes)
    (hlen : ∀ x, (enc x).length = size) (h1 : ∀ x, ∀ c ∈ enc x, c.oneCell' = true) (v : Value) (l : List α) (u : Value) (ys : List α) (hs : a.eval s = v) (hx : a.eval x = u) (hu : Rd enc W u ys)
    (HO : W.ownsRow base e size v l.length (fl enc l)) (hbase : base ≤ W.heap.size) (hl : (l.length + ys.length) * bytes ≤ 140737488355328)
    (h : ∀ v1 w1, w1.ownsRow base e size v1 (l ++ ys).length (fl enc (l ++ ys)) → W.grownBy w1 v.ownBlock → (v1.ownBlock = v.ownBlock ∨ v1.ownBlock = some W.heap.size) → wpList P ops Q rest (a.put o.dst v1) w1) :
    wpList P ops Q (o :: rest) a W := by
  refine wpList_plain hgd fun K hK => ?_
  obtain ⟨v1, w1, hr, h2, h3, h4⟩ := run_appN (P := P) base t o.type e z bytes ht hinfo hz hs0 hb0 hlen h1 v l u ys hu HO hbase hl
  unfold Oper.wp execOp
  simp only [ho, resolve, invoke, builtin, Sem.run_bind, Sem.run_pure, Result.andThen_ok, List.map_toArray, List.map_cons, List.map_nil, hs, hx, hr]
  exact hK _ _ (h v1 w1 h2 h3 h4)

theorem step_appN {W : World} {K : Act → World → Prop} {E : Prop} (base : Nat) (hgd : o.guard = none) (s x : Operand) (t e : TypeId) (z : Value) (bytes : Nat)
    (ho : o.op = .call { callee := .builtin .append, args := #[s, x], argTypes := #[t, t] })
    (ht : P.underlying t = some (.slice e)) (hinfo : (P.info? e).map (fun i => (i.zero, i.size, i.bytes)) = some (some z, size, bytes)) (hz : z.cells.size = size) (hs0 : 0 < size) (hb0 : 0 < bytes)
    (hlen : ∀ x, (enc x).length = size) (h1 : ∀ x, ∀ c ∈ enc x, c.oneCell' = true) (v : Value) (l : List α) (u : Value) (ys : List α) (hs : a.eval s = v) (hx : a.eval x = u) (hu : Rd enc W u ys)
    (HO : W.ownsRow base e size v l.length (fl enc l)) (hbase : base ≤ W.heap.size) (hl : (l.length + ys.length) * bytes ≤ 140737488355328)
    (h : ∀ v1 w1, w1.ownsRow base e size v1 (l ++ ys).length (fl enc (l ++ ys)) → W.grownBy w1 v.ownBlock → (v1.ownBlock = v.ownBlock ∨ v1.ownBlock = some W.heap.size) → K (a.put o.dst v1) w1) :
    if Region.wanted o (yielded ops a.tmps) = true then Oper.wp P o a W K Q else E := by
  have hw : Region.wanted o (yielded ops a.tmps) = true := by simp [Region.wanted, hgd]
  rw [if_pos hw]
  obtain ⟨v1, w1, hr, h2, h3, h4⟩ := run_appN (P := P) base t o.type e z bytes ht hinfo hz hs0 hb0 hlen h1 v l u ys hu HO hbase hl
  unfold Oper.wp execOp
  simp only [ho, resolve, invoke, builtin, Sem.run_bind, Sem.run_pure, Result.andThen_ok, List.map_toArray, List.map_cons, List.map_nil, hs, hx, hr]
  exact h v1 w1 h2 h3 h4
end

/-- A beginning, an end of what reads as a list. -/
theorem Rd.take {α : Type} {enc : α → List Value} {sz : Nat} (hs : ∀ x, (enc x).length = sz) {w : World} {A : Option Addr} {n cap : Nat} {l : List α} (h : Rd enc w (.slice A n cap) l) (k : Nat) (hk : k ≤ l.length) : Rd enc w (.slice A k cap) (l.take k) := by
  obtain ⟨A', cap', hv, hl, hm, hn, hc⟩ := h
  cases hv
  have hlen : (l.take k).length = k := by rw [List.length_take]; omega
  refine ⟨A, cap, by rw [hlen], by omega, hm, fun h => by obtain ⟨rfl, h2⟩ := hn h; exact ⟨by simp, h2⟩, fun ad ha j u hu => hc ad ha j u ?_⟩
  rw [← fl_take hs l k hk, List.getElem?_take] at hu
  split at hu
  · exact hu
  · cases hu
theorem Rd.drop {α : Type} {enc : α → List Value} {sz : Nat} (hs : ∀ x, (enc x).length = sz) {w : World} {ad : Addr} {n cap : Nat} {l : List α} (h : Rd enc w (.slice (some ad) n cap) l) (k : Nat) (hk : k ≤ l.length) :
    Rd enc w (.slice (if cap = k then some ad else some (ad.add (k * sz))) (l.length - k) (cap - k)) (l.drop k) := by
  obtain ⟨A', cap', hv, hl, hm, hn, hc⟩ := h
  cases hv
  refine ⟨_, cap - k, by rw [List.length_drop], by rw [List.length_drop]; omega, by omega, (fun h => by split at h <;> cases h), fun a' ha j u hu => ?_⟩
  have hj := (List.getElem?_eq_some_iff.1 hu).1
  rw [fl_length hs, List.length_drop] at hj
  rw [← fl_drop hs l k hk, List.getElem?_drop] at hu
  have h1 := hc ad rfl (k * sz + j) u hu
  split at ha
  · rename_i he
    have : l.length - k = 0 := by omega
    rw [this] at hj; omega
  · cases ha
    have e : (ad.add (k * sz)).add j = ad.add (k * sz + j) := by
      unfold Addr.add
      by_cases h0 : k * sz = 0 <;> by_cases h3 : j = 0 <;> simp [h0, h3, Nat.add_assoc]
    rw [e]; exact h1

theorem own_weaken {w : World} {base base' : Nat} {e : TypeId} {size n : Nat} {v : Value} {xs : List Value} (h : w.ownsRow base e size v n xs) (hb : base' ≤ base) : w.ownsRow base' e size v n xs := by
  obtain ⟨h1, h2⟩ := h
  refine ⟨h1, ?_⟩
  rcases h2 with h2 | ⟨g, cap, cur, hv, hg, r⟩
  · exact .inl h2
  · exact .inr ⟨g, cap, cur, hv, by omega, r⟩

theorem run_copy_cells {P : Program} (w : World) (dT sT ty elem : TypeId) (g o dLen dCap : Nat) (a : Addr) (sLen sCap size m : Nat) (cs : List Value) (hm : m = min sLen dLen)
    (hu : P.underlying dT = some (.slice elem)) (hs : (P.info? elem).map (·.size) = some size) (hn : cs.length = m * size)
    (hsrc : ∀ j v, cs[j]? = some v → w.cell? (a.add j) = some v) (hc : ∀ j, j < cs.length → (w.cell? ⟨g, o + j, none⟩).isSome = true) (hf : ∀ j, j < cs.length → w.frozen? ⟨g, o + j, none⟩ = false) (h1 : ∀ v ∈ cs, v.oneCell' = true) :
    (Builtin.copy_ #[dT, sT] ty #[.slice (some ⟨g, o, none⟩) dLen dCap, .slice (some a) sLen sCap]).run P w = .ok (goInt m) (w.setCells g o cs) := by
  have hl := run_loadCells_list (P := P) w a cs hsrc
  have hst := run_storeCells_cells (P := P) g o cs 0 w (by simpa using hc) (by simpa using hf) h1
  simp only [Nat.add_zero] at hst
  have hm' : Nat.min sLen dLen = m := hm.symm
  cases hq : P.info? elem with
  | none => simp [hq] at hs
  | some i =>
    have hi : i.size = size := by simpa [hq] using hs
    simp [Builtin.copy_, run_underlying hu, Builtin.lenOf, Builtin.firstCells, sizeOf, typeInfo, hq, hi, hm', ← hn, hl, hst]

theorem Blk.shape {w : World} {k : Nat} {cs : List Value} {t : TypeId} (h : Blk w k cs t) : w.shape? k = some (t, cs.length) := by
  unfold Blk at h; simp [World.shape?, h]

/-- A row that was just written out. -/
theorem own_lit {α : Type} {enc : α → List Value} {sz : Nat} (hs : ∀ x, (enc x).length = sz) (w : World) (base : Nat) (hb : base ≤ w.heap.size) (e : TypeId) (cs : Array Value) (l : List α) (h : cs.toList = fl enc l) (hl : l.length ≤ 9223372036854775807) :
    (w.alloc (.cells cs e)).ownsRow base e sz (.slice (some ⟨w.heap.size, 0, none⟩) l.length l.length) l.length (fl enc l) := by
  have hsz : cs.size = l.length * sz := by rw [← Array.length_toList, h, fl_length hs]
  refine ⟨fl_length hs l, .inr ⟨w.heap.size, l.length, cs, rfl, hb, heap_alloc_new w _, Nat.le_refl _, by simpa [maxLen] using hl, hsz, ?_⟩⟩
  rw [h, ← fl_length hs, List.take_length]

/-- 'int(uint(n) % m)'. -/
theorem urem (n m : Int) (hm : 0 < m) : 0 ≤ (IntKind.u64.wrap n).tmod m ∧ (IntKind.u64.wrap n).tmod m < m := by
  have h : 0 ≤ IntKind.u64.wrap n := by
    have : IntKind.u64.wrap n = n % 18446744073709551616 := rfl
    rw [this]; omega
  rw [Int.tmod_eq_emod_of_nonneg h]
  exact ⟨Int.emod_nonneg _ (by omega), Int.emod_lt_of_pos _ hm⟩

end Go.Proofs.Ytglmdoghknpgkaa
