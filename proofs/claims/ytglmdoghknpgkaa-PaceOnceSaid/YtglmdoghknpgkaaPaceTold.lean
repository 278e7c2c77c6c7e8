/- carrefourlaw19.told: what the program tells of a few. -/
import Derived.Test.YtglmdoghknpgkaaPaceT
import Derived.Test.YtglmdoghknpgkaaFreshX
namespace Go.Proofs.Ytglmdoghknpgkaa
set_option linter.unusedVariables false
set_option linter.unusedSimpArgs false
open Go.RowKit

theorem PAt.new (T E : Nat) (w : World) (now : Int) : PAt T E (w.alloc (.cells #[.int .i64 now, .int .i64 0, .slice none 0 0] T)) w.heap.size (.slice none 0 0) ⟨now, 0, []⟩ :=
  ⟨Blk.new w #[.int .i64 now, .int .i64 0, .slice none 0 0] T, World.ownsRow_nil _ _ _ _, by simp⟩

/-- One pace, whose blocks lie from B on. -/
structure One (T E : Nat) (B : Nat) (w0 : World) (w : World) (g : Nat) (v : Value) (p : PaceS) : Prop where
  pt : PAt T E w g v p
  hg : B ≤ g
  hv : ∀ k, v.ownBlock = some k → B ≤ k
  below : Below B w0 w

theorem One.new {T E : Nat} {w0 w : World} (hb : Below w0.heap.size w0 w) (now : Int) : One T E w0.heap.size w0 (w.alloc (.cells #[.int .i64 now, .int .i64 0, .slice none 0 0] T)) w.heap.size (.slice none 0 0) ⟨now, 0, []⟩ :=
  ⟨PAt.new T E w now, hb.size, (fun k h => by cases h), hb.alloc hb.size _⟩
theorem One.next {T E B : Nat} {w0 w w' : World} {g : Nat} {v v' : Value} {p p' : PaceS} (h : One T E B w0 w g v p) (hB : B ≤ w.heap.size) (hp : PAt T E w' g v' p') (hk : Kept (fun k => k = g ∨ v.ownBlock = some k) w w') (hv : ∀ k, v'.ownBlock = some k → v.ownBlock = some k ∨ w.heap.size ≤ k) : One T E B w0 w' g v' p' :=
  ⟨hp, h.hg, fun k e => by rcases hv k e with e | e; exact h.hv k e; omega, h.below.trans (hk.below hB (fun k hk => by rintro (rfl | e); have := h.hg; omega; have := h.hv k e; omega))⟩
theorem One.size {T E B : Nat} {w0 w : World} {g : Nat} {v : Value} {p : PaceS} (h : One T E B w0 w g v p) (hB : B ≤ w0.heap.size) : B ≤ w.heap.size := Nat.le_trans hB h.below.size
theorem One.keep {T E B : Nat} {w0 w w' : World} {g : Nat} {v : Value} {p : PaceS} (h : One T E B w0 w g v p) (hB : B ≤ w.heap.size) (hb : Below w.heap.size w w') : One T E B w0 w' g v p :=
  ⟨h.pt.kept (S := fun _ => False) (Kept.of_below hb) (fun h => h) (fun _ _ h => h), h.hg, h.hv, h.below.trans (hb.mono hB)⟩

/-- What is of other types than a pace's blocks stands. -/
theorem own_keep {T E : Nat} {w w' : World} {g : Nat} {v : Value} {p : PaceS} (h : PAt T E w g v p) (hk : Kept (fun k => k = g ∨ v.ownBlock = some k) w w') {base : Nat} {e : TypeId} {size n : Nat} {u : Value} {xs : List Value} (ho : w.ownsRow base e size u n xs) (h1 : e ≠ T) (h2 : e ≠ E) : w'.ownsRow base e size u n xs :=
  hk.own ho (fun k hk' => by
    obtain ⟨cs, hb⟩ := own_typed ho k hk'
    rintro (rfl | e)
    · exact h.blk.ne hb (Ne.symm h1) rfl
    · obtain ⟨cs', hb'⟩ := own_typed h.row k e
      exact hb'.ne hb (Ne.symm h2) rfl)
theorem PAt.other {T E T' E' : Nat} {w w' : World} {g g' : Nat} {v v' : Value} {p p' : PaceS} (h : PAt T E w g v p) (hk : Kept (fun k => k = g ∨ v.ownBlock = some k) w w') (ho : PAt T' E' w g' v' p') (h1 : T' ≠ T) (h2 : T' ≠ E) (h3 : E' ≠ T) (h4 : E' ≠ E) : PAt T' E' w' g' v' p' := by
  refine ⟨hk.blk ho.blk ?_, own_keep h hk ho.row h3 h4, ho.tries⟩
  rintro (rfl | e)
  · exact h.blk.ne ho.blk (Ne.symm h1) rfl
  · obtain ⟨cs', hb'⟩ := own_typed h.row _ e
    exact hb'.ne ho.blk (Ne.symm h2) rfl

theorem send_one (B : Nat) (w0 : World) (hB : B ≤ w0.heap.size) (g : Nat) (v : Value) (p : PaceS) (now n : Int) (w : World) (hp : One P0 E0 B w0 w g v p) (hl : p.l.length ≤ 64) :
    Calls Try.prog 12 #[.pointer (some ⟨g, 0, none⟩), .int .i64 now, .int .i64 n] w fun e w' => e = .returned (.bool (p.send now n).isSome) ∧ ∃ v', One P0 E0 B w0 w' g v' ((p.send now n).getD p) ∧ Kept (fun k => k = g ∨ v.ownBlock = some k) w w' :=
  (send_any g v p now n w hp.pt hl).mono fun _ _ ⟨_, v', he, hp', h1, h2, h3⟩ => ⟨he, v', hp.next (hp.size hB) (hp' ▸ h1) h2 h3, h2⟩
theorem due_one (B : Nat) (w0 : World) (hB : B ≤ w0.heap.size) (g : Nat) (v : Value) (p : PaceS) (now : Int) (w : World) (hp : One P0 E0 B w0 w g v p) (hl : p.l.length ≤ 64) :
    Calls Try.prog 15 #[.pointer (some ⟨g, 0, none⟩), .int .i64 now] w fun e w' => ∃ A c, e = .returned (.slice A (p.due now).2.length c) ∧ w'.ownsRow B 3 1 (.slice A (p.due now).2.length c) (p.due now).2.length (fl ic (p.due now).2) ∧ One P0 E0 B w0 w' g v (p.due now).1 ∧ Kept (fun k => k = g ∨ v.ownBlock = some k) w w' := by
  have fin : ∀ e w', DuePost g v p now w e w' → ∃ A c, e = .returned (.slice A (p.due now).2.length c) ∧ w'.ownsRow B 3 1 (.slice A (p.due now).2.length c) (p.due now).2.length (fl ic (p.due now).2) ∧ One P0 E0 B w0 w' g v (p.due now).1 ∧ Kept (fun k => k = g ∨ v.ownBlock = some k) w w' := by
    rintro e w' ⟨vo, rfl, h1, h2, h3⟩
    obtain ⟨A, c, rfl, -⟩ := own_form0 h1
    exact ⟨A, c, rfl, own_weaken h1 (hp.size hB), hp.next (hp.size hB) h2 h3 (fun k e => .inl e), h3⟩
  cases h : p.may now
  · exact (due_no g v p now w hp.pt h).mono fin
  · exact (due_yes g v p now w hp.pt h hl).mono fin
theorem told_one (B : Nat) (w0 : World) (hB : B ≤ w0.heap.size) (g : Nat) (v : Value) (p : PaceS) (n : Int) (w : World) (hp : One P0 E0 B w0 w g v p) :
    Calls Try.prog 17 #[.pointer (some ⟨g, 0, none⟩), .int .i64 n] w fun e w' => e = .returned (.bool (p.told n).2) ∧ ∃ v', One P0 E0 B w0 w' g v' (p.told n).1 ∧ Kept (fun k => k = g ∨ v.ownBlock = some k) w w' :=
  (told_any g v p n w hp.pt).mono fun _ _ ⟨v', he, h1, h2, h3⟩ => ⟨he, v', hp.next (hp.size hB) h1 h2 h3, h2⟩
theorem fresh_one (v : Value) (l : List Int) (n : Int) (w : World) (hv : Rd icv w v l) (hw : Ints l) (hl : l.length ≤ 1000000) (hn : -9223372036854775808 ≤ n ∧ n ≤ 9223372036854775807) :
    Calls Try.prog 22 #[v, .int .i64 n] w fun e w' => ∃ A c, e = .returned (.tuple #[.slice A (fresh l n).1.length c, .bool (fresh l n).2]) ∧ Rd icv w' (.slice A (fresh l n).1.length c) (fresh l n).1 ∧ Below w.heap.size w w' :=
  (fresh_any v l n w hv hw hl hn).mono fun _ _ ⟨v', he, h1, h2⟩ => by
    obtain ⟨A, c, rfl, -⟩ := rd_form h1
    exact ⟨A, c, he, h1, h2⟩

set_option maxRecDepth 100000 in
set_option maxHeartbeats 2000000 in
theorem told_law (w : World) : Calls Try.prog 11 #[] w fun e w' => e = .returned (.bool true) ∧ Below w.heap.size w w' := by
  have o1 : One P0 E0 w.heap.size w (w.alloc (.cells #[.int .i64 10, .int .i64 0, .slice none 0 0] P0)) w.heap.size (.slice none 0 0) ⟨10, 0, []⟩ := One.new (Below.refl _ _) 10
  replace o1 := Lib.hid o1
  have hB : w.heap.size ≤ w.heap.size := Nat.le_refl _
  go_enter Try.func11, Try.ntmps11
  go_wp2_with (go_at_call 9; refine (new_yes 10 _ (by omega) (by omega)).mono ?_; rintro e w1 ⟨rfl, rfl⟩)
  refine (send_one w.heap.size w hB w.heap.size _ ⟨10, 0, []⟩ 10 1 _ o1.out (by simp)).mono ?_
  rintro e w2 ⟨rfl, v2, o2, -⟩
  have o2 : Hid (One P0 E0 w.heap.size w w2 w.heap.size v2 ⟨10, 1, [⟨1, 10, 1⟩]⟩) := o2
  rw [show (PaceS.send ⟨10, 0, []⟩ 10 1).isSome = true from by decide +kernel]
  go_wp2_with fail
  refine (due_one w.heap.size w hB w.heap.size _ ⟨10, 1, [⟨1, 10, 1⟩]⟩ 13 _ o2.out (by simp)).mono ?_
  rw [show PaceS.due ⟨10, 1, [⟨1, 10, 1⟩]⟩ 13 = (⟨13, 1, [⟨1, 10, 1⟩]⟩, []) from by decide +kernel]
  rintro e w3 ⟨A3, c3, rfl, r3, o3, -⟩
  replace o3 := Lib.hid o3
  replace r3 := Lib.hid r3
  clear o2
  go_wp2_with fail
  refine (due_one w.heap.size w hB w.heap.size _ ⟨13, 1, [⟨1, 10, 1⟩]⟩ 14 _ o3.out (by simp)).mono ?_
  rw [show PaceS.due ⟨13, 1, [⟨1, 10, 1⟩]⟩ 14 = (⟨14, 1, [⟨1, 14, 2⟩]⟩, [1]) from by decide +kernel]
  rintro e w4 ⟨A4, c4, rfl, r4, o4, -⟩
  replace o4 := Lib.hid o4
  replace r4 := Lib.hid r4
  clear o3
  go_wp2_with fail
  refine (told_one w.heap.size w hB w.heap.size _ ⟨14, 1, [⟨1, 14, 2⟩]⟩ 1 _ o4.out).mono ?_
  rw [show PaceS.told ⟨14, 1, [⟨1, 14, 2⟩]⟩ 1 = (⟨14, 1, []⟩, true) from by decide +kernel]
  rintro e w5 ⟨rfl, v5, o5, k5⟩
  have r5 := Lib.hid (own_keep o4.out.pt k5 r4.out (by decide) (by decide))
  replace o5 := Lib.hid o5
  clear o4 k5 r4
  go_wp2_with fail
  refine (told_one w.heap.size w hB w.heap.size _ ⟨14, 1, []⟩ 1 _ o5.out).mono ?_
  rw [show PaceS.told ⟨14, 1, []⟩ 1 = (⟨14, 1, []⟩, false) from by decide +kernel]
  rintro e w6 ⟨rfl, v6, o6, k6⟩
  have r6 := Lib.hid (own_keep o5.out.pt k6 r5.out (by decide) (by decide))
  replace o6 := Lib.hid o6
  clear o5 k6 r5
  go_wp2_with fail
  refine (fresh_one _ [3] 5 _ (Rd.of_own (own_lit icv_len w6 0 (Nat.zero_le _) 3 #[.int .i64 3] [3] rfl (by simp))) (by intro x hx; simp at hx; omega) (by simp) (by omega)).mono ?_
  rw [show fresh [3] 5 = ([3, 5], true) from by decide +kernel]
  rintro e w7 ⟨A7, c7, rfl, d7, b7⟩
  have o7 := Lib.hid ((o6.out.keep o6.out.below.size ((Below.refl _ _).alloc (Nat.le_refl _) (.cells #[.int .i64 3] 3))).keep (by have := o6.out.below.size; simp; omega) b7)
  have r7 := Lib.hid (Kept.own (Kept.of_below (S := fun _ => False) b7) (r6.out.alloc (.cells #[.int .i64 3] 3)) (fun _ _ h => h))
  replace d7 := Lib.hid d7
  clear o6 r6 b7
  go_wp2_with fail
  refine (fresh_one _ [3, 5] 4 _ d7.out (by intro x hx; simp at hx; omega) (by simp) (by omega)).mono ?_
  rw [show fresh [3, 5] 4 = ([5], true) from by decide +kernel]
  rintro e w8 ⟨A8, c8, rfl, d8, b8⟩
  have o8 := Lib.hid (o7.out.keep o7.out.below.size b8)
  have r8 := Lib.hid (Kept.own (Kept.of_below (S := fun _ => False) b8) r7.out (fun _ _ h => h))
  replace d8 := Lib.hid d8
  clear o7 r7 b8
  go_wp2_with fail
  refine (fresh_one (.slice none 0 0) [] 2 _ (Rd.nil _ _) (by intro x hx; simp at hx) (by simp) (by omega)).mono ?_
  rw [show fresh [] 2 = ([0, 2], true) from by decide +kernel]
  rintro e w9 ⟨A9, c9, rfl, d9, b9⟩
  have o9 := o8.out.keep o8.out.below.size b9
  have r9 := Rd.of_own (Kept.own (Kept.of_below (S := fun _ => False) b9) r8.out (fun _ _ h => h))
  have d8' := d8.out.below b9
  obtain ⟨ad1, rfl, x1⟩ := rd_int (l := [1]) r9 0 (by simp)
  obtain ⟨ad2, rfl, x2⟩ := rd_int (l := [5]) d8' 0 (by simp)
  obtain ⟨ad3, rfl, x3⟩ := rd_int (l := [0, 2]) d9 0 (by simp)
  rw [add_0] at x1 x2 x3
  have hfin := o9.below
  replace hfin := Lib.hid hfin
  clear o8 o9 r8 r9 d8 d8' d9 b9 d7 r3
  simp only [List.length_cons, List.length_nil, List.getElem_cons_zero] at x1 x2 x3 ⊢
  go_wp2_with fail
  refine (wait_any 1 _ (by omega)).mono ?_
  rintro e w10 ⟨rfl, rfl⟩
  rw [show wait 1 = 4 from by decide +kernel]
  go_wp2_with fail
  refine (wait_any 0 _ (by omega)).mono ?_
  rintro e w10 ⟨rfl, rfl⟩
  rw [show wait 0 = 0 from by decide +kernel]
  go_wp2_with first
    | (go_at_call 9; refine (new_no (-1) _ (by omega)).mono ?_; rintro e w1 ⟨rfl, rfl⟩)
    | (go_at_call 12; refine (send_nil 1 1 _).mono ?_; rintro e w1 ⟨rfl, rfl⟩)
    | (go_at_call 19; refine (len_nil _).mono ?_; rintro e w1 ⟨rfl, rfl⟩)
  go_ret
  exact ⟨rfl, hfin.out⟩

end Go.Proofs.Ytglmdoghknpgkaa
