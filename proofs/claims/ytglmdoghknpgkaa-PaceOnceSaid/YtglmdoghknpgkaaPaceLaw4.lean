/- PaceOnce: each number is new once, in whatever order they come: the walk. -/
import Derived.Test.YtglmdoghknpgkaaPaceTold
import Derived.Test.YtglmdoghknpgkaaOnceSpec
namespace Go.Proofs.Ytglmdoghknpgkaa
set_option linter.unusedVariables false
set_option linter.unusedSimpArgs false
open Go.RowKit

/-- What is known between the rounds: k, what came (a row of 31), what was seen. -/
structure OnceJ (k : Int) (came : List Bool) (l : List Int) : Prop where
  len : came.length = 31
  r : right l = true
  le : ∀ x ∈ l, x ≤ k
  same : ∀ x : Nat, 1 ≤ x → (x : Int) ≤ k → (came.getD x false = true ↔ has l x)

theorem OnceJ.old {k : Int} {came : List Bool} {l : List Int} (h : OnceJ k came l) (x : Nat) (h1 : 1 ≤ x) (hk : (x : Int) ≤ k) (hc : came.getD x false = true) : fresh l x = (l, false) := fresh_old (by omega) ((h.same x h1 hk).1 hc)
theorem OnceJ.new {k : Int} {came : List Bool} {l : List Int} (h : OnceJ k came l) (hk60 : k ≤ 30) (x : Nat) (h1 : 1 ≤ x) (hk : (x : Int) ≤ k) (hc : came.getD x false = false) :
    ∃ r, fresh l x = (r, true) ∧ right r = true ∧ (∀ y ∈ r, y ≤ k) ∧ ∀ y : Int, 1 ≤ y → (has r y ↔ has l y ∨ y = x) := by
  have : ¬ has l x := fun hh => by have := (h.same x h1 hk).2 hh; rw [hc] at this; cases this
  exact fresh_new h.r (by omega) h.le hk (by omega) this
theorem OnceJ.len64 {k : Int} {came : List Bool} {l : List Int} (h : OnceJ k came l) : l.length ≤ 64 := (right_sorted h.r).2.2
theorem OnceJ.ints {k : Int} {came : List Bool} {l : List Int} (h : OnceJ k came l) (hk : k ≤ 30) : Ints l := fun x hx => by have := (right_sorted h.r).2.1 x hx; have := h.le x hx; omega

def bl (l : List Bool) : List Value := l.map Value.bool
theorem right_nil : right [] = true := by decide
theorem bl_get (l : List Bool) (i : Nat) (h : i < l.length) : (bl l)[i]? = some (.bool (l.getD i false)) := by simp [bl, List.getD, List.getElem?_eq_getElem h]
theorem bl_set (l : List Bool) (i : Nat) (b : Bool) : (bl l).set i (.bool b) = bl (l.set i b) := by simp [bl, List.map_set]

theorem OnceJ.next {k : Int} {came : List Bool} {l r : List Int} (h : OnceJ k came l) (x : Nat) (h31 : x < 31) (hr : right r = true) (hle : ∀ y ∈ r, y ≤ k) (hh : ∀ y : Int, 1 ≤ y → (has r y ↔ has l y ∨ y = x)) : OnceJ k (came.set x true) r := by
  refine ⟨by rw [List.length_set]; exact h.len, hr, hle, fun y h1 hk => ?_⟩
  rw [hh y (by omega), ← h.same y h1 hk]
  have hl := h.len
  by_cases he : x = y
  · subst he; simp [List.getD, List.getElem?_set, hl, h31]
  · have : ¬ (y : Int) = x := by omega
    simp [List.getD, List.getElem?_set, he, this]
theorem OnceJ.same_ {k : Int} {came : List Bool} {l : List Int} (h : OnceJ k came l) (x : Nat) (h31 : x < 31) (h1 : 1 ≤ x) (hk : (x : Int) ≤ k) (hc : came.getD x false = true) : OnceJ k (came.set x true) l :=
  h.next x h31 h.r h.le (fun y _ => ⟨.inl, fun h' => by rcases h' with h' | rfl; exact h'; exact (h.same x h1 hk).1 hc⟩)

theorem Rd.bools {w : World} {v : Value} {l : List Int} (h : Rd icv w v l) {b : Nat} {cs : List Bool} {t : TypeId} (hb : Blk w b (bl cs) t) (i : Nat) (u : Value) : Rd icv (w.setCell ⟨b, i, none⟩ u) v l := by
  obtain ⟨A, cap, hv, hl, hm, hn, hc⟩ := h
  refine ⟨A, cap, hv, hl, hm, hn, fun ad ha j x hx => ?_⟩
  have h1 := hc ad ha j x hx
  have hj := (List.getElem?_eq_some_iff.1 hx).1
  rw [fl_length icv_len, Nat.mul_one] at hj
  rw [fl_icv l j hj] at hx
  injection hx with hx
  by_cases he : (ad.add j).block = b
  · exfalso
    have : ∃ k : Nat, (bl cs)[k]? = some x := by
      unfold Blk at hb
      unfold World.cell? at h1
      rw [he, hb] at h1
      revert h1
      simp
      intros; exact ⟨_, by assumption⟩
    obtain ⟨k, hk⟩ := this
    simp [bl] at hk
    rcases hk with ⟨_, rfl⟩ | ⟨_, rfl⟩ <;> cases hx
  · rw [World.cell?_of_block (w := w) (Below.heap_setCell _ _ _ _ he)]; exact h1

theorem OnceJ.zero (k : Int) : OnceJ k (List.replicate 31 false) [] := by
  refine ⟨by simp, right_nil, by simp, fun x h1 hk => ?_⟩
  have e : (List.replicate 31 false).getD x false = false := by
    rw [List.getD_eq_getElem?_getD, List.getElem?_replicate]
    split <;> rfl
  rw [e]
  constructor
  · intro h; cases h
  · rintro (h | h)
    · simp at h; omega
    · cases h

structure OnceK (k : Int) (came : List Bool) (l : List Int) (j : Nat) : Prop where
  len : came.length = 31
  r : right l = true
  le : ∀ x ∈ l, x ≤ k
  same : ∀ x : Nat, 1 ≤ x → (x : Int) ≤ k → (has l x ↔ came.getD x false = true ∨ x ≤ j)
theorem OnceK.start {k : Int} {came : List Bool} {l : List Int} (h : OnceJ k came l) : OnceK k came l 0 :=
  ⟨h.len, h.r, h.le, fun x h1 hk => by rw [← h.same x h1 hk]; constructor; exact .inl; rintro (h | h); exact h; omega⟩
theorem OnceK.old {k : Int} {came : List Bool} {l : List Int} {j : Nat} (h : OnceK k came l j) (hk : ((j + 1 : Nat) : Int) ≤ k) (hc : came.getD (j + 1) false = true) : fresh l ((j + 1 : Nat) : Int) = (l, false) ∧ OnceK k came l (j + 1) := by
  refine ⟨fresh_old (by omega) ((h.same (j + 1) (by omega) hk).2 (.inl hc)), h.len, h.r, h.le, fun x h1 hxk => (h.same x h1 hxk).trans ?_⟩
  constructor
  · rintro (h | h)
    · exact .inl h
    · exact .inr (by omega)
  · rintro (h | h)
    · exact .inl h
    · by_cases he : x = j + 1
      · subst he; exact .inl hc
      · exact .inr (by omega)
theorem OnceK.new {k : Int} {came : List Bool} {l : List Int} {j : Nat} (h : OnceK k came l j) (hk30 : k ≤ 30) (hk : ((j + 1 : Nat) : Int) ≤ k) (hc : came.getD (j + 1) false = false) : ∃ r, fresh l ((j + 1 : Nat) : Int) = (r, true) ∧ OnceK k came r (j + 1) := by
  have : ¬ has l ((j + 1 : Nat) : Int) := fun hh => by
    rcases (h.same (j + 1) (by omega) hk).1 hh with h | h
    · rw [hc] at h; cases h
    · omega
  obtain ⟨r, hf, hr, hle, hh⟩ := fresh_new h.r (by omega) h.le hk (by omega) this
  refine ⟨r, hf, h.len, hr, hle, fun x h1 hxk => ?_⟩
  rw [hh x (by omega), h.same x h1 hxk]
  constructor
  · rintro ((h | h) | h)
    · exact .inl h
    · exact .inr (by omega)
    · exact .inr (by omega)
  · rintro (h | h)
    · exact .inl (.inl h)
    · by_cases he : x = j + 1
      · exact .inr (by omega)
      · exact .inl (.inr (by omega))
theorem OnceK.len64 {k : Int} {came : List Bool} {l : List Int} {j : Nat} (h : OnceK k came l j) : l.length ≤ 64 := (right_sorted h.r).2.2
theorem OnceK.ints {k : Int} {came : List Bool} {l : List Int} {j : Nat} (h : OnceK k came l j) (hk : k ≤ 30) : Ints l := fun x hx => by have := (right_sorted h.r).2.1 x hx; have := h.le x hx; omega
theorem OnceK.fin {k : Int} {came : List Bool} {l : List Int} {j : Nat} (h : OnceK k came l j) (h1 : 1 ≤ k) (hj : (j : Int) = k) : l = [k] := by
  refine has_all h.r h1 h.le (fun x hx1 hxk => ?_)
  obtain ⟨y, rfl⟩ := Int.eq_ofNat_of_zero_le (show 0 ≤ x by omega)
  exact (h.same y (by omega) hxk).2 (.inr (by omega))

set_option maxRecDepth 100000 in
set_option maxHeartbeats 4000000 in
theorem once_law (n : Int) (v : Value) (o : List Int) (w : World) (hv : Rd icv w v o) : Calls Try.prog 5 #[.int .i64 n, v] w fun e w' => e = .returned (.bool true) ∧ Below w.heap.size w w' := by
  obtain ⟨A, cap, rfl, hlc, hcm⟩ := rd_form hv
  replace hv := Lib.hid hv
  have hN01 := urem n 30 (by omega)
  obtain ⟨N, hN⟩ : ∃ N : Nat, (IntKind.u64.wrap n).tmod 30 = (N : Int) := Int.eq_ofNat_of_zero_le hN01.1
  rw [hN] at hN01
  have hN1 : N < 30 := by omega
  clear hN01
  go_enter Try.func5, Try.ntmps5
  go_wp2
  go_loopw [7, 8] (fun s c wr => ∃ (j : Nat) (A' : Option Addr) (cap' : Nat) (l : List Int) (came : List Bool), s = .slice A' l.length cap' ∧ c = .int .i64 j ∧ j ≤ o.length ∧ Rd icv wr (.slice A' l.length cap') l ∧ Blk wr w.heap.size (bl came) 45 ∧ Hid (OnceJ (1 + (N : Int)) came l) ∧ Below w.heap.size w wr) (fun _ c _ => o.length - (intOf c).toNat)
  case atStart => exact ⟨0, none, 0, [], List.replicate 31 false, rfl, rfl, by omega, Rd.nil _ _, Blk.new w _ _, OnceJ.zero _, (Below.refl _ _).alloc (Nat.le_refl _) _⟩
  case round =>
    obtain ⟨j, A', cap', l, came, rfl, rfl, hj, hrd, hblk, hJ, hb⟩ := hrel
    by_cases hlt : j < o.length ∧ j < 80
    · obtain ⟨hlt, h80⟩ := hlt
      obtain ⟨ad, rfl, hx⟩ := rd_int hv.out j hlt
      have hx' : wr.cell? (ad.add j) = some (.int .i64 o[j]) := by rw [hb.cell (World.block_lt_of_cell? w _ hx)]; exact hx
      generalize o[j] = q at *
      have hJ01 := urem q (1 + (N : Int)) (by omega)
      obtain ⟨J, hJJ⟩ : ∃ J : Nat, (IntKind.u64.wrap q).tmod (1 + (N : Int)) = (J : Int) := Int.eq_ofNat_of_zero_le hJ01.1
      rw [hJJ] at hJ01
      have hJ1 : J < 1 + N := by omega
      have z1 : (j : Int) < 80 := by omega
      have z2 : (j : Int) < (o.length : Int) := by omega
      have hcl : ∀ w2, Blk w2 w.heap.size (bl came) 45 → w2.cell? ⟨w.heap.size, 1 + J, none⟩ = some (.bool (came.getD (1 + J) false)) ∧ w2.frozen? ⟨w.heap.size, 1 + J, none⟩ = false := fun w2 h => ⟨by rw [h.cell, bl_get _ _ (by rw [hJ.out.len]; omega)], h.frozen _⟩
      have hkp : ∀ w2, Below wr.heap.size wr w2 → Blk w2 w.heap.size (bl came) 45 ∧ Below w.heap.size w w2 := fun w2 b => ⟨(Kept.of_below (S := fun _ => False) b).blk hblk (fun h => h), hb.trans (b.mono hb.size)⟩
      have hf := fresh_one _ l (1 + (J : Int)) wr hrd (hJ.out.ints (by omega)) (by have := hJ.out.len64; omega) (by omega)
      have ecast : (1 + (J : Int)) = ((1 + J : Nat) : Int) := by omega
      have hset : ∀ w2, Blk w2 w.heap.size (bl came) 45 → Blk (w2.setCell ⟨w.heap.size, 1 + J, none⟩ (.bool true)) w.heap.size (bl (came.set (1 + J) true)) 45 := fun w2 h => by rw [← bl_set]; exact h.set _ _
      replace hcl := Lib.hid hcl
      replace hkp := Lib.hid hkp
      replace hset := Lib.hid hset
      cases hc : came.getD (1 + J) false
      · obtain ⟨r, hfr, hr, hle, hh⟩ := hJ.out.new (by omega) (1 + J) (by omega) (by omega) hc
        rw [ecast, hfr, ← ecast] at hf
        have hJ2 := Lib.hid (hJ.out.next (1 + J) (by omega) hr hle hh)
        replace hf := Lib.hid hf
        replace hc := Lib.hid hc
        clear hblk hrd hx hJ01 ecast hh hfr hle hr
        go_wp2_with (go_at_call 22; refine hf.out.mono ?_; rintro e w2 ⟨A2, c2, rfl, r2, b2⟩; obtain ⟨k1, k2⟩ := hkp.out _ b2; have k3 := hcl.out _ k1; rw [hc.out] at k3; obtain ⟨k4, k5⟩ := k3; replace r2 := Lib.hid r2; clear b2)
        go_roundw
        case rel => exact ⟨j + 1, A2, c2, r, came.set (1 + J) true, rfl, by go_num, by omega, r2.out.bools k1 _ _, hset.out _ k1, hJ2, k2.setCell (Nat.le_refl _) _⟩
        case measure => simp [intOf]; omega
      · have hfr := hJ.out.old (1 + J) (by omega) (by omega) hc
        rw [ecast, hfr, ← ecast] at hf
        have hJ2 := Lib.hid (hJ.out.same_ (1 + J) (by omega) (by omega) (by omega) hc)
        replace hf := Lib.hid hf
        replace hc := Lib.hid hc
        clear hblk hrd hx hJ01 ecast hfr
        go_wp2_with (go_at_call 22; refine hf.out.mono ?_; rintro e w2 ⟨A2, c2, rfl, r2, b2⟩; obtain ⟨k1, k2⟩ := hkp.out _ b2; have k3 := hcl.out _ k1; rw [hc.out] at k3; obtain ⟨k4, k5⟩ := k3; replace r2 := Lib.hid r2; clear b2)
        go_roundw
        case rel => exact ⟨j + 1, A2, c2, l, came.set (1 + J) true, rfl, by go_num, by omega, r2.out.bools k1 _ _, hset.out _ k1, hJ2, k2.setCell (Nat.le_refl _) _⟩
        case measure => simp [intOf]; omega
    · have hend : (¬ (j : Int) < (o.length : Int)) ∨ ((j : Int) < (o.length : Int) ∧ ¬ (j : Int) < 80) := by
        by_cases h : j < o.length
        · exact .inr ⟨by omega, by omega⟩
        · exact .inl (by omega)
      clear hlt
      rcases hend with h1 | ⟨h1, h2⟩
      all_goals
        go_wp2_with fail
        have hlen31 := hJ.out.len
        have hK0 := Lib.hid (OnceK.start hJ.out)
        clear hJ
        obtain ⟨wo, rfl⟩ : ∃ wo : World, wo = wr := ⟨_, rfl⟩
        go_loopw [7, 12] (fun s c w2 => ∃ (i : Nat) (A2 : Option Addr) (c2 : Nat) (l2 : List Int), s = .slice A2 l2.length c2 ∧ c = .int .i64 ((i : Int) + 1) ∧ i ≤ N + 1 ∧ Rd icv w2 (.slice A2 l2.length c2) l2 ∧ Blk w2 w.heap.size (bl came) 45 ∧ Hid (OnceK (1 + (N : Int)) came l2 i) ∧ Below w.heap.size w w2) (fun _ c _ => 100 - (intOf c).toNat)
        case atStart => exact ⟨0, A', cap', l, rfl, rfl, by omega, hrd, hblk, hK0, hb⟩
        case round =>
          clear hrd hblk hb hK0
          obtain ⟨i, A2, c2, l2, rfl, rfl, hi, hrd, hblk, hK, hb⟩ := hrel
          by_cases hlt2 : i < N + 1
          · have z3 : (i : Int) + 1 ≤ 1 + (N : Int) := by omega
            have hf := fresh_one _ l2 ((i : Int) + 1) _ hrd (hK.out.ints (by omega)) (by have := hK.out.len64; omega) (by omega)
            have hcl : ∀ w2, Blk w2 w.heap.size (bl came) 45 → w2.cell? ⟨w.heap.size, i + 1, none⟩ = some (.bool (came.getD (i + 1) false)) := fun w2 h => by rw [h.cell, bl_get _ _ (by omega)]
            have hblk' := Lib.hid hblk
            have hb' := Lib.hid hb
            have ecast : ((i : Int) + 1) = ((i + 1 : Nat) : Int) := by omega
            replace hcl := Lib.hid hcl
            cases hc : came.getD (i + 1) false
            · obtain ⟨r, hfr, hK2⟩ := hK.out.new (by omega) (by omega) hc
              rw [ecast, hfr, ← ecast] at hf
              replace hf := Lib.hid hf
              replace hK2 := Lib.hid hK2
              replace hc := Lib.hid hc
              clear hrd hblk hb ecast hfr
              go_wp2_with (go_at_call 22; refine hf.out.mono ?_; rintro e w2 ⟨A3, c3, rfl, r2, b2⟩; have k1 := Lib.hid ((Kept.of_below (S := fun _ => False) b2).blk hblk'.out (fun h => h)); have k2 := hb'.out.trans (b2.mono hb'.out.size); have k3 := hcl.out _ k1.out; rw [hc.out] at k3; replace r2 := Lib.hid r2; clear b2)
              go_roundw
              case rel => exact ⟨i + 1, A3, c3, r, rfl, by go_num, by omega, r2.out, k1.out, hK2, k2⟩
              case measure => simp [intOf]; omega
            · obtain ⟨hfr, hK2⟩ := hK.out.old (by omega) hc
              rw [ecast, hfr, ← ecast] at hf
              replace hf := Lib.hid hf
              replace hK2 := Lib.hid hK2
              replace hc := Lib.hid hc
              clear hrd hblk hb ecast hfr
              go_wp2_with (go_at_call 22; refine hf.out.mono ?_; rintro e w2 ⟨A3, c3, rfl, r2, b2⟩; have k1 := Lib.hid ((Kept.of_below (S := fun _ => False) b2).blk hblk'.out (fun h => h)); have k2 := hb'.out.trans (b2.mono hb'.out.size); have k3 := hcl.out _ k1.out; rw [hc.out] at k3; replace r2 := Lib.hid r2; clear b2)
              go_roundw
              case rel => exact ⟨i + 1, A3, c3, l2, rfl, by go_num, by omega, r2.out, k1.out, hK2, k2⟩
              case measure => simp [intOf]; omega
          · obtain rfl : i = N + 1 := by omega
            have z3 : ¬ (((N + 1 : Nat) : Int) + 1) ≤ 1 + (N : Int) := by omega
            have hl2 := hK.out.fin (by omega) (by omega)
            subst hl2
            replace hrd := Lib.hid hrd
            replace hb := Lib.hid hb
            clear hblk hK
            go_wp2_with fail
            refine (told_law _).mono ?_
            rintro e w3 ⟨rfl, b4⟩
            have r3 := hrd.out.below b4
            have b5 := hb.out.trans (b4.mono hb.out.size)
            obtain ⟨ad, rfl, x1⟩ := rd_int (l := [1 + (N : Int)]) r3 0 (by simp)
            rw [add_0] at x1
            simp only [List.getElem_cons_zero] at x1
            replace b5 := Lib.hid b5
            clear r3 b4
            go_wp2_with fail
            go_ret
            exact ⟨rfl, b5.out⟩

end Go.Proofs.Ytglmdoghknpgkaa
