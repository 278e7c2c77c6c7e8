/- The walk of pace.Fresh. -/
import Derived.Test.YtglmdoghknpgkaaFreshW
import Derived.Deep.DeepCutAuto
import Derived.IntWalk
namespace Go.Proofs.Ytglmdoghknpgkaa
set_option linter.unusedVariables false
set_option linter.unusedSimpArgs false
open Go.RowKit

def FreshPost (l : List Int) (n : Int) (w : World) (e : Ending) (w' : World) : Prop :=
  ∃ v', e = .returned (.tuple #[v', .bool (fresh l n).2]) ∧ Rd icv w' v' (fresh l n).1 ∧ Below w.heap.size w w'

theorem base0_len (l : List Int) : 0 < (base0 l).length := by
  unfold base0; split
  · simp
  · rename_i h; exact List.length_pos_iff.2 h

theorem fresh_any (v : Value) (l : List Int) (n : Int) (w : World) (hv : Rd icv w v l) (hw : Ints l) (hl : l.length ≤ 1000000) (hn : -9223372036854775808 ≤ n ∧ n ≤ 9223372036854775807) :
    Calls Try.prog 22 #[v, .int .i64 n] w (FreshPost l n w) := by
  obtain ⟨A, cap, rfl, hlc, hcm⟩ := rd_form hv
  have hself : ∀ w', (fresh l n) = (l, false) → Below w.heap.size w w' → FreshPost l n w (.returned (.tuple #[.slice A l.length cap, .bool false])) w' := fun w' h hb => by
    unfold FreshPost; rw [h]; exact ⟨_, rfl, hv.below hb, hb⟩
  replace hself := Lib.hid hself
  replace hv := Lib.hid hv
  by_cases h1 : n < 1
  · have hf := hself.out w (by simp [fresh, h1]) (Below.refl _ _)
    replace hf := Lib.hid hf
    go_enter Try.func22, Try.ntmps22
    go_wp2
    go_step3
    go_wp2
    rw [Exit.noGoto_ret]
    go_ret2
    exact hf.out
  cases hr : right l
  · have hf := hself.out w (by simp [fresh, hr]) (Below.refl _ _)
    replace hf := Lib.hid hf
    have hrc := right_any _ l w hv.out hw hl
    rw [hr] at hrc
    replace hrc := Lib.hid hrc
    clear hr
    go_enter Try.func22, Try.ntmps22
    go_wp2
    go_step3
    go_wp2_with (go_at_call 28; refine hrc.out.mono ?_; rintro e w1 ⟨rfl, rfl⟩)
    rw [Exit.noGoto_ret]
    go_ret2
    exact hf.out
  obtain ⟨hsort, hpos, h64⟩ := right_sorted hr
  have hrc := right_any _ l w hv.out hw hl
  rw [hr] at hrc
  obtain ⟨m, hm⟩ : ∃ m, m = base0 l := ⟨_, rfl⟩
  have hm0 : 0 < m.length := by rw [hm]; exact base0_len l
  have hms : m.Pairwise (· < ·) ∧ (∀ x ∈ m, 0 ≤ x ∧ x ≤ 9223372036854775807) ∧ m.length ≤ 64 := by
    rw [hm]; unfold base0; split
    · exact ⟨by simp, by simp, by simp⟩
    · exact ⟨hsort, fun x hx => ⟨hpos x hx, (hw x hx).2⟩, h64⟩
  have hsrch := fun (v : Value) (w2 : World) (h : Rd icv w2 v m) => bsearch v m n w2 h hms.1 (by have := hms.2.2; omega)
  have hc0 : ∀ (A : Option Addr) (c : Nat) (w2 : World), Rd icv w2 (.slice A m.length c) m → ∃ ad, A = some ad ∧ w2.cell? ad = some (.int .i64 (m.getD 0 0)) := fun A c w2 h => by
    obtain ⟨ad, h1, h2⟩ := rd_int h 0 hm0
    rw [add_0] at h2
    exact ⟨ad, h1, by rw [h2]; simp [List.getD, List.getElem?_eq_getElem hm0]⟩
  have hclone := CloneI.clone icv_len icv_one (.slice A l.length cap) l w hv.out (by have := h64; omega)
  have hposk : pos m n ≤ m.length := List.length_filter_le _ _
  have hm64 := hms.2.2
  have hnil : ∀ (v : Value) (w1 : World), w1.ownsRow w.heap.size 3 1 v l.length (fl icv l) → Below w.heap.size w w1 → l = [] → m.length = 1 ∧ (w1.alloc (.cells #[.int .i64 0] 3)).ownsRow w.heap.size 3 1 (.slice (some ⟨w1.heap.size, 0, none⟩) 1 1) m.length (fl icv m) ∧ Below w.heap.size w (w1.alloc (.cells #[.int .i64 0] 3)) := by
    intro v w1 h1 h2 h3
    have hm' : m = [0] := by rw [hm, h3]; rfl
    rw [hm']
    exact ⟨rfl, own_lit icv_len w1 _ h2.size _ _ [0] rfl (by simp), h2.alloc h2.size _⟩
  have hful : ∀ (v : Value) (w1 : World), w1.ownsRow w.heap.size 3 1 v l.length (fl icv l) → l ≠ [] → w1.ownsRow w.heap.size 3 1 v m.length (fl icv m) := by
    intro v w1 h1 h3
    have hm' : m = l := by rw [hm]; simp [base0, h3]
    rw [hm']; exact h1
  have hlm : l = [] ∨ l ≠ [] ∧ ¬ (l.length : Int) = 0 := by
    rcases Classical.em (l = []) with h | h
    · exact .inl h
    · exact .inr ⟨h, by have := List.length_pos_iff.2 h; omega⟩
  have hin : decide (n ∈ m) = decide (n ∈ m) := rfl
  obtain ⟨m0, hm00⟩ : ∃ x, x = m.getD 0 0 := ⟨_, rfl⟩
  simp only [← hm00] at hc0
  replace hrc := Lib.hid hrc
  replace hsrch := Lib.hid hsrch
  replace hc0 := Lib.hid hc0
  replace hclone := Lib.hid hclone
  replace hnil := Lib.hid hnil
  replace hful := Lib.hid hful
  replace hms := Lib.hid hms
  have hres : (n ∈ m ∨ n ≤ m.getD 0 0 → fresh l n = (l, false)) ∧ (¬ (n ∈ m ∨ n ≤ m.getD 0 0) → fresh l n = if 64 < (together (m.take (pos m n) ++ n :: m.drop (pos m n))).length then (l, false) else (together (m.take (pos m n) ++ n :: m.drop (pos m n)), true)) := by
    have e : fresh l n = (if n ∈ base0 l ∨ n ≤ (base0 l).getD 0 0 then (l, false) else let r := together ((base0 l).take (pos (base0 l) n) ++ n :: (base0 l).drop (pos (base0 l) n)); if 64 < r.length then (l, false) else (r, true)) := by
      unfold fresh; rw [if_neg (by rintro (h | h); exact h1 h; rw [hr] at h; cases h)]
    rw [hm, e]
    exact ⟨fun h => by rw [if_pos h], fun h => by rw [if_neg h]⟩
  obtain ⟨r0, hr0⟩ : ∃ r0, r0 = m.take (pos m n) ++ n :: m.drop (pos m n) := ⟨_, rfl⟩
  rw [← hr0, ← hm00] at hres
  replace hres := Lib.hid hres
  clear hr hsort hpos hw hm hin hm00
  go_enter Try.func22, Try.ntmps22
  go_wp2
  refine wp_scope_label 0 (fun a' w' => ∃ v : Value, (∃ u : Nat → Value, a' = { tmps := #[.slice A l.length cap, .int .i64 n, u 2, u 3, u 4, u 5, v, u 7, u 8, u 9, u 10, u 11, u 12, u 13, u 14, u 15, u 16, u 17, u 18, u 19, u 20, u 21, u 22, u 23, u 24, u 25, u 26, u 27, u 28, u 29, u 30, u 31, u 32, u 33, u 34, u 35, u 36, u 37, u 38, u 39, u 40, u 41, u 42, u 43, u 44, u 45, u 46, u 47, u 48, u 49, u 50, u 51, u 52, u 53, u 54, u 55, u 56, u 57, u 58, u 59, u 60, u 61, u 62], defers := [] }) ∧ ∃ (B : Option Addr) (c : Nat) (r : List Int), v = .slice B r.length c ∧ Rd icv w' v r ∧ together r = together r0 ∧ (∀ x ∈ r, 0 ≤ x ∧ x ≤ 9223372036854775807) ∧ r.length ≤ 65 ∧ Below w.heap.size w w' ∧ ¬ (n ∈ m ∨ n ≤ m0))
    (fun a' _ => match a'.tmps.getD 6 undef with | .slice _ k _ => k | _ => 0) rfl ?_ ?_
  · intro PASS
    replace PASS := Lib.hid PASS
    go_upto_if 21 with first
      | (go_at_call 28; refine hrc.out.mono ?_; rintro e w1 ⟨rfl, rfl⟩)
      | (go_at_call 29; refine hclone.out.mono ?_; rintro e w1 ⟨v1, rfl, hrow1, hb1⟩; obtain ⟨A1, c1, rfl, -⟩ := own_form0 hrow1)
    go_cut [6] (fun v2 w2 => ∃ B c, v2 = .slice B m.length c ∧ w2.ownsRow w.heap.size 3 1 v2 m.length (fl icv m) ∧ Below w.heap.size w w2)
    case first =>
      rcases hlm with h | ⟨h, h'⟩
      · obtain ⟨q1, q2, q3⟩ := hnil.out _ _ hrow1 hb1 h
        have hz : ((l.length : Int) == 0) = true := by rw [h]; rfl
        replace h := Lib.hid h
        replace q1 := Lib.hid q1
        replace q2 := Lib.hid q2
        go_wp2
        go_meet
        exact ⟨_, 1, by rw [q1.out], q2.out, q3⟩
      · have q2 := hful.out _ _ hrow1 h
        have q1 : m.length = l.length := by
          obtain ⟨A', c', hv, -⟩ := own_form0 q2
          injection hv with _ h2; exact h2.symm
        have hz : ((l.length : Int) == 0) = false := by simpa using h'
        replace h := Lib.hid h
        replace q1 := Lib.hid q1
        replace q2 := Lib.hid q2
        go_wp2
        go_meet
        exact ⟨_, c1, by rw [q1.out], q2.out, hb1⟩
    case rest =>
      obtain ⟨B, c, rfl, hrow2, hb2⟩ := hcut
      have hrd2 := Rd.of_own hrow2
      obtain ⟨ad, rfl, hcell⟩ := hc0.out _ _ _ hrd2
      by_cases hout : n ∈ m ∨ n ≤ m0
      · have hf := hself.out wc (hres.out.1 hout) hb2
        replace hf := Lib.hid hf
        rcases hout with hin | hle
        · have hin' : decide (n ∈ m) = true := by simpa using hin
          replace hin := Lib.hid hin
          have hbs := hsrch.out _ _ hrd2
          unfold BsPost at hbs
          rw [hin'] at hbs
          replace hbs := Lib.hid hbs
          replace hrd2 := Lib.hid hrd2
          clear hin'
          go_wp2_with (go_at_call 30; refine hbs.out.mono ?_; rintro e w3 ⟨rfl, rfl⟩)
          go_ret2
          exact hf.out
        · cases hin' : decide (n ∈ m)
          all_goals
            have hbs := hsrch.out _ _ hrd2
            unfold BsPost at hbs
            rw [hin'] at hbs
            replace hbs := Lib.hid hbs
            replace hrd2 := Lib.hid hrd2
            replace hin' := Lib.hid hin'
            go_wp2_with (go_at_call 30; refine hbs.out.mono ?_; rintro e w3 ⟨rfl, rfl⟩)
            go_ret2
            exact hf.out
      · have hnin : decide (n ∈ m) = false := by simp; exact fun h => hout (.inl h)
        have hnle : ¬ n ≤ m0 := fun h => hout (.inr h)
        have hbs := hsrch.out _ _ hrd2
        unfold BsPost at hbs
        rw [hnin] at hbs
        have hins := InsI.ins icv_len icv_one w.heap.size (.slice (some ad) m.length c) m (pos m n) hposk n wc.heap.size (wc.alloc (.cells #[.int .i64 n] 3)) (by have := hb2.size; simp; omega) (hrow2.alloc _) (Blk.new wc #[.int .i64 n] 3) (fun e => by have := (hrow2.lt _ e).2; omega) (by omega)
        have hlen1 : r0.length ≤ 65 := by rw [hr0]; simp; omega
        have hall : ∀ x ∈ r0, 0 ≤ x ∧ x ≤ 9223372036854775807 := by
          rw [hr0]
          intro x hx
          rcases List.mem_append.1 hx with hx | hx
          · exact hms.out.2.1 x (List.mem_of_mem_take hx)
          · rcases List.mem_cons.1 hx with rfl | hx
            · omega
            · exact hms.out.2.1 x (List.mem_of_mem_drop hx)
        have hbel : ∀ w3, (wc.alloc (.cells #[.int .i64 n] 3)).grownBy w3 (Value.slice (some ad) m.length c).ownBlock → Below w.heap.size w w3 := fun w3 hg =>
          (hb2.alloc hb2.size _).grown hg (by have := hb2.size; simp; omega) (fun k e => (hrow2.lt k e).1)
        replace hr0 := Lib.hid hr0
        replace hbs := Lib.hid hbs
        replace hrd2 := Lib.hid hrd2
        replace hins := Lib.hid hins
        replace hall := Lib.hid hall
        replace hbel := Lib.hid hbel
        replace hout := Lib.hid hout
        replace hnin := Lib.hid hnin
        go_wp2_with first
          | (go_at_call 30; refine hbs.out.mono ?_; rintro e w3 ⟨rfl, rfl⟩)
          | (go_at_call 31; refine hins.out.mono ?_; rintro e w3 ⟨⟨v3, rfl, hrow3, -⟩, hg3⟩; rw [← hr0.out] at hrow3; have hrd3 := Rd.of_own hrow3; obtain ⟨A3, c3, rfl, -⟩ := own_form0 hrow3; have hb3 := hbel.out _ hg3; replace hrd3 := Lib.hid hrd3; clear hrow3 hg3)
        go_step3
        refine ‹∀ (a : Act) (w : World), Code.wp _ _ _ a w → _› _ _ ?_
        refine PASS.out _ _ ?_
        exact ⟨.slice A3 r0.length c3, uof rfl, A3, c3, _, rfl, hrd3.out, rfl, hall.out, hlen1, hb3, hout.out⟩
  · rintro a' wr ⟨v, ⟨u, rfl⟩, B, c, r, rfl, hrd, htog, hall, hlen, hb, hout⟩
    obtain ⟨_, _, hvr, hc1, hc2⟩ := rd_form hrd
    cases hvr
    have hat := fun j hj => rd_int hrd j hj
    have hres2 := hres.out.2 hout
    rw [← htog] at hres2
    replace hrd := Lib.hid hrd
    have hbn : ∀ nq, Below w.heap.size w (wr.drewN nq) := fun nq => ⟨hb.os, hb.tape, hb.output, hb.size, hb.block⟩
    have hlast : together1 r = false → (r.length ≤ 64 → ∀ nq, FreshPost l n w (.returned (.tuple #[.slice B r.length c, .bool true])) (wr.drewN nq)) ∧ (64 < r.length → ∀ nq, FreshPost l n w (.returned (.tuple #[.slice A l.length cap, .bool false])) (wr.drewN nq)) := fun ht => by
      rw [together_no ht] at hres2
      refine ⟨fun h nq => ?_, fun h nq => hself.out (wr.drewN nq) (by rw [hres2, if_pos h]) (hbn nq)⟩
      unfold FreshPost; rw [hres2, if_neg (by omega)]; exact ⟨_, rfl, hrd.out.drewN nq, hbn nq⟩
    replace hbn := Lib.hid hbn
    replace hlast := Lib.hid hlast
    replace hat := Lib.hid hat
    clear hres2
    by_cases h1r : 1 < r.length
    · obtain ⟨ad, rfl, hx1⟩ := hat.out 1 h1r
      obtain ⟨ad', had, hx0⟩ := hat.out 0 (by omega)
      obtain rfl : ad = ad' := by injection had
      rw [add_0] at hx0
      have hx1' : wr.cell? ⟨ad.block, ad.off + 1, none⟩ = _ := hx1
      have b1 := hall _ (List.getElem_mem h1r)
      have b0 := hall _ (List.getElem_mem (show 0 < r.length by omega))
      have ht1 : together1 r = (r[1] - 1 == r[0]) := by
        simp [together1, h1r, List.getD, List.getElem?_eq_getElem (show 0 < r.length by omega)]
        rw [Bool.eq_iff_iff]; simp
      replace hall := Lib.hid hall
      clear had
      cases ht : (r[1] - 1 == r[0])
      · rw [ht] at ht1
        obtain ⟨q1, q2⟩ := hlast.out ht1
        clear ht1
        generalize r[1] = x1 at *
        generalize r[0] = x0 at *
        have hwr : IntKind.i64.wrap (x1 - 1) = x1 - 1 := IntWalk.i64_in _ (by omega)
        have hgt : decide ((1 : Int) < (r.length : Int)) = true := by simp; omega
        have g1 : (1 : Int) < (r.length : Int) := by omega
        have g0 : (0 : Int) < (r.length : Int) := by omega
        have g2 : 0 < r.length := by omega
        by_cases h65 : 64 < r.length
        · have hf := q2 h65
          replace hf := Lib.hid hf
          clear q1 q2
          go_wp2
          go_quiet (fail)
          clear hwr
          go_wp2
          go_ret2
          exact hf.out _
        · have hf := q1 (by omega)
          replace hf := Lib.hid hf
          clear q1 q2
          go_wp2
          go_quiet (fail)
          clear hwr
          go_wp2
          go_ret2
          exact hf.out _
      · rw [ht] at ht1
        have hty := together_yes ht1
        rw [htog] at hty
        have hrd1 : ∀ nq, Rd icv (wr.drewN nq) (.slice (some ⟨ad.block, ad.off + 1, none⟩) (r.length - 1) (c - 1)) (r.drop 1) := fun nq => by
          have := (hrd.out.drewN nq).drop icv_len 1 (by omega)
          rw [if_neg (by omega)] at this
          exact this
        have hall1 : ∀ x ∈ r.drop 1, 0 ≤ x ∧ x ≤ 9223372036854775807 := fun x hx => hall.out x (List.mem_of_mem_drop hx)
        have hlen1 : (r.drop 1).length = r.length - 1 := List.length_drop
        generalize r.drop 1 = r1 at *
        replace hlen1 := Lib.hid hlen1
        replace hty := Lib.hid hty
        replace htog := Lib.hid htog
        replace hrd1 := Lib.hid hrd1
        replace hall1 := Lib.hid hall1
        clear ht1
        generalize r[1] = x1 at *
        generalize r[0] = x0 at *
        have hwr : IntKind.i64.wrap (x1 - 1) = x1 - 1 := IntWalk.i64_in _ (by omega)
        have hgt : decide ((1 : Int) < (r.length : Int)) = true := by simp; omega
        have g1 : (1 : Int) < (r.length : Int) := by omega
        have g0 : (0 : Int) < (r.length : Int) := by omega
        have g2 : 0 < r.length := by omega
        have g3 : ¬ c = 1 := by omega
        go_wp2
        go_quiet (fail)
        clear hwr
        go_wp2
        go_step3
        refine ⟨rfl, ⟨_, uof rfl, some ⟨ad.block, ad.off + 1, none⟩, c - 1, r1, by rw [hlen1.out], hrd1.out _, hty.out.symm, hall1.out, by rw [hlen1.out]; omega, hbn.out _, hout⟩, ?_⟩
        show r.length - 1 < r.length
        omega
    · have hgt : decide ((1 : Int) < (r.length : Int)) = false := by simp; omega
      have ht1 : together1 r = false := by simp [together1]; omega
      have hf := (hlast.out ht1).1 (by omega)
      replace hf := Lib.hid hf
      clear ht1
      go_wp2
      go_quiet (fail)
      go_wp2
      go_ret2
      exact hf.out _

end Go.Proofs.Ytglmdoghknpgkaa
