/- slices.IndexFunc at pace.sent. -/
import Derived.Test.YtglmdoghknpgkaaBase
import Derived.Test.YtglmdoghknpgkaaRows
namespace Go.Proofs.Ytglmdoghknpgkaa.IdxSent
set_option linter.unusedVariables false
set_option linter.unusedSimpArgs false
open Go.RowKit

structure Post {α : Type} (p : α → Bool) (l : List α) (w : World) (e : Ending) (w' : World) : Prop where
  e : e = .returned (.int .i64 (idxOf p l))
  below : Below w.heap.size w w'

theorem index {α : Type} {enc : α → List Value} (hs : ∀ x, (enc x).length = 3) (K : Nat) (caps : Array Value) (p : α → Bool) (v : Value) (l : List α) (w : World) (hv : Rd enc w v l) (hcf : ∀ args w, (callFunc K args).run Try.prog w = .ok (.enter K args) w)
    (hp : ∀ x ∈ l, ∀ w', Below w.heap.size w w' → Calls Try.prog K (#[.agg (enc x).toArray] ++ caps) w' fun e w'' => e = .returned (.bool (p x)) ∧ Below w'.heap.size w' w'') :
    Calls Try.prog 25 #[v, .func (.func K) #[] caps] w (Post p l w) := by
  obtain ⟨A, cap, rfl, hlc, hcm, hn, hc⟩ := hv
  have hfin : ∀ k w', k ≤ l.length → (∀ j (h : j < l.length), j < k → p l[j] = false) → Below w.heap.size w w' → (k = l.length → Post p l w (.returned (.int .i64 (-1))) w') ∧ (∀ h : k < l.length, p l[k] = true → Post p l w (.returned (.int .i64 k)) w') :=
    fun k w' hk hj hb => ⟨fun h => ⟨by rw [idxOf_none (fun j hjl => hj j hjl (by omega))], hb⟩, fun h hp => ⟨by rw [idxOf_some h hp (fun j hjk => hj j (by omega) hjk)], hb⟩⟩
  replace hfin := Lib.hid hfin
  replace hp := Lib.hid hp
  replace hc := Lib.hid hc
  replace hn := Lib.hid hn
  go_enter Try.func25, Try.ntmps25
  go_wp2
  go_loopw [5, 8] (fun _ c wr => ∃ k : Nat, k ≤ l.length ∧ c = .int .i64 k ∧ Below w.heap.size w wr ∧ Hid (∀ j (h : j < l.length), j < k → p l[j] = false)) (fun _ c _ => l.length - (intOf c).toNat)
  case atStart => exact ⟨0, Nat.zero_le _, rfl, Below.refl _ _, fun j _ h => absurd h (Nat.not_lt_zero _)⟩
  case round =>
    obtain ⟨k, hk, rfl, hb, hj⟩ := hrel
    by_cases hlt : k < l.length
    · obtain ⟨ad, rfl⟩ : ∃ ad, A = some ad := by
        cases A with
        | none => have := (hn.out rfl).1; rw [this] at hlt; exact absurd hlt (Nat.not_lt_zero _)
        | some ad => exact ⟨ad, rfl⟩
      have hx : enc l[k] = [(enc l[k]).getD 0 undef, (enc l[k]).getD 1 undef, (enc l[k]).getD 2 undef] := lit3 (hs _)
      have hcl : ∀ j u, (fl enc l)[j]? = some u → wr.cell? (ad.add j) = some u := fun j u hu => by
        have := hc.out ad rfl j u hu
        rw [hb.cell (World.block_lt_of_cell? w _ this)]; exact this
      have e0 := elem_c0 hs hcl k hlt ((enc l[k]).getD 0 undef) (by rw [hx]; rfl)
      have e0' := elem_cS hs hcl k hlt 0 ((enc l[k]).getD (0 + 1) undef) (by rw [hx]; rfl)
      have e1' := elem_cS hs hcl k hlt 1 ((enc l[k]).getD (1 + 1) undef) (by rw [hx]; rfl)
      simp only [Nat.zero_add, Nat.reduceAdd] at e0' e1'
      have hp1 := hp.out l[k] (List.getElem_mem hlt) wr hb
      rw [hx] at hp1
      have hf : ∀ w', p l[k] = true → Below wr.heap.size wr w' → Post p l w (.returned (.int .i64 k)) w' := fun w' h h' => (hfin.out k w' hk hj (hb.trans (h'.mono hb.size))).2 hlt h
      have hj2 : p l[k] = false → Hid (∀ j (h : j < l.length), j < k + 1 → p l[j] = false) := fun h j hjl hjk => by
        rcases Nat.lt_or_ge j k with h1 | h1
        · exact hj j hjl h1
        · obtain rfl : j = k := by omega
          exact h
      replace hf := Lib.hid hf
      replace hj2 := Lib.hid hj2
      clear hcl hx
      generalize l[k] = x at *
      generalize (enc x).getD 0 undef = c0 at *
      generalize (enc x).getD 1 undef = c1 at *
      generalize (enc x).getD 2 undef = c2 at *
      cases hpx : p x
      · rw [hpx] at hp1
        replace hp1 := Lib.hid hp1
        replace hpx := Lib.hid hpx
        go_wp2_with (with_reducible refine hp1.out.mono ?_; rintro e w1 ⟨rfl, hb1⟩)
        go_roundw
        case rel => exact ⟨k + 1, by omega, by go_num, hb.trans (hb1.mono hb.size), hj2.out hpx.out⟩
        case measure => simp [intOf]; omega
      · rw [hpx] at hp1
        replace hp1 := Lib.hid hp1
        replace hpx := Lib.hid hpx
        go_wp2_with (with_reducible refine hp1.out.mono ?_; rintro e w1 ⟨rfl, hb1⟩)
        have hf2 := hf.out w1 hpx.out hb1
        replace hf2 := Lib.hid hf2
        go_ret
        exact hf2.out
    · have hf := (hfin.out k _ hk hj hb).1 (by omega)
      replace hf := Lib.hid hf
      go_wp2
      go_ret
      exact hf.out

end Go.Proofs.Ytglmdoghknpgkaa.IdxSent
