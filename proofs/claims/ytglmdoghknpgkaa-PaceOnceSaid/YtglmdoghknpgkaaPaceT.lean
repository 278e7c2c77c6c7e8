/- The walks of pace's New, Send, Told, Len. -/
import Derived.Test.YtglmdoghknpgkaaPaceDue
import Derived.Test.YtglmdoghknpgkaaIdxSent
import Derived.Test.YtglmdoghknpgkaaDelSent
namespace Go.Proofs.Ytglmdoghknpgkaa
set_option linter.unusedVariables false
set_option linter.unusedSimpArgs false
open Go.RowKit

theorem new_no (now : Int) (w : World) (h : now < 0 ∨ 1073741824 < now) : Calls Try.prog 9 #[.int .i64 now] w fun e w' => e = .returned (.pointer none) ∧ w = w' := by
  rcases h with h | h
  · go_enter Try.func9, Try.ntmps9
    go_wp2
    go_ret
    exact ⟨rfl, rfl⟩
  · have h0 : ¬ now < 0 := by omega
    go_enter Try.func9, Try.ntmps9
    go_wp2
    go_ret
    exact ⟨rfl, rfl⟩

theorem new_yes (now : Int) (w : World) (h0 : 0 ≤ now) (h1 : now ≤ 1073741824) : Calls Try.prog 9 #[.int .i64 now] w fun e w' =>
    e = .returned (.pointer (some ⟨w.heap.size, 0, none⟩)) ∧ w.alloc (.cells #[.int .i64 now, .int .i64 0, .slice none 0 0] P0) = w' := by
  go_enter Try.func9, Try.ntmps9
  go_wp2
  go_ret
  exact ⟨rfl, rfl⟩

theorem len_nil (w : World) : Calls Try.prog 19 #[.pointer none] w fun e w' => e = .returned (.int .i64 0) ∧ w = w' := by
  go_enter Try.func19, Try.ntmps19
  go_wp2
  go_ret
  exact ⟨rfl, rfl⟩

theorem len_any (g : Nat) (v : Value) (p : PaceS) (w : World) (hp : PAt P0 E0 w g v p) : Calls Try.prog 19 #[.pointer (some ⟨g, 0, none⟩)] w fun e w' => e = .returned (.int .i64 p.l.length) ∧ w = w' := by
  obtain ⟨A, cap, rfl, -⟩ := own_form0 hp.row
  have c2 : w.cell? ⟨g, 2, none⟩ = some (.slice A p.l.length cap) := hp.blk.cell 2
  clear hp
  go_enter Try.func19, Try.ntmps19
  go_wp2
  go_ret
  exact ⟨rfl, rfl⟩

theorem told1 (s : Sent) (n : Int) (b : Nat) (w : World) (hc : w.cell? ⟨b, 0, none⟩ = some (.int .i64 n)) : Calls Try.prog 26 #[.agg #[.int .i64 s.n, .int .i64 s.at_, .int .i64 s.tries], .pointer (some ⟨b, 0, none⟩)] w fun e w' => e = .returned (.bool (s.n == n)) ∧ Below w.heap.size w w' := by
  have hc' := alloc_cell hc
  go_enter Try.func26, Try.ntmps26
  go_wp2
  go_ret
  exact ⟨rfl, by first | exact Below.refl _ _ | exact (Below.refl _ _).alloc (Nat.le_refl _) _⟩

def SendPost (g : Nat) (v : Value) (p : PaceS) (now n : Int) (w : World) (e : Ending) (w' : World) : Prop :=
  ∃ p' v', e = .returned (.bool (p.send now n).isSome) ∧ p' = (p.send now n).getD p ∧ PAt P0 E0 w' g v' p' ∧ Kept (fun k => k = g ∨ v.ownBlock = some k) w w' ∧ (∀ k, v'.ownBlock = some k → v.ownBlock = some k ∨ w.heap.size ≤ k)

theorem send_nil (now n : Int) (w : World) : Calls Try.prog 12 #[.pointer none, .int .i64 now, .int .i64 n] w fun e w' => e = .returned (.bool false) ∧ w = w' := by
  go_enter Try.func12, Try.ntmps12
  go_wp2
  go_ret
  exact ⟨rfl, rfl⟩

theorem send_any (g : Nat) (v : Value) (p : PaceS) (now n : Int) (w : World) (hp : PAt P0 E0 w g v p) (hl : p.l.length ≤ 64) : Calls Try.prog 12 #[.pointer (some ⟨g, 0, none⟩), .int .i64 now, .int .i64 n] w (SendPost g v p now n w) := by
  have hno : p.send now n = none → SendPost g v p now n w (.returned (.bool false)) w := fun h => ⟨_, _, by rw [h]; rfl, rfl, by rw [h]; exact hp, Kept.refl _ _, fun k hk => .inl hk⟩
  obtain ⟨A, cap, rfl, -⟩ := own_form0 hp.row
  have c0 : w.cell? ⟨g, 0, none⟩ = some (.int .i64 p.now) := hp.blk.cell 0
  have c1 : w.cell? ⟨g, 1, none⟩ = some (.int .i64 p.last) := hp.blk.cell 1
  have c2 : w.cell? ⟨g, 2, none⟩ = some (.slice A p.l.length cap) := hp.blk.cell 2
  have f0 := hp.blk.frozen 0
  have f1 := hp.blk.frozen 1
  have f2 := hp.blk.frozen 2
  by_cases h1 : now < p.now
  · have hf := hno (by simp [PaceS.send, PaceS.may, h1])
    replace hf := Lib.hid hf
    clear hno hp
    go_enter Try.func12, Try.ntmps12
    go_wp2
    go_ret
    exact hf.out
  by_cases h2 : 1073741824 < now
  · have hf := hno (by simp [PaceS.send, PaceS.may, h2])
    replace hf := Lib.hid hf
    clear hno hp
    go_enter Try.func12, Try.ntmps12
    go_wp2
    go_ret
    exact hf.out
  by_cases h3 : n ≤ p.last
  · have hf := hno (by simp [PaceS.send, PaceS.may, h3])
    replace hf := Lib.hid hf
    clear hno hp
    go_enter Try.func12, Try.ntmps12
    go_wp2
    go_ret
    exact hf.out
  by_cases h4 : 64 ≤ p.l.length
  · have hf := hno (by simp [PaceS.send, PaceS.may, h4])
    replace hf := Lib.hid hf
    clear hno hp
    go_enter Try.func12, Try.ntmps12
    go_wp2
    go_ret
    exact hf.out
  have hsend : p.send now n = some ⟨now, n, p.l ++ [(Sent.mk n now 1)]⟩ := by simp [PaceS.send, PaceS.may, h1, h2, h3, h4]
  clear hno
  have hglt := hp.blk.lt
  have hne := hp.ne (by decide)
  have hrow := Lib.hid hp.row
  have hfin : ∀ v1 w1, w1.ownsRow 0 E0 3 v1 (p.l ++ [(Sent.mk n now 1)]).length (fl Sent.cells (p.l ++ [(Sent.mk n now 1)])) → w.grownBy w1 (Value.slice A p.l.length cap).ownBlock → (v1.ownBlock = (Value.slice A p.l.length cap).ownBlock ∨ v1.ownBlock = some (w.heap.size + 1)) →
      (w1.frozen? ⟨g, 0, none⟩ = false ∧ w1.frozen? ⟨g, 1, none⟩ = false ∧ w1.frozen? ⟨g, 2, none⟩ = false ∧ (w1.cell? ⟨g, 0, none⟩ = some (.int .i64 p.now)) ∧ (w1.cell? ⟨g, 1, none⟩ = some (.int .i64 p.last)) ∧ (w1.cell? ⟨g, 2, none⟩ = some (.slice A p.l.length cap))) ∧
      SendPost g (.slice A p.l.length cap) p now n w (.returned (.bool true)) (((w1.setCell ⟨g, 0, none⟩ (.int .i64 now)).setCell ⟨g, 1, none⟩ (.int .i64 n)).setCell ⟨g, 2, none⟩ v1) := by
    intro v1 w1 hr hg hb
    have hk : Kept (fun k => (Value.slice A p.l.length cap).ownBlock = some k) w w1 := (Kept.refl _ _).grown hg (fun k e _ => e)
    have hblk := hk.blk hp.blk hne
    have hne1 : v1.ownBlock ≠ some g := by
      rcases hb with hb | hb
      · rw [hb]; exact hne
      · rw [hb]; intro e; injection e with e; omega
    refine ⟨⟨hblk.frozen 0, hblk.frozen 1, hblk.frozen 2, hblk.cell 0, hblk.cell 1, hblk.cell 2⟩, _, v1, by rw [hsend]; rfl, rfl, ?_, ?_, ?_⟩
    · rw [hsend]
      refine ⟨((hblk.set 0 _).set 1 _).set 2 _, own_far (own_far (own_far hr hne1 _) hne1 _) hne1 _, ?_⟩
      intro s hs
      rcases List.mem_append.1 hs with hs | hs
      · exact hp.tries s hs
      · obtain rfl := List.mem_singleton.1 hs; simp
    · exact (((hk.mono (fun k _ h => .inr h)).set (p := ⟨g, 0, none⟩) (fun _ => .inl rfl) _).set (p := ⟨g, 1, none⟩) (fun _ => .inl rfl) _).set (p := ⟨g, 2, none⟩) (fun _ => .inl rfl) _
    · intro k hk'
      rcases hb with hb | hb
      · exact .inl (by rw [← hb]; exact hk')
      · rw [hb] at hk'; injection hk' with hk'; exact .inr (by omega)
  replace hfin := Lib.hid hfin
  replace hsend := Lib.hid hsend
  replace hne := Lib.hid hne
  clear hp
  go_enter Try.func12, Try.ntmps12
  go_wp2_with (at_builtin; go_must (refine app1 (enc := Sent.cells) (size := 3) 0 rfl _ _ 47 E0 (.agg #[.int .i64 0, .int .i64 0, .int .i64 0]) 24 rfl DelSent.und DelSent.info rfl (by decide) (by decide) Sent.len (.slice A p.l.length cap) p.l (Sent.mk n now 1) _ rfl rfl rfl (by simp) (by simp [Sent.cells, Value.oneCell']) hrow.out (Nat.zero_le _) (by omega) ?_); intro v1 w1 ho hg hb; obtain ⟨⟨g0, g1, g2, d0, d1, d2⟩, hf⟩ := hfin.out v1 w1 ho hg hb; replace hf := Lib.hid hf; obtain ⟨A1, cap1, hv1, -⟩ := own_form0 ho; rw [List.length_append, List.length_singleton] at hv1; subst hv1; clear ho hg hb)
  go_ret
  exact hf.out

def ToldPost (g : Nat) (v : Value) (p : PaceS) (n : Int) (w : World) (e : Ending) (w' : World) : Prop :=
  ∃ v', e = .returned (.bool (p.told n).2) ∧ PAt P0 E0 w' g v' (p.told n).1 ∧ Kept (fun k => k = g ∨ v.ownBlock = some k) w w' ∧ (∀ k, v'.ownBlock = some k → v.ownBlock = some k ∨ w.heap.size ≤ k)

theorem told_nil (n : Int) (w : World) : Calls Try.prog 17 #[.pointer none, .int .i64 n] w fun e w' => e = .returned (.bool false) ∧ Below w.heap.size w w' := by
  go_enter Try.func17, Try.ntmps17
  go_wp2
  go_ret
  exact ⟨rfl, (Below.refl _ _).alloc (Nat.le_refl _) _⟩

theorem told_cf : ∀ (args : Array Value) (w : World), (callFunc 26 args).run Try.prog w = .ok (.enter 26 args) w := fun _ _ => by kernel_rfl

theorem told_any (g : Nat) (v : Value) (p : PaceS) (n : Int) (w : World) (hp : PAt P0 E0 w g v p) : Calls Try.prog 17 #[.pointer (some ⟨g, 0, none⟩), .int .i64 n] w (ToldPost g v p n w) := by
  have hidx := idxOf_cases (fun s : Sent => s.n == n) p.l
  have hpa : ∀ o w', Below (w.alloc o).heap.size (w.alloc o) w' → PAt P0 E0 w' g v p := fun o w' hb =>
    hp.kept (S := fun _ => False) (Kept.of_below (((Below.refl w.heap.size w).alloc (Nat.le_refl _) o).trans (hb.mono (by simp)))) (fun h => h) (fun _ _ h => h)
  have hkk : ∀ o w', Below (w.alloc o).heap.size (w.alloc o) w' → Below w.heap.size w w' := fun o w' hb => ((Below.refl w.heap.size w).alloc (Nat.le_refl _) o).trans (hb.mono (by simp))
  obtain ⟨A, cap, rfl, hlc, hcm⟩ := own_form0 hp.row
  have hlen : p.l.length ≤ 9223372036854775807 := by simp only [maxLen] at hcm; omega
  clear hlc hcm
  have hrd : ∀ o, Rd Sent.cells (w.alloc o) (.slice A p.l.length cap) p.l := fun o => (Rd.of_own hp.row).alloc o
  have c2 : w.cell? ⟨g, 2, none⟩ = some (.slice A p.l.length cap) := hp.blk.cell 2
  have hcl : ∀ x ∈ p.l, ∀ w', Below (w.alloc (.cells #[.int .i64 n] 3)).heap.size (w.alloc (.cells #[.int .i64 n] 3)) w' → Calls Try.prog 26 (#[.agg x.cells.toArray] ++ #[.pointer (some ⟨w.heap.size, 0, none⟩)]) w' fun e w'' => e = .returned (.bool (x.n == n)) ∧ Below w'.heap.size w' w'' := by
    intro x _ w' hb
    refine told1 x n w.heap.size w' ?_
    rw [hb.cell (by simp)]
    exact (Blk.new w #[.int .i64 n] 3).cell 0
  replace hcl := Lib.hid hcl
  replace hrd := Lib.hid hrd
  replace hpa := Lib.hid hpa
  replace hkk := Lib.hid hkk
  have hgl := hp.blk.lt
  have hrow := hp.row
  clear hp
  rcases hidx with ⟨hi, hf⟩ | ⟨k, hk, hi, hf⟩
  · have ht : p.told n = (p, false) := by simp [PaceS.told, PaceS.find, hf]
    replace hi := Lib.hid hi
    replace ht := Lib.hid ht
    clear hf hrow
    go_enter Try.func17, Try.ntmps17
    go_wp2_with (go_at_call 25; go_must (refine (IdxSent.index Sent.len 26 #[.pointer (some ⟨w.heap.size, 0, none⟩)] (fun s : Sent => s.n == n) _ p.l _ (hrd.out _) told_cf hcl.out).mono ?_); rintro e w1 ⟨rfl, hb⟩; rw [hi.out])
    have hfin : ToldPost g (.slice A p.l.length cap) p n w (.returned (.bool false)) w1 := ⟨_, by rw [ht.out], by rw [ht.out]; exact hpa.out _ _ hb, Kept.of_below (hkk.out _ _ hb), fun k hk => .inl hk⟩
    replace hfin := Lib.hid hfin
    clear hb
    go_ret
    exact hfin.out
  · have ht : p.told n = (⟨p.now, p.last, p.l.eraseIdx k⟩, true) := by simp [PaceS.told, PaceS.find, hf]
    replace hi := Lib.hid hi
    replace ht := Lib.hid ht
    clear hf
    obtain ⟨gb, rfl⟩ : ∃ gb, A = some ⟨gb, 0, none⟩ := by
      obtain ⟨gb, c, hv, -⟩ := own_form hrow (by omega)
      injection hv with hA; exact ⟨gb, hA⟩
    have hfin : ∀ w1 w2, PAt P0 E0 w1 g (.slice (some ⟨gb, 0, none⟩) p.l.length cap) p → Below w.heap.size w w1 → DelSent.Post Sent.cells 0 gb cap p.l k w1 (.returned (.slice (some ⟨gb, 0, none⟩) (p.l.length - 1) cap)) w2 →
        w2.cell? ⟨g, 2, none⟩ = some (.slice (some ⟨gb, 0, none⟩) p.l.length cap) ∧ w2.frozen? ⟨g, 2, none⟩ = false ∧
        ToldPost g (.slice (some ⟨gb, 0, none⟩) p.l.length cap) p n w (.returned (.bool true)) (w2.setCell ⟨g, 2, none⟩ (.slice (some ⟨gb, 0, none⟩) (p.l.length - 1) cap)) := by
      intro w1 w2 h1 hb hd
      have hne : (Value.slice (some ⟨gb, 0, none⟩) p.l.length cap).ownBlock ≠ some g := h1.ne (by decide)
      have hk2 : Kept (fun k => (Value.slice (some ⟨gb, 0, none⟩) p.l.length cap).ownBlock = some k) w1 w2 := (Kept.refl _ _).grown hd.grown (fun k e _ => e)
      have hblk := hk2.blk h1.blk hne
      refine ⟨hblk.cell 2, hblk.frozen 2, .slice (some ⟨gb, 0, none⟩) (p.l.length - 1) cap, by rw [ht.out], ?_, ?_, fun k hk => .inl hk⟩
      · rw [ht.out]
        have hrow2 := hd.row
        have e : (p.l.eraseIdx k).length = p.l.length - 1 := by rw [List.length_eraseIdx, if_pos hk]
        refine ⟨hblk.set 2 _, ?_, fun s hs => h1.tries s (List.mem_of_mem_eraseIdx hs)⟩
        exact own_far hrow2 (by exact hne) _
      · exact (((Kept.of_below (hb.mono (Nat.le_refl _))).trans hk2 (fun k _ h => .inr h)).set (p := ⟨g, 2, none⟩) (fun _ => .inl rfl) _)
    replace hfin := Lib.hid hfin
    have hrow2 : ∀ w1, PAt P0 E0 w1 g (.slice (some ⟨gb, 0, none⟩) p.l.length cap) p → w1.ownsRow 0 E0 3 (.slice (some ⟨gb, 0, none⟩) p.l.length cap) p.l.length (fl Sent.cells p.l) := fun w1 h => h.row
    replace hrow2 := Lib.hid hrow2
    clear hrow
    go_enter Try.func17, Try.ntmps17
    go_wp2_with first | (go_at_call 25; go_must (refine (IdxSent.index Sent.len 26 #[.pointer (some ⟨w.heap.size, 0, none⟩)] (fun s : Sent => s.n == n) _ p.l _ (hrd.out _) told_cf hcl.out).mono ?_); rintro e w1 ⟨rfl, hb⟩; rw [hi.out]; have h1 := Lib.hid (hpa.out _ _ hb); have hb1 := hkk.out _ _ hb; have c3 := h1.out.blk.cell 2; have c2' : w1.cell? ⟨g, 2, none⟩ = some (.slice (some ⟨gb, 0, none⟩) p.l.length cap) := c3; clear c3 hb) | (go_at_call 27; go_must (refine (DelSent.del Sent.len (by simp [Sent.cells, Value.oneCell']) 0 gb cap p.l k hk _ (hrow2.out _ h1.out)).mono ?_); rintro e w2 hd; obtain rfl := hd.e; obtain ⟨d1, d2, d3⟩ := hfin.out _ w2 h1.out hb1 hd; replace d3 := Lib.hid d3; clear hd)
    go_ret
    exact d3.out

end Go.Proofs.Ytglmdoghknpgkaa
