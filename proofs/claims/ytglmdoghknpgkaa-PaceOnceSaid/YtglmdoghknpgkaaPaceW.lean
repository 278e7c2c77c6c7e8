/- The walks of package pace and of the reference's pace. -/
import Derived.Test.YtglmdoghknpgkaaPaceSpec
import Derived.Test.YtglmdoghknpgkaaRows
namespace Go.Proofs.Ytglmdoghknpgkaa
set_option linter.unusedVariables false
set_option linter.unusedSimpArgs false
open Go.RowKit

/-- A pace lies at block g, its row is v. T: its type's number, E: its items'. -/
structure PAt (T E : Nat) (w : World) (g : Nat) (v : Value) (p : PaceS) : Prop where
  blk : Blk w g [.int .i64 p.now, .int .i64 p.last, v] T
  row : w.ownsRow 0 E 3 v p.l.length (fl Sent.cells p.l)
  tries : ∀ s ∈ p.l, s.tries ≤ 9223372036854775807

theorem Sent.len (s : Sent) : s.cells.length = 3 := rfl

theorem PAt.drewN {T E : Nat} {w : World} {g : Nat} {v : Value} {p : PaceS} (h : PAt T E w g v p) (n : Nat) : PAt T E (w.drewN n) g v p := ⟨h.blk, h.row, h.tries⟩
theorem PAt.kept {T E : Nat} {w w' : World} {g : Nat} {v : Value} {p : PaceS} (h : PAt T E w g v p) {S : Nat → Prop} (hk : Kept S w w') (hg : ¬ S g) (hv : ∀ k, v.ownBlock = some k → ¬ S k) : PAt T E w' g v p :=
  ⟨hk.blk h.blk hg, hk.own h.row hv, h.tries⟩
theorem own_typed {w : World} {base : Nat} {e : TypeId} {size n : Nat} {v : Value} {xs : List Value} (h : w.ownsRow base e size v n xs) (k : Nat) (hk : v.ownBlock = some k) : ∃ cs, Blk w k cs e := by
  rcases h.2 with ⟨rfl, _⟩ | ⟨g, cap, cur, rfl, hg, hh, r⟩
  · cases hk
  · cases hk; exact ⟨cur.toList, by unfold Blk; simpa using hh⟩
theorem PAt.ne {T E : Nat} {w : World} {g : Nat} {v : Value} {p : PaceS} (h : PAt T E w g v p) (hTE : T ≠ E) : v.ownBlock ≠ some g := by
  intro e
  obtain ⟨cs, hc⟩ := own_typed h.row g e
  exact h.blk.ne hc hTE rfl
theorem PAt.set {T E : Nat} (hTE : T ≠ E) {w : World} {g g2 n cap : Nat} {p : PaceS} (h : PAt T E w g (.slice (some ⟨g2, 0, none⟩) n cap) p) (k : Nat) (hk : k < p.l.length) (a t : Int) (ht : t ≤ 9223372036854775807) :
    PAt T E ((w.setCell ⟨g2, k * 3 + 1, none⟩ (.int .i64 a)).setCell ⟨g2, k * 3 + 2, none⟩ (.int .i64 t)) g (.slice (some ⟨g2, 0, none⟩) n cap) ⟨p.now, p.last, p.l.set k ⟨p.l[k].n, a, t⟩⟩ := by
  have hne : g ≠ g2 := fun e => h.ne hTE (by rw [e]; rfl)
  obtain ⟨A, c, hv, _⟩ := own_form0 h.row
  cases hv
  refine ⟨(h.blk.far hne _).far hne _, ?_, ?_⟩
  · have h1 := own_set (own_set h.row (k * 3 + 1) (.int .i64 a)) (k * 3 + 2) (.int .i64 t)
    rw [fl_set Sent.len p.l k hk 1 (by omega) (.int .i64 a) ⟨p.l[k].n, a, p.l[k].tries⟩ rfl] at h1
    rw [fl_set Sent.len _ k (by simpa using hk) 2 (by omega) (.int .i64 t) ⟨p.l[k].n, a, t⟩ (by simp [Sent.cells]), List.set_set] at h1
    simpa using h1
  · intro s hs
    rcases List.mem_or_eq_of_mem_set hs with hs | rfl
    · exact h.tries s hs
    · exact ht

theorem wait_any (t : Int) (w : World) (hb : t ≤ 9223372036854775807) : Calls Try.prog 20 #[.int .i64 t] w fun e w' => e = .returned (.int .i64 (wait t)) ∧ w = w' := by
  by_cases h : t < 1
  · have e : wait t = 0 := by simp [wait, h]
    rw [e]; clear e
    go_enter Try.func20, Try.ntmps20
    go_wp2
    go_ret
    exact ⟨rfl, rfl⟩
  · by_cases h2 : t < 12
    · have : t = 1 ∨ t = 2 ∨ t = 3 ∨ t = 4 ∨ t = 5 ∨ t = 6 ∨ t = 7 ∨ t = 8 ∨ t = 9 ∨ t = 10 ∨ t = 11 := by omega
      rcases this with rfl | rfl | rfl | rfl | rfl | rfl | rfl | rfl | rfl | rfl | rfl <;>
      · go_enter Try.func20, Try.ntmps20
        go_wp2
        go_ret
        exact ⟨rfl, rfl⟩
    · have e : wait t = 64 := by simp only [wait, if_neg h, if_neg (show ¬ t = 1 by omega), if_neg (show ¬ t = 2 by omega), if_neg (show ¬ t = 3 by omega), if_neg (show ¬ t = 4 by omega)]
      rw [e]; clear e
      have h3 : 10 < t - 1 := by omega
      go_enter Try.func20, Try.ntmps20
      go_wp2
      go_ret
      exact ⟨rfl, rfl⟩

theorem rwait_any (t : Int) (w : World) (hb : t ≤ 9223372036854775807) : Calls Try.prog 21 #[.int .i64 t] w fun e w' => e = .returned (.int .i64 (wait t)) ∧ w = w' := by
  by_cases h : t < 1
  · have e : wait t = 0 := by simp [wait, h]
    rw [e]; clear e
    go_enter Try.func21, Try.ntmps21
    go_wp2
    go_ret
    exact ⟨rfl, rfl⟩
  · by_cases h2 : t < 6
    · have : t = 1 ∨ t = 2 ∨ t = 3 ∨ t = 4 ∨ t = 5 := by omega
      rcases this with rfl | rfl | rfl | rfl | rfl <;>
      · go_enter Try.func21, Try.ntmps21
        go_wp2
        go_ret
        exact ⟨rfl, rfl⟩
    · have e : wait t = 64 := by simp only [wait, if_neg h, if_neg (show ¬ t = 1 by omega), if_neg (show ¬ t = 2 by omega), if_neg (show ¬ t = 3 by omega), if_neg (show ¬ t = 4 by omega)]
      rw [e]; clear e
      have h3 : 5 < t := by omega
      go_enter Try.func21, Try.ntmps21
      go_wp2
      go_ret
      exact ⟨rfl, rfl⟩

abbrev P0 : Nat := 49
abbrev E0 : Nat := 51

theorem goes_no (g : Nat) (v : Value) (p : PaceS) (now : Int) (w : World) (hp : PAt P0 E0 w g v p) (h : p.may now = false) :
    Calls Try.prog 24 #[.pointer (some ⟨g, 0, none⟩), .int .i64 now] w fun e w' => e = .returned (.bool false) ∧ w = w' := by
  have c0 : w.cell? ⟨g, 0, none⟩ = some (.int .i64 p.now) := hp.blk.cell 0
  clear hp
  by_cases h1 : now < p.now
  · go_enter Try.func24, Try.ntmps24
    go_wp2
    go_ret
    exact ⟨rfl, rfl⟩
  · have h2 : 1073741824 < now := by simpa [PaceS.may, h1] using h
    clear h
    go_enter Try.func24, Try.ntmps24
    go_wp2
    go_ret
    exact ⟨rfl, rfl⟩

theorem goes_yes (g : Nat) (v : Value) (p : PaceS) (now : Int) (w : World) (hp : PAt P0 E0 w g v p) (h : p.may now = true) :
    Calls Try.prog 24 #[.pointer (some ⟨g, 0, none⟩), .int .i64 now] w fun e w' => e = .returned (.bool true) ∧ w.setCell ⟨g, 0, none⟩ (.int .i64 now) = w' := by
  have c0 : w.cell? ⟨g, 0, none⟩ = some (.int .i64 p.now) := hp.blk.cell 0
  have f0 := hp.blk.frozen 0
  clear hp
  have h1 : ¬ now < p.now := by simp [PaceS.may] at h; omega
  have h2 : ¬ 1073741824 < now := by simp [PaceS.may] at h; omega
  clear h
  go_enter Try.func24, Try.ntmps24
  go_wp2
  go_ret
  exact ⟨rfl, rfl⟩

end Go.Proofs.Ytglmdoghknpgkaa
