/- Texts of this proof, laid together: PaceSpec, PaceW, PaceDue, CloneI, InsI, DelSent, IdxSent, PaceT, FreshSpec, FreshW, FreshX, PaceTold. -/
import Derived.Test.YtglmdoghknpgkaaMgA
import Derived.Test.YtglmdoghknpgkaaRows
import Derived.Lib.AppendZerosOnto
import Derived.Lib.Overlaps
import Derived.IntWalk
import Derived.Deep.DeepCutAuto
/- What the functions of package pace, and the reference's, compute: plain Lean, no program. -/
namespace Go.Proofs.Ytglmdoghknpgkaa
set_option linter.unusedVariables false
set_option linter.unusedSimpArgs false
open Go.RowKit

structure Sent where
  n : Int
  at_ : Int
  tries : Int
  deriving DecidableEq

structure PaceS where
  now : Int
  last : Int
  l : List Sent
  deriving DecidableEq

def Sent.cells (s : Sent) : List Value := [.int .i64 s.n, .int .i64 s.at_, .int .i64 s.tries]
def wait (t : Int) : Int := if t < 1 then 0 else if t = 1 then 4 else if t = 2 then 8 else if t = 3 then 16 else if t = 4 then 32 else 64

def PaceS.may (p : PaceS) (now : Int) : Bool := !decide (now < p.now) && !decide (1073741824 < now)

def dueOne (now : Int) (s : Sent) : Bool := decide (wait s.tries ≤ wrap64 (now - s.at_))
def dueStep (now : Int) (s : Sent) : Sent := if dueOne now s then ⟨s.n, now, wrap64 (s.tries + 1)⟩ else s
def dueOut (now : Int) (l : List Sent) : List Int := (l.filter (dueOne now)).map Sent.n

theorem dueOut_snoc (now : Int) (l : List Sent) (s : Sent) : dueOut now (l ++ [s]) = dueOut now l ++ if dueOne now s then [s.n] else [] := by
  unfold dueOut; rw [List.filter_append, List.map_append]; by_cases h : dueOne now s <;> simp [h]

/-- After k rounds of Due. -/
def dueTo (now : Int) (l : List Sent) (k : Nat) : List Sent := (l.take k).map (dueStep now) ++ l.drop k

theorem dueTo_zero (now : Int) (l : List Sent) : dueTo now l 0 = l := by simp [dueTo]
theorem dueTo_all (now : Int) (l : List Sent) : dueTo now l l.length = l.map (dueStep now) := by simp [dueTo]
theorem dueTo_length (now : Int) (l : List Sent) (k : Nat) (h : k ≤ l.length) : (dueTo now l k).length = l.length := by
  simp [dueTo]; omega
theorem dueTo_at (now : Int) (l : List Sent) (k : Nat) (h : k < l.length) (h' : k < (dueTo now l k).length) : (dueTo now l k)[k] = l[k] := by
  simp only [dueTo]
  rw [List.getElem_append_right (by simp; omega)]
  simp only [List.getElem_drop, List.length_map, List.length_take]
  congr 1; omega
theorem dueTo_succ (now : Int) (l : List Sent) (k : Nat) (h : k < l.length) : dueTo now l (k + 1) = (dueTo now l k).set k (dueStep now l[k]) := by
  unfold dueTo
  rw [List.set_append_right _ _ (by simp; omega), List.take_succ_eq_append_getElem h, List.map_append, List.append_assoc]
  rw [List.length_map, List.length_take, Nat.min_eq_left (by omega), Nat.sub_self, List.drop_eq_getElem_cons h]
  simp only [List.set_cons_zero, List.map_cons, List.map_nil, List.cons_append, List.nil_append]

def PaceS.send (p : PaceS) (now n : Int) : Option PaceS :=
  if p.may now && !decide (n ≤ p.last) && !decide (64 ≤ p.l.length) then some ⟨now, n, p.l ++ [⟨n, now, 1⟩]⟩ else none
def PaceS.due (p : PaceS) (now : Int) : PaceS × List Int :=
  if p.may now then (⟨now, p.last, p.l.map (dueStep now)⟩, dueOut now p.l) else (p, [])
def PaceS.find (p : PaceS) (n : Int) : Option Nat := p.l.findIdx? (fun s => s.n == n)
def PaceS.told (p : PaceS) (n : Int) : PaceS × Bool :=
  match p.find n with
  | some k => (⟨p.now, p.last, p.l.eraseIdx k⟩, true)
  | none => (p, false)

end Go.Proofs.Ytglmdoghknpgkaa

/- The walks of package pace and of the reference's pace. -/
namespace Go.Proofs.Ytglmdoghknpgkaa
set_option linter.unusedVariables false
set_option linter.unusedSimpArgs false
open Go.RowKit

/-- A pace lies at block g, its row is v. T: its type's number, E: its items'. -/
structure PAt (T E : Nat) (w : World) (g : Nat) (v : Value) (p : PaceS) : Prop where
  blk : Blk w g [.int .i64 p.now, .int .i64 p.last, v] T
  row : w.ownsRow 0 E 3 v p.l.length (fl Sent.cells p.l)
  tries : ∀ s ∈ p.l, s.tries ≤ 9223372036854775807

theorem Sent.len (s : Sent) : s.cells.length = 3 := rfl

theorem PAt.drewN {T E : Nat} {w : World} {g : Nat} {v : Value} {p : PaceS} (h : PAt T E w g v p) (n : Nat) : PAt T E (w.drewN n) g v p := ⟨h.blk, h.row, h.tries⟩
theorem PAt.kept {T E : Nat} {w w' : World} {g : Nat} {v : Value} {p : PaceS} (h : PAt T E w g v p) {S : Nat → Prop} (hk : Kept S w w') (hg : ¬ S g) (hv : ∀ k, v.ownBlock = some k → ¬ S k) : PAt T E w' g v p :=
  ⟨hk.blk h.blk hg, hk.own h.row hv, h.tries⟩
theorem own_typed {w : World} {base : Nat} {e : TypeId} {size n : Nat} {v : Value} {xs : List Value} (h : w.ownsRow base e size v n xs) (k : Nat) (hk : v.ownBlock = some k) : ∃ cs, Blk w k cs e := by
  rcases h.2 with ⟨rfl, _⟩ | ⟨g, cap, cur, rfl, hg, hh, r⟩
  · cases hk
  · cases hk; exact ⟨cur.toList, by unfold Blk; simpa using hh⟩
theorem PAt.ne {T E : Nat} {w : World} {g : Nat} {v : Value} {p : PaceS} (h : PAt T E w g v p) (hTE : T ≠ E) : v.ownBlock ≠ some g := by
  intro e
  obtain ⟨cs, hc⟩ := own_typed h.row g e
  exact h.blk.ne hc hTE rfl
theorem PAt.set {T E : Nat} (hTE : T ≠ E) {w : World} {g g2 n cap : Nat} {p : PaceS} (h : PAt T E w g (.slice (some ⟨g2, 0, none⟩) n cap) p) (k : Nat) (hk : k < p.l.length) (a t : Int) (ht : t ≤ 9223372036854775807) :
    PAt T E ((w.setCell ⟨g2, k * 3 + 1, none⟩ (.int .i64 a)).setCell ⟨g2, k * 3 + 2, none⟩ (.int .i64 t)) g (.slice (some ⟨g2, 0, none⟩) n cap) ⟨p.now, p.last, p.l.set k ⟨p.l[k].n, a, t⟩⟩ := by
  have hne : g ≠ g2 := fun e => h.ne hTE (by rw [e]; rfl)
  obtain ⟨A, c, hv, _⟩ := own_form0 h.row
  cases hv
  refine ⟨(h.blk.far hne _).far hne _, ?_, ?_⟩
  · have h1 := own_set (own_set h.row (k * 3 + 1) (.int .i64 a)) (k * 3 + 2) (.int .i64 t)
    rw [fl_set Sent.len p.l k hk 1 (by omega) (.int .i64 a) ⟨p.l[k].n, a, p.l[k].tries⟩ rfl] at h1
    rw [fl_set Sent.len _ k (by simpa using hk) 2 (by omega) (.int .i64 t) ⟨p.l[k].n, a, t⟩ (by simp [Sent.cells]), List.set_set] at h1
    simpa using h1
  · intro s hs
    rcases List.mem_or_eq_of_mem_set hs with hs | rfl
    · exact h.tries s hs
    · exact ht

theorem wait_any (t : Int) (w : World) (hb : t ≤ 9223372036854775807) : Calls Try.prog 20 #[.int .i64 t] w fun e w' => e = .returned (.int .i64 (wait t)) ∧ w = w' := by
  by_cases h : t < 1
  · have e : wait t = 0 := by simp [wait, h]
    rw [e]; clear e
    go_enter Try.func20, Try.ntmps20
    go_wp2
    go_ret
    exact ⟨rfl, rfl⟩
  · by_cases h2 : t < 12
    · have : t = 1 ∨ t = 2 ∨ t = 3 ∨ t = 4 ∨ t = 5 ∨ t = 6 ∨ t = 7 ∨ t = 8 ∨ t = 9 ∨ t = 10 ∨ t = 11 := by omega
      rcases this with rfl | rfl | rfl | rfl | rfl | rfl | rfl | rfl | rfl | rfl | rfl <;>
      · go_enter Try.func20, Try.ntmps20
        go_wp2
        go_ret
        exact ⟨rfl, rfl⟩
    · have e : wait t = 64 := by simp only [wait, if_neg h, if_neg (show ¬ t = 1 by omega), if_neg (show ¬ t = 2 by omega), if_neg (show ¬ t = 3 by omega), if_neg (show ¬ t = 4 by omega)]
      rw [e]; clear e
      have h3 : 10 < t - 1 := by omega
      go_enter Try.func20, Try.ntmps20
      go_wp2
      go_ret
      exact ⟨rfl, rfl⟩

theorem rwait_any (t : Int) (w : World) (hb : t ≤ 9223372036854775807) : Calls Try.prog 21 #[.int .i64 t] w fun e w' => e = .returned (.int .i64 (wait t)) ∧ w = w' := by
  by_cases h : t < 1
  · have e : wait t = 0 := by simp [wait, h]
    rw [e]; clear e
    go_enter Try.func21, Try.ntmps21
    go_wp2
    go_ret
    exact ⟨rfl, rfl⟩
  · by_cases h2 : t < 6
    · have : t = 1 ∨ t = 2 ∨ t = 3 ∨ t = 4 ∨ t = 5 := by omega
      rcases this with rfl | rfl | rfl | rfl | rfl <;>
      · go_enter Try.func21, Try.ntmps21
        go_wp2
        go_ret
        exact ⟨rfl, rfl⟩
    · have e : wait t = 64 := by simp only [wait, if_neg h, if_neg (show ¬ t = 1 by omega), if_neg (show ¬ t = 2 by omega), if_neg (show ¬ t = 3 by omega), if_neg (show ¬ t = 4 by omega)]
      rw [e]; clear e
      have h3 : 5 < t := by omega
      go_enter Try.func21, Try.ntmps21
      go_wp2
      go_ret
      exact ⟨rfl, rfl⟩

abbrev P0 : Nat := 49
abbrev E0 : Nat := 51

theorem goes_no (g : Nat) (v : Value) (p : PaceS) (now : Int) (w : World) (hp : PAt P0 E0 w g v p) (h : p.may now = false) :
    Calls Try.prog 24 #[.pointer (some ⟨g, 0, none⟩), .int .i64 now] w fun e w' => e = .returned (.bool false) ∧ w = w' := by
  have c0 : w.cell? ⟨g, 0, none⟩ = some (.int .i64 p.now) := hp.blk.cell 0
  clear hp
  by_cases h1 : now < p.now
  · go_enter Try.func24, Try.ntmps24
    go_wp2
    go_ret
    exact ⟨rfl, rfl⟩
  · have h2 : 1073741824 < now := by simpa [PaceS.may, h1] using h
    clear h
    go_enter Try.func24, Try.ntmps24
    go_wp2
    go_ret
    exact ⟨rfl, rfl⟩

theorem goes_yes (g : Nat) (v : Value) (p : PaceS) (now : Int) (w : World) (hp : PAt P0 E0 w g v p) (h : p.may now = true) :
    Calls Try.prog 24 #[.pointer (some ⟨g, 0, none⟩), .int .i64 now] w fun e w' => e = .returned (.bool true) ∧ w.setCell ⟨g, 0, none⟩ (.int .i64 now) = w' := by
  have c0 : w.cell? ⟨g, 0, none⟩ = some (.int .i64 p.now) := hp.blk.cell 0
  have f0 := hp.blk.frozen 0
  clear hp
  have h1 : ¬ now < p.now := by simp [PaceS.may] at h; omega
  have h2 : ¬ 1073741824 < now := by simp [PaceS.may] at h; omega
  clear h
  go_enter Try.func24, Try.ntmps24
  go_wp2
  go_ret
  exact ⟨rfl, rfl⟩

end Go.Proofs.Ytglmdoghknpgkaa

/- The walk of (*Pace).Due. -/
namespace Go.Proofs.Ytglmdoghknpgkaa
set_option linter.unusedVariables false
set_option linter.unusedSimpArgs false
open Go.RowKit

theorem und_ints : Try.prog.underlying 36 = some (.slice 3) := by kernel_rfl
theorem info_int : (Try.prog.info? 3).map (fun i => (i.zero, i.size, i.bytes)) = some (some (.int .i64 0), 1, 8) := by kernel_rfl
def ic (n : Int) : List Value := [.int .i64 n]
theorem ic_len (n : Int) : (ic n).length = 1 := rfl

def DuePost (g : Nat) (v : Value) (p : PaceS) (now : Int) (w : World) (e : Ending) (w' : World) : Prop :=
  ∃ vo, e = .returned vo ∧ w'.ownsRow w.heap.size 3 1 vo (p.due now).2.length (fl ic (p.due now).2) ∧ PAt P0 E0 w' g v (p.due now).1 ∧ Kept (fun k => k = g ∨ v.ownBlock = some k) w w'

structure DueJ (g : Nat) (v : Value) (p : PaceS) (now : Int) (w : World) (k : Nat) (vo : Value) (w' : World) : Prop where
  row : w'.ownsRow w.heap.size 3 1 vo (dueOut now (p.l.take k)).length (fl ic (dueOut now (p.l.take k)))
  pt : PAt P0 E0 w' g v ⟨now, p.last, dueTo now p.l k⟩
  kept : Kept (fun k => k = g ∨ v.ownBlock = some k) w w'

theorem DueJ.skip {g : Nat} {v : Value} {p : PaceS} {now : Int} {w wr : World} {k : Nat} {vo : Value} (h : DueJ g v p now w k vo wr) (hlt : k < p.l.length) (hd : ¬ wait p.l[k].tries ≤ wrap64 (now - p.l[k].at_)) (n : Nat) :
    DueJ g v p now w (k + 1) vo (wr.drewN n) := by
  have hone : dueOne now p.l[k] = false := by simp [dueOne]; omega
  have hlt' : k < (dueTo now p.l k).length := by rw [dueTo_length now p.l k (by omega)]; exact hlt
  have e1 : dueOut now (p.l.take (k + 1)) = dueOut now (p.l.take k) := by rw [List.take_succ_eq_append_getElem hlt, dueOut_snoc, hone]; simp
  have e2 : dueTo now p.l (k + 1) = dueTo now p.l k := by
    rw [dueTo_succ now p.l k hlt, dueStep, hone]
    have := dueTo_at now p.l k hlt hlt'
    simp only [Bool.false_eq_true, if_false]
    rw [← this, List.set_getElem_self]
  exact ⟨by rw [e1]; exact h.row, by rw [e2]; exact h.pt.drewN n, h.kept.drewN n⟩

theorem DueJ.sets {g g2 c1 c2 : Nat} {p : PaceS} {now : Int} {w wr : World} {k : Nat} {vo : Value} (h : DueJ g (.slice (some ⟨g2, 0, none⟩) c1 c2) p now w k vo wr) (hp : PAt P0 E0 w g (.slice (some ⟨g2, 0, none⟩) c1 c2) p) (hlt : k < p.l.length)
    (hd : wait p.l[k].tries ≤ wrap64 (now - p.l[k].at_)) (n : Nat) (W : World)
    (hW : W = ((wr.drewN n).setCell ⟨g2, k * 3 + 1, none⟩ (.int .i64 now)).setCell ⟨g2, k * 3 + 2, none⟩ (.int .i64 (wrap64 (p.l[k].tries + 1)))) :
    W.ownsRow w.heap.size 3 1 vo (dueOut now (p.l.take k)).length (fl ic (dueOut now (p.l.take k))) ∧ w.heap.size ≤ W.heap.size ∧
    ∀ v1 w1, w1.ownsRow w.heap.size 3 1 v1 (dueOut now (p.l.take k) ++ [p.l[k].n]).length (fl ic (dueOut now (p.l.take k) ++ [p.l[k].n])) → W.grownBy w1 vo.ownBlock →
      DueJ g (.slice (some ⟨g2, 0, none⟩) c1 c2) p now w (k + 1) v1 w1 := by
  subst hW
  have hg2 := (hp.row.lt g2 rfl).2
  have hg := hp.blk.lt
  have hne : vo.ownBlock ≠ some g2 := fun e => by have := (h.row.lt g2 e).1; omega
  have hlt' : k < (dueTo now p.l k).length := by rw [dueTo_length now p.l k (by omega)]; exact hlt
  have hone : dueOne now p.l[k] = true := by simp [dueOne]; omega
  refine ⟨own_far (own_far (Kept.own (Kept.drewN (Kept.refl (fun _ => False) wr) n) h.row (fun _ _ h => h)) hne _) hne _, ?_, ?_⟩
  · have := h.kept.size; simpa [World.setCell] using this
  · intro v1 w1 hr hgr
    have hat := dueTo_at now p.l k hlt hlt'
    have hset := (h.pt.drewN n).set (by decide) k hlt' now (wrap64 (p.l[k].tries + 1)) (by unfold wrap64; omega)
    refine ⟨?_, ?_, ?_⟩
    · rw [List.take_succ_eq_append_getElem hlt, dueOut_snoc, hone]; exact hr
    · have e : dueTo now p.l (k + 1) = (dueTo now p.l k).set k ⟨(dueTo now p.l k)[k].n, now, wrap64 (p.l[k].tries + 1)⟩ := by
        rw [dueTo_succ now p.l k hlt, dueStep, hone, hat]; rfl
      rw [e]
      refine hset.kept (S := fun b => vo.ownBlock = some b) (Kept.grown (Kept.refl _ _) hgr fun k e _ => e) (fun e => ?_) (fun b hb e => ?_)
      · have := (h.row.lt g e).1; omega
      · cases hb; exact hne e
    · refine (((h.kept.drewN n).set (p := ⟨g2, k * 3 + 1, none⟩) (fun _ => .inr rfl) _).set (p := ⟨g2, k * 3 + 2, none⟩) (fun _ => .inr rfl) _).grown hgr (fun b hb hlt => ?_)
      have := (h.row.lt b hb).1; omega

theorem due_no (g : Nat) (v : Value) (p : PaceS) (now : Int) (w : World) (hp : PAt P0 E0 w g v p) (h : p.may now = false) :
    Calls Try.prog 15 #[.pointer (some ⟨g, 0, none⟩), .int .i64 now] w (DuePost g v p now w) := by
  have hfin : DuePost g v p now w (.returned (.slice none 0 0)) w := by
    unfold DuePost PaceS.due
    rw [h]
    exact ⟨_, rfl, World.ownsRow_nil _ _ _ _, hp, Kept.refl _ _⟩
  have HF := Lib.hid hfin; clear hfin
  go_enter Try.func15, Try.ntmps15
  go_wp2
  go_step3
  go_wp2_with (go_at_call 24; refine (goes_no g v p now _ hp h).mono ?_; rintro e w1 ⟨rfl, rfl⟩)
  rw [Exit.noGoto_ret]
  go_ret
  exact HF.out

theorem due_yes (g : Nat) (v : Value) (p : PaceS) (now : Int) (w : World) (hp : PAt P0 E0 w g v p) (h : p.may now = true) (hl : p.l.length ≤ 64) :
    Calls Try.prog 15 #[.pointer (some ⟨g, 0, none⟩), .int .i64 now] w (DuePost g v p now w) := by
  have hp1 : PAt P0 E0 (w.setCell ⟨g, 0, none⟩ (.int .i64 now)) g v ⟨now, p.last, dueTo now p.l 0⟩ := by
    rw [dueTo_zero]
    exact ⟨hp.blk.set 0 _, own_far hp.row (hp.ne (by decide)) _, hp.tries⟩
  have hk1 : Kept (fun k => k = g ∨ v.ownBlock = some k) w (w.setCell ⟨g, 0, none⟩ (.int .i64 now)) := (Kept.refl _ _).set (fun _ => .inl rfl) _
  have HF : ∀ vo w', (w'.ownsRow w.heap.size 3 1 vo (dueOut now p.l).length (fl ic (dueOut now p.l))) → PAt P0 E0 w' g v ⟨now, p.last, dueTo now p.l p.l.length⟩ → Kept (fun k => k = g ∨ v.ownBlock = some k) w w' → DuePost g v p now w (.returned vo) w' := by
    intro vo w' h1 h2 h3
    unfold DuePost PaceS.due
    rw [h]; rw [dueTo_all] at h2
    exact ⟨_, rfl, h1, h2, h3⟩
  replace HF := Lib.hid HF
  have HP1 := Lib.hid hp1
  have HK1 := Lib.hid hk1
  clear hp1 hk1
  go_enter Try.func15, Try.ntmps15
  go_wp2
  refine wp_scope_label 0 (fun a' w' => ∃ (k : Nat) (vo : Value), (∃ u : Nat → Value, a' = { tmps := #[.pointer (some ⟨g, 0, none⟩), .int .i64 now, u 2, u 3, u 4, vo, .int .i64 k, u 7, u 8, u 9, u 10, u 11, u 12, u 13, u 14, u 15, u 16, u 17, u 18, u 19, u 20, u 21, u 22, u 23, u 24, u 25, u 26, u 27, u 28, u 29, u 30, u 31, u 32, u 33, u 34, u 35, u 36, u 37, u 38, u 39, u 40, u 41, u 42, u 43, u 44, u 45, u 46, u 47, u 48, u 49, u 50, u 51, u 52, u 53, u 54, u 55, u 56, u 57, u 58], defers := [] }) ∧ k ≤ p.l.length ∧ DueJ g v p now w k vo w')
    (fun a' _ => p.l.length - (intOf (a'.tmps.getD 6 undef)).toNat) rfl ?_ ?_
  · intro PASS
    replace PASS := Lib.hid PASS
    go_wp2_with (go_at_call 24; refine (goes_yes g v p now _ hp h).mono ?_; rintro e w1 ⟨rfl, rfl⟩)
    go_step3
    refine ‹∀ _ _, _ → _› _ _ ?_
    exact PASS.out _ _ ⟨0, .slice none 0 0, uof rfl, Nat.zero_le _, World.ownsRow_nil _ _ _ _, HP1.out, HK1.out⟩
  · rintro a' wr ⟨k, vo, ⟨u, rfl⟩, hk, hJ⟩
    have hp2 := hJ.pt.blk.cell 2
    by_cases hlt : k < p.l.length
    · have hlen := dueTo_length now p.l k hk
      have hlt' : k < (dueTo now p.l k).length := by omega
      have hat := dueTo_at now p.l k hlt hlt'
      obtain ⟨g2, cap, rfl, -⟩ := own_form hJ.pt.row (by simp only; omega)
      have c2 : wr.cell? ⟨g, 2, none⟩ = some (.slice (some ⟨g2, 0, none⟩) (dueTo now p.l k).length cap) := hp2
      rw [hlen] at c2
      have hadd : (⟨g2, 0, none⟩ : Addr).add (k * 3) = ⟨g2, k * 3, none⟩ := by unfold Addr.add; split <;> simp_all
      have hcell : ∀ j, j < 3 → wr.cell? ⟨g2, k * 3 + j, none⟩ = (p.l[k].cells)[j]? ∧ wr.frozen? ⟨g2, k * 3 + j, none⟩ = false := by
        intro j hj
        have := own_cell hJ.pt.row (k * 3 + j) (by rw [fl_length Sent.len]; simp only; omega)
        rw [fl_get Sent.len _ k hlt' j hj, hat] at this
        exact this
      have e0 : wr.cell? ⟨g2, k * 3, none⟩ = some (.int .i64 p.l[k].n) := (hcell 0 (by omega)).1
      have e1 : wr.cell? ⟨g2, k * 3 + 1, none⟩ = some (.int .i64 p.l[k].at_) := (hcell 1 (by omega)).1
      have e2 : wr.cell? ⟨g2, k * 3 + 2, none⟩ = some (.int .i64 p.l[k].tries) := (hcell 2 (by omega)).1
      have f1 : wr.frozen? ⟨g2, k * 3 + 1, none⟩ = false := (hcell 1 (by omega)).2
      have f2 : wr.frozen? ⟨g2, k * 3 + 2, none⟩ = false := (hcell 2 (by omega)).2
      have hbd : p.l[k].tries ≤ 9223372036854775807 := hJ.pt.tries _ (by have := List.getElem_mem hlt'; rwa [hat] at this)
      have SETS := Lib.hid (hJ.sets hp hlt)
      have SKIP := Lib.hid (hJ.skip hlt)
      generalize p.l[k] = s at *
      clear hcell hp2 hlen hat hJ hp h
      by_cases hd : wait s.tries ≤ wrap64 (now - s.at_)
      · go_wp2
        go_quiet ((go_at_call 20; exact quiet_same (wait_any _ _ hbd)))
        rename_i nq
        obtain ⟨o1, o2, o3⟩ := SETS.out hd nq _ rfl
        replace o3 := Lib.hid o3
        have hdl : (dueOut now (List.take k p.l)).length ≤ 64 := by
          have := List.length_filter_le (dueOne now) (List.take k p.l); unfold dueOut; rw [List.length_map]; simp at this; simp; omega
        go_wp2_with (at_builtin; go_must (refine app1 (enc := ic) (size := 1) w.heap.size rfl _ _ 36 3 (.int .i64 0) 8 rfl und_ints info_int rfl (by decide) (by decide) ic_len vo (dueOut now (p.l.take k)) s.n _ rfl rfl rfl (by simp) (by simp [ic, Value.oneCell']) o1 o2 (by omega) ?_); intro v1 w1 ho hg _)
        have hJ1 := o3.out v1 w1 ho hg
        go_step3
        exact ⟨rfl, ⟨k + 1, v1, uof rfl, by omega, hJ1⟩, by simp [intOf]; omega⟩
      · go_wp2
        go_quiet ((go_at_call 20; exact quiet_same (wait_any _ _ hbd)))
        rename_i nq
        have hJ1 := SKIP.out hd nq
        go_wp2
        go_step3
        exact ⟨rfl, ⟨k + 1, vo, uof rfl, by omega, hJ1⟩, by simp [intOf]; omega⟩
    · obtain rfl : k = p.l.length := by omega
      have hlen := dueTo_length now p.l p.l.length (Nat.le_refl _)
      obtain ⟨A, cap, rfl, -⟩ := own_form0 hJ.pt.row
      have c2 : wr.cell? ⟨g, 2, none⟩ = some (.slice A (dueTo now p.l p.l.length).length cap) := hp2
      rw [hlen] at c2
      clear hp2 hlen
      have hfin := HF.out vo wr (by have := hJ.row; simpa using this) hJ.pt hJ.kept
      replace hfin := Lib.hid hfin
      go_wp2
      go_ret
      exact hfin.out

end Go.Proofs.Ytglmdoghknpgkaa

/- slices.Clone at int. -/
namespace Go.Proofs.Ytglmdoghknpgkaa.CloneI
set_option linter.unusedVariables false
set_option linter.unusedSimpArgs false
open Go.RowKit

theorem und : Try.prog.underlying 36 = some (.slice 3) := by kernel_rfl
theorem info : (Try.prog.info? 3).map (fun i => (i.zero, i.size, i.bytes)) = some (some (.int .i64 0), 1, 8) := by kernel_rfl

def Post {α : Type} (enc : α → List Value) (l : List α) (w : World) (e : Ending) (w' : World) : Prop :=
  ∃ v', e = .returned v' ∧ w'.ownsRow w.heap.size 3 1 v' l.length (fl enc l) ∧ Below w.heap.size w w'

theorem clone {α : Type} {enc : α → List Value} (hs : ∀ x, (enc x).length = 1) (h1 : ∀ x, ∀ u ∈ enc x, u.oneCell' = true) (v : Value) (l : List α) (w : World) (hv : Rd enc w v l) (hl : l.length * 8 ≤ 140737488355328) :
    Calls Try.prog 29 #[v] w (Post enc l w) := by
  obtain ⟨A, cap, rfl, hlc, hcm, hn, hc⟩ := hv
  cases A with
  | none =>
    obtain ⟨rfl, rfl⟩ := hn rfl
    have hfin : Post enc [] w (.returned (.slice none 0 0)) w := ⟨_, rfl, World.ownsRow_nil _ _ _ _, Below.refl _ _⟩
    replace hfin := Lib.hid hfin
    clear hc
    have hnil := Lib.run_eql_slice_nil w 36 3 none 0 0 0 0 und
    go_enter Try.func29, Try.ntmps29
    go_wp2
    go_ret
    exact hfin.out
  | some ad =>
    obtain ⟨i0, hi, hzz⟩ := Option.map_eq_some_iff.1 info
    simp only [Prod.mk.injEq] at hzz
    obtain ⟨hz0, hz1, hz2⟩ := hzz
    have hc0 := hc ad rfl
    have hone : ∀ u ∈ fl enc l, u.oneCell' = true := by
      intro u hu; obtain ⟨x, _, hx⟩ := List.mem_flatMap.1 hu; exact h1 x u hx
    have HC := Lib.hid hc0
    have HI := Lib.hid (And.intro hi (And.intro hz0 (And.intro hz1 hz2)))
    have HS := Lib.hid (And.intro (fl_length hs l) hone)
    have hl' : l.length ≤ 140737488355328 := Nat.le_trans (Nat.le_mul_of_pos_right _ (by decide)) hl
    clear hc hn hc0 hi hz0 hz1 hz2 hone hs
    have hnil := Lib.run_eql_slice_nil w 36 3 (some ad) l.length cap 0 0 und
    go_enter Try.func29, Try.ntmps29
    have hmade : (w.alloc (.cells #[] 3)).ownsRow w.heap.size 3 1 (.slice (some ⟨w.heap.size, 0, none⟩) 0 0) 0 [] := World.ownsRow_made w #[] 0 (Nat.le_refl _) (by simp) (by simp)
    replace hmade := Lib.hid hmade
    go_wp2_with (at_builtin; go_must (refine wpList_append_own_at _ rfl _ _ 36 rfl w.heap.size 3 i0 (.int .i64 0) 1 8 und HI.out.1 HI.out.2.1 HI.out.2.2.1 HI.out.2.2.2 rfl (by decide) _ 0 [] rfl hmade.out ad l.length cap (fl enc l) rfl HS.out.1 (fun j u hj => by
      have := HC.out j u hj
      rw [← this]; exact Below.cell ((Below.refl _ _).alloc (Nat.le_refl _) _) (World.block_lt_of_cell? w _ this)) HS.out.2 (by simp only [maxLen]; omega) (by omega) (by simp) ?_); intro v1 w1 ho hg _ _)
    have hfin : Post enc l w (.returned v1) w1 := ⟨_, rfl, by simpa using ho, ((Below.refl _ _).alloc (Nat.le_refl _) _).grown hg (by simp) (fun k e => by cases e; exact Nat.le_refl _)⟩
    replace hfin := Lib.hid hfin
    clear ho hg
    go_wp2
    go_ret
    exact hfin.out

end Go.Proofs.Ytglmdoghknpgkaa.CloneI

/- slices.Insert of one element, at int, into a row of the program's own. -/
namespace Go.Proofs.Ytglmdoghknpgkaa.InsI
set_option linter.unusedVariables false
set_option linter.unusedSimpArgs false
open Go.RowKit
set_option maxRecDepth 20000

theorem und : Try.prog.underlying 36 = some (.slice 3) := by kernel_rfl
theorem undi : Try.prog.underlying 3 = some (.int .i64) := by kernel_rfl
theorem info : (Try.prog.info? 3).map (fun i => (i.zero, i.size, i.bytes)) = some (some (.int .i64 0), 1, 8) := by kernel_rfl
theorem infos : (Try.prog.info? 3).map (·.size) = some 1 := by kernel_rfl
structure Post {α : Type} (enc : α → List Value) (base : Nat) (v : Value) (l : List α) (k : Nat) (y : α) (w : World) (e : Ending) (w' : World) : Prop where
  ex : ∃ v', e = .returned v' ∧ w'.ownsRow base 3 1 v' (l.take k ++ y :: l.drop k).length (fl enc (l.take k ++ y :: l.drop k)) ∧ (v'.ownBlock = v.ownBlock ∨ v'.ownBlock = some w.heap.size)
  grown : w.grownBy w' v.ownBlock

theorem ins_end {α : Type} {enc : α → List Value} (hs : ∀ x, (enc x).length = 1) (h1 : ∀ x, ∀ u ∈ enc x, u.oneCell' = true) (base : Nat) (v : Value) (l : List α) (y : α) (vb : Nat) (w : World)
    (hrow : w.ownsRow base 3 1 v l.length (fl enc l)) (hb : base ≤ w.heap.size) (hvb : Blk w vb (enc y) 3) (hl : (l.length + 1) * 8 ≤ 140737488355328) :
    Calls Try.prog 31 #[v, .int .i64 l.length, .slice (some ⟨vb, 0, none⟩) 1 1] w (Post enc base v l l.length y w) := by
  obtain ⟨A, cap, rfl, hlc, hcm⟩ := own_form0 hrow
  simp only [maxLen] at hcm
  have hrd : Rd enc w (.slice (some ⟨vb, 0, none⟩) 1 1) [y] := ⟨_, 1, rfl, by simp, by omega, (fun h => by cases h), fun ad ha j u hu => by
    cases ha; rw [add_lit, hvb.cell, ← fl_one (enc := enc) y]; exact hu⟩
  have hfin : ∀ v1 w1, w1.ownsRow base 3 1 v1 (l ++ [y]).length (fl enc (l ++ [y])) → w.grownBy w1 (Value.slice A l.length cap).ownBlock → (v1.ownBlock = (Value.slice A l.length cap).ownBlock ∨ v1.ownBlock = some w.heap.size) → Post enc base (.slice A l.length cap) l l.length y w (.returned v1) w1 :=
    fun v1 w1 a b c => ⟨⟨v1, rfl, by simpa using a, c⟩, b⟩
  replace hfin := Lib.hid hfin
  replace hrow := Lib.hid hrow
  replace hrd := Lib.hid hrd
  clear hvb
  have f0 : (l.length : Int) ≤ (l.length : Int) := by omega
  have hl2 : l.length + 1 ≤ 140737488355328 := Nat.le_trans (Nat.le_mul_of_pos_right _ (by decide)) hl
  by_cases hend : cap = l.length
  · subst hend
    go_enter Try.func31, Try.ntmps31
    go_wp2_with (at_builtin; go_must (refine wpList_appN (enc := enc) (size := 1) base rfl (.tmp 23) (.tmp 24) 36 3 (.int .i64 0) 8 rfl und info rfl (by decide) (by decide) hs h1 (.slice A l.length l.length) l (.slice (some ⟨vb, 0, none⟩) 1 1) [y] rfl rfl hrd.out hrow.out hb hl ?_); intro v1 w1 ho hg hat; have hf := hfin.out v1 w1 ho hg hat; replace hf := Lib.hid hf; clear ho hg hat)
    go_ret
    exact hf.out
  · have hend' : ¬ l.length = cap := fun h => hend h.symm
    go_enter Try.func31, Try.ntmps31
    go_wp2_with (at_builtin; go_must (refine wpList_appN (enc := enc) (size := 1) base rfl (.tmp 23) (.tmp 24) 36 3 (.int .i64 0) 8 rfl und info rfl (by decide) (by decide) hs h1 (.slice A l.length cap) l (.slice (some ⟨vb, 0, none⟩) 1 1) [y] rfl rfl hrd.out hrow.out hb hl ?_); intro v1 w1 ho hg hat; have hf := hfin.out v1 w1 ho hg hat; replace hf := Lib.hid hf; clear ho hg hat)
    go_ret
    exact hf.out

/-- Two slices of two blocks don't overlap. -/
theorem over (w : World) (ba oa bb ob la ca lb cb : Nat) (hne : ba ≠ bb) (csA csB : List Value) (hA : Blk w ba csA 3) (hB : Blk w bb csB 3) (hkB : csB ≠ []) :
    (callFunc 34 #[.slice (some ⟨ba, oa, none⟩) la ca, .slice (some ⟨bb, ob, none⟩) lb cb]).run Try.prog w = .ok (.value (.bool false)) w := by
  rw [run_callFunc_extern (P := Try.prog) (f := 34) (fn := Try.f34) (by kernel_rfl) (by kernel_rfl) (by kernel_rfl) (by kernel_rfl) (e := Extern.SlicesOverlaps.overlaps #[36, 36] #[4]) (by kernel_rfl),
    Lib.run_overlaps_apart w 36 4 3 und 1 (fun w => by kernel_rfl) ⟨ba, oa, none⟩ ⟨bb, ob, none⟩ la ca lb cb hne 3 3 csA.length csB.length hA.shape hB.shape (by cases csB <;> simp_all) (hA.frozen _) (hA.frozen _)]
  rfl

theorem room_core {α : Type} {enc : α → List Value} (hs : ∀ x, (enc x).length = 1) (base g cap : Nat) (l : List α) (k : Nat) (hk : k < l.length) (hroom : l.length + 1 ≤ cap) (y : α) (w : World) 
    (hrow : w.ownsRow base 3 1 (.slice (some ⟨g, 0, none⟩) l.length cap) l.length (fl enc l)) :
    let W1 := w.drew.setCells g ((k + 1) * 1) (fl enc (l.drop k))
    (∀ j, j < (fl enc (l.drop k)).length → (w.drew.cell? ⟨g, (k + 1) * 1 + j, none⟩).isSome = true) ∧ (∀ j, j < (fl enc (l.drop k)).length → w.drew.frozen? ⟨g, (k + 1) * 1 + j, none⟩ = false) ∧
    (∀ j, j < (enc y).length → (W1.cell? ⟨g, k * 1 + j, none⟩).isSome = true) ∧ (∀ j, j < (enc y).length → W1.frozen? ⟨g, k * 1 + j, none⟩ = false) ∧
    Post enc base (.slice (some ⟨g, 0, none⟩) l.length cap) l k y w (.returned (.slice (some ⟨g, 0, none⟩) (l.length + 1) cap)) (W1.setCells g (k * 1) (enc y)) := by
  intro W1
  obtain ⟨g', cap', cur, hv, hg, hh, hn, hc, hsz, ht⟩ := hrow.2.resolve_left (fun h => by cases h.1)
  cases hv
  have hb : Blk w g cur.toList 3 := by unfold Blk; simpa using hh
  have hb1 : Blk w.drew g cur.toList 3 := hb
  have hlen : (fl enc (l.drop k)).length = (l.length - k) * 1 := by rw [fl_length hs, List.length_drop]
  have hcl : cur.toList.length = cap * 1 := by simpa using hsz
  have hb2 : Blk W1 g _ 3 := hb1.setCells (fl enc (l.drop k)) ((k + 1) * 1) _ _ (by rw [hlen, hcl]; omega)
  have hl2 : (cur.toList.take ((k + 1) * 1) ++ fl enc (l.drop k) ++ cur.toList.drop ((k + 1) * 1 + (fl enc (l.drop k)).length)).length = cap * 1 := by
    simp only [List.length_append, List.length_take, List.length_drop, hlen, hcl]; omega
  have ht1 : (cur.toList.take ((k + 1) * 1) ++ fl enc (l.drop k) ++ cur.toList.drop ((k + 1) * 1 + (fl enc (l.drop k)).length)).take (k * 1) = fl enc (l.take k) := by
    rw [List.append_assoc, List.take_append_of_le_length (by rw [List.length_take, hcl]; omega), List.take_take, ← fl_take hs l k (by omega), ← ht, List.take_take]
    congr 1; omega
  have ht2 : (cur.toList.take ((k + 1) * 1) ++ fl enc (l.drop k) ++ cur.toList.drop ((k + 1) * 1 + (fl enc (l.drop k)).length)).drop (k * 1 + 1) = fl enc (l.drop k) ++ cur.toList.drop ((k + 1) * 1 + (fl enc (l.drop k)).length) := by
    rw [List.append_assoc, List.drop_append_of_le_length (by rw [List.length_take, hcl]; omega), List.drop_of_length_le (by rw [List.length_take, hcl]; omega), List.nil_append]
  refine ⟨fun j hj => ?_, fun j _ => hb1.frozen _, fun j hj => ?_, fun j _ => hb2.frozen _, ⟨.slice (some ⟨g, 0, none⟩) (l.length + 1) cap, rfl, ?_, .inl rfl⟩, ?_⟩
  · rw [hb1.cell, List.getElem?_eq_getElem (by rw [hlen] at hj; rw [hcl]; omega)]; rfl
  · rw [hb2.cell, List.getElem?_eq_getElem (by rw [hs] at hj; rw [hl2]; omega)]; rfl
  · have hb3 := hb2.setCells (enc y) (k * 1) _ _ (by rw [hs, hl2]; omega)
    rw [ht1, hs, ht2] at hb3
    have hlq : (l.take k ++ y :: l.drop k).length = l.length + 1 := by simp; omega
    refine ⟨by rw [fl_length hs], .inr ⟨g, cap, _, by rw [hlq], hg, hb3, by omega, hc, ?_, ?_⟩⟩
    · simp only [List.size_toArray, List.length_append, fl_length hs, List.length_take, List.length_drop, hs, hcl]; omega
    · rw [hlq, fl_append, fl_cons]
      have e : (fl enc (l.take k) ++ enc y ++ (fl enc (l.drop k) ++ cur.toList.drop ((k + 1) * 1 + (fl enc (l.drop k)).length))) = (fl enc (l.take k) ++ (enc y ++ fl enc (l.drop k))) ++ cur.toList.drop ((k + 1) * 1 + (fl enc (l.drop k)).length) := by simp
      show (fl enc (l.take k) ++ enc y ++ (fl enc (l.drop k) ++ cur.toList.drop ((k + 1) * 1 + (fl enc (l.drop k)).length))).take ((l.length + 1) * 1) = _
      rw [e, List.take_append_of_le_length (by simp only [List.length_append, fl_length hs, List.length_take, List.length_drop, hs]; omega), List.take_of_length_le (by simp only [List.length_append, fl_length hs, List.length_take, List.length_drop, hs]; omega)]
  · have g1 : w.grownBy w.drew (some g) := ⟨rfl, rfl, rfl, Nat.le_refl _, fun _ _ _ => rfl⟩
    exact (g1.trans (setCells_grown _ _ _)).trans (setCells_grown _ _ _)

set_option maxRecDepth 100000 in
set_option maxHeartbeats 2000000 in
theorem ins_room {α : Type} {enc : α → List Value} (hs : ∀ x, (enc x).length = 1) (h1 : ∀ x, ∀ u ∈ enc x, u.oneCell' = true) (base g cap : Nat) (l : List α) (k : Nat) (hk : k < l.length) (hroom : l.length + 1 ≤ cap) (y : α) (vb : Nat) (w : World)
    (hrow : w.ownsRow base 3 1 (.slice (some ⟨g, 0, none⟩) l.length cap) l.length (fl enc l)) (hvb : Blk w vb (enc y) 3) (hne : vb ≠ g) :
    Calls Try.prog 31 #[.slice (some ⟨g, 0, none⟩) l.length cap, .int .i64 k, .slice (some ⟨vb, 0, none⟩) 1 1] w (Post enc base (.slice (some ⟨g, 0, none⟩) l.length cap) l k y w) := by
  obtain ⟨c1, f1, c2, f2, hfin⟩ := room_core hs base g cap l k hk hroom y w hrow
  obtain ⟨cs, hgb, -, hcl⟩ := own_blk hrow
  have hcs : cs ≠ [] := fun e => by rw [e] at hcl; simp at hcl; omega
  have hov : ∀ lb cb, (callFunc 34 #[.slice (some ⟨vb, 0, none⟩) 1 1, .slice (some ⟨g, (k + 1) * 1, none⟩) lb cb]).run Try.prog w = .ok (.value (.bool false)) w := fun lb cb => over w vb 0 g _ 1 1 lb cb hne (enc y) cs hvb hgb hcs
  have hcm : cap ≤ 9223372036854775807 := by
    obtain ⟨A, c, hv, h1, h2⟩ := own_form0 hrow; cases hv; simpa [maxLen] using h2
  have hlen : (fl enc (l.drop k)).length = (l.length - k) * 1 := by rw [fl_length hs, List.length_drop]
  have hone : ∀ u ∈ fl enc (l.drop k), u.oneCell' = true := by
    intro u hu; obtain ⟨x, _, hx⟩ := List.mem_flatMap.1 hu; exact h1 x u hx
  have hcp1 : ∀ ty dl dc sl sc, l.length - k = min sl dl → (Builtin.copy_ #[36, 36] ty #[.slice (some ⟨g, (k + 1) * 1, none⟩) dl dc, .slice (some ⟨g, k * 1, none⟩) sl sc]).run Try.prog w.drew = .ok (goInt ((l.length - k : Nat) : Int)) (w.drew.setCells g ((k + 1) * 1) (fl enc (l.drop k))) :=
    fun ty dl dc sl sc hm => run_copy_cells _ _ _ ty _ g _ dl dc ⟨g, k * 1, none⟩ sl sc 1 (l.length - k) _ hm und infos hlen (fun j u hu => by
      have hj := (List.getElem?_eq_some_iff.1 hu).1
      rw [hlen] at hj
      have := (own_cell hrow (k * 1 + j) (by rw [fl_length hs]; omega)).1
      rw [Addr.add_lit]
      show w.cell? _ = _
      rw [this, ← List.getElem?_drop, fl_drop hs l k (by omega)]; exact hu) c1 f1 hone
  obtain ⟨W1, hW1⟩ : ∃ W1, W1 = w.drew.setCells g ((k + 1) * 1) (fl enc (l.drop k)) := ⟨_, rfl⟩
  rw [← hW1] at hcp1 hfin c2 f2
  have hvb1 : Blk W1 vb (enc y) 3 := by
    rw [hW1]; unfold Blk; rw [setCells_heap _ _ _ _ hne]; exact hvb
  have hcp2 : ∀ ty dl dc, 1 ≤ dl → (Builtin.copy_ #[36, 36] ty #[.slice (some ⟨g, k * 1, none⟩) dl dc, .slice (some ⟨vb, 0, none⟩) 1 1]).run Try.prog W1 = .ok (goInt 1) (W1.setCells g (k * 1) (enc y)) :=
    fun ty dl dc hd => run_copy_cells _ _ _ ty _ g _ dl dc ⟨vb, 0, none⟩ 1 1 1 1 _ (by omega) und infos (by rw [hs]) (fun j u hu => by rw [add_lit, hvb1.cell]; exact hu) c2 f2 (h1 y)
  replace hfin := Lib.hid hfin
  replace hW1 := Lib.hid hW1
  replace hlen := Lib.hid hlen
  clear c1 c2 f1 f2 hs h1 hrow hone hvb hvb1 hgb hcs hcl

  try simp only [Nat.mul_one] at hov hcp1 hcp2 hfin
  generalize hn : l.length = n at *
  replace hn := Lib.hid hn
  have e1 : ¬ cap = k := by omega
  have e2 : ¬ (k : Int) = (n : Int) := by omega
  have e3 : ¬ ((cap : Int) < (n : Int) + 1) := by omega
  have e4 : ¬ cap = k + 1 := by omega
  have f0 : (0 : Int) ≤ (k : Int) + 1 := by omega
  have f1 : (k : Int) ≤ (n : Int) := by omega
  have f3 : (n : Int) + 1 ≤ (cap : Int) := by omega
  have f4 : (k : Int) + 1 ≤ (n : Int) + 1 := by omega
  have f5 : k + 1 ≤ n + 1 := by omega
  go_enter Try.func31, Try.ntmps31
  have g1 : ∀ ty dc sc, _ := fun ty dc sc => hcp1 ty (n - k) dc (n + 1 - k) sc (by omega)
  have g2 : ∀ ty dc, _ := fun ty dc => hcp2 ty (n + 1 - k) dc (by omega)
  clear hcp1 hcp2
  go_wp2
  have f6 : IntKind.i64.wrap ((k : Int) + 1) = (k : Int) + 1 := IntWalk.i64_in _ (by omega)
  have f7 : ((k : Int) + 1).toNat = k + 1 := by omega
  go_region
  clear f6 f7
  go_wp2
  go_ret
  exact hfin.out

theorem cut_ge (need old : Nat) (e : TypeId) (t : Nat) (h : need < 9223372036854775808) : need ≤ (Question.appendCap need old e).cut t ∧ (Question.appendCap need old e).cut t ≤ 9223372036854775807 := by
  have hm := Nat.mod_lt t (show 0 < 2 ^ 63 - need by omega)
  simp only [Question.cut]
  omega

structure Grown {α : Type} (enc : α → List Value) (base g cap C : Nat) (l : List α) (k : Nat) (y : α) (w W1 : World) : Prop where
  c1 : ∀ j, j < (enc y).length → (W1.cell? ⟨w.heap.size, k * 1 + j, none⟩).isSome = true
  f1 : ∀ j, j < (enc y).length → W1.frozen? ⟨w.heap.size, k * 1 + j, none⟩ = false
  c2 : ∀ j, j < (fl enc (l.drop k)).length → ((W1.setCells w.heap.size (k * 1) (enc y)).drew.cell? ⟨w.heap.size, (k + 1) * 1 + j, none⟩).isSome = true
  f2 : ∀ j, j < (fl enc (l.drop k)).length → (W1.setCells w.heap.size (k * 1) (enc y)).drew.frozen? ⟨w.heap.size, (k + 1) * 1 + j, none⟩ = false
  old : ∀ j u, (fl enc (l.drop k))[j]? = some u → (W1.setCells w.heap.size (k * 1) (enc y)).drew.cell? ⟨g, k * 1 + j, none⟩ = some u
  vb : ∀ vb, Blk w vb (enc y) 3 → Blk W1 vb (enc y) 3
  fin : Post enc base (.slice (some ⟨g, 0, none⟩) l.length cap) l k y w (.returned (.slice (some ⟨w.heap.size, 0, none⟩) (l.length + 1) C)) ((W1.setCells w.heap.size (k * 1) (enc y)).drew.setCells w.heap.size ((k + 1) * 1) (fl enc (l.drop k)))

theorem grow_core {α : Type} {enc : α → List Value} (hs : ∀ x, (enc x).length = 1) (w : World) (base g cap C : Nat) (hb : base ≤ w.heap.size) (l : List α) (k : Nat) (hk : k < l.length) (hC : l.length + 1 ≤ C) (hC2 : C ≤ 9223372036854775807) (y : α)
    (hrow : w.ownsRow base 3 1 (.slice (some ⟨g, 0, none⟩) l.length cap) l.length (fl enc l)) :
    Grown enc base g cap C l k y w (w.drew.alloc (.cells ((fl enc (l.take k)).toArray ++ Builtin.zeroCells (.int .i64 0 : Value).cells (l.length + 1 - k) ++ Builtin.zeroCells (.int .i64 0 : Value).cells (C - (l.length + 1))) 3)) := by
  have hz : (.int .i64 0 : Value).cells.size = 1 := rfl
  have hlz : ((fl enc (l.take k)).toArray ++ Builtin.zeroCells (.int .i64 0 : Value).cells (l.length + 1 - k) ++ Builtin.zeroCells (.int .i64 0 : Value).cells (C - (l.length + 1))).toList.length = C * 1 := by
    simp only [Array.toList_append, List.length_append, zeroCells_length, hz, fl_length hs, List.length_take]; omega
  have htk : ((fl enc (l.take k)).toArray ++ Builtin.zeroCells (.int .i64 0 : Value).cells (l.length + 1 - k) ++ Builtin.zeroCells (.int .i64 0 : Value).cells (C - (l.length + 1))).toList.take (k * 1) = fl enc (l.take k) := by
    have h2 : (fl enc (l.take k)).length = k * 1 := by rw [fl_length hs, List.length_take]; omega
    rw [Array.toList_append, Array.toList_append, List.append_assoc, List.take_append_of_le_length (by simp only; omega), ← h2, List.take_length]
  have hbn := Blk.new w.drew ((fl enc (l.take k)).toArray ++ Builtin.zeroCells (.int .i64 0 : Value).cells (l.length + 1 - k) ++ Builtin.zeroCells (.int .i64 0 : Value).cells (C - (l.length + 1))) 3
  generalize ((fl enc (l.take k)).toArray ++ Builtin.zeroCells (.int .i64 0 : Value).cells (l.length + 1 - k) ++ Builtin.zeroCells (.int .i64 0 : Value).cells (C - (l.length + 1))) = arr at *
  have hbn : Blk (w.drew.alloc (.cells arr 3)) w.heap.size arr.toList 3 := hbn
  have hlen : (fl enc (l.drop k)).length = (l.length - k) * 1 := by rw [fl_length hs, List.length_drop]
  have hb2 := hbn.setCells (enc y) (k * 1) _ _ (by rw [hs, hlz]; omega)
  rw [htk, hs] at hb2
  have hb3 : Blk ((w.drew.alloc (.cells arr 3)).setCells w.heap.size (k * 1) (enc y)).drew w.heap.size _ 3 := hb2
  have hl3 : (fl enc (l.take k) ++ enc y ++ arr.toList.drop (k * 1 + 1)).length = C * 1 := by
    simp only [List.length_append, List.length_drop, hlz, hs, fl_length hs, List.length_take]; omega
  have ht3 : (fl enc (l.take k) ++ enc y ++ arr.toList.drop (k * 1 + 1)).take ((k + 1) * 1) = fl enc (l.take k) ++ enc y := by
    rw [List.take_append_of_le_length (by simp only [List.length_append, hs, fl_length hs, List.length_take]; omega), List.take_of_length_le (by simp only [List.length_append, hs, fl_length hs, List.length_take]; omega)]
  have hb4 := hb3.setCells (fl enc (l.drop k)) ((k + 1) * 1) _ _ (by rw [hlen, hl3]; omega)
  rw [ht3] at hb4
  have hgw := (hrow.lt g rfl).2
  have gr1 : w.grownBy (w.drew.alloc (.cells arr 3)) (some g) := World.grownBy.trans (b := w.drew) ⟨rfl, rfl, rfl, Nat.le_refl _, fun _ _ _ => rfl⟩ (World.grownBy_alloc _ _ _)
  have far : ∀ q, q < w.heap.size → ((w.drew.alloc (.cells arr 3)).setCells w.heap.size (k * 1) (enc y)).heap[q]? = w.heap[q]? := fun q hq => by
    rw [setCells_heap _ _ _ _ (by omega)]; exact Below.heap_alloc w.drew _ q hq
  refine ⟨fun j hj => ?_, fun j _ => hbn.frozen _, fun j hj => ?_, fun j _ => hb3.frozen _, fun j u hu => ?_, fun vb hv => ?_, ⟨⟨_, rfl, ?_, .inr rfl⟩, ?_⟩⟩
  · rw [hbn.cell, List.getElem?_eq_getElem (by rw [hs] at hj; rw [hlz]; omega)]; rfl
  · rw [hb3.cell, List.getElem?_eq_getElem (by rw [hlen] at hj; rw [hl3]; omega)]; rfl
  · have hj := (List.getElem?_eq_some_iff.1 hu).1
    rw [hlen] at hj
    have h1 := (own_cell hrow (k * 1 + j) (by rw [fl_length hs]; omega)).1
    rw [← List.getElem?_drop, fl_drop hs l k (by omega), hu] at h1
    rw [← h1]
    exact World.cell?_of_block (far g hgw)
  · have := hv.lt
    unfold Blk at *; rw [← hv]; exact Below.heap_alloc w.drew _ _ this
  · have hlq : (l.take k ++ y :: l.drop k).length = l.length + 1 := by simp; omega
    refine ⟨by rw [fl_length hs], .inr ⟨w.heap.size, C, _, by rw [hlq], hb, hb4, by omega, by simpa [maxLen] using hC2, ?_, ?_⟩⟩
    · simp only [List.size_toArray, List.length_append, fl_length hs, List.length_take, List.length_drop, hs, hlz]; omega
    · rw [hlq, fl_append, fl_cons]
      show (fl enc (l.take k) ++ enc y ++ fl enc (l.drop k) ++ _).take ((l.length + 1) * 1) = _
      rw [List.take_append_of_le_length (by simp only [List.length_append, fl_length hs, List.length_take, List.length_drop, hs]; omega), List.take_of_length_le (by simp only [List.length_append, fl_length hs, List.length_take, List.length_drop, hs]; omega), List.append_assoc]
  · obtain ⟨a1, a2, a3, a4⟩ := setCells_same (g := w.heap.size) (enc y) (k * 1) (w.drew.alloc (.cells arr 3))
    obtain ⟨b1, b2, b3, b4⟩ := setCells_same (g := w.heap.size) (fl enc (l.drop k)) ((k + 1) * 1) ((w.drew.alloc (.cells arr 3)).setCells w.heap.size (k * 1) (enc y)).drew
    exact ⟨b1.trans a1, b2.trans a2, b3.trans a3, by rw [b4]; show _ ≤ (World.setCells _ _ _ _).heap.size; rw [a4]; simp, fun q hq _ => by rw [setCells_heap _ _ _ _ (by omega)]; exact far q hq⟩

set_option maxRecDepth 100000 in
set_option maxHeartbeats 2000000 in
theorem ins_grow {α : Type} {enc : α → List Value} (hs : ∀ x, (enc x).length = 1) (h1 : ∀ x, ∀ u ∈ enc x, u.oneCell' = true) (base g cap : Nat) (l : List α) (k : Nat) (hk : k < l.length) (hfull : cap < l.length + 1) (y : α) (vb : Nat) (w : World) (hb : base ≤ w.heap.size)
    (hrow : w.ownsRow base 3 1 (.slice (some ⟨g, 0, none⟩) l.length cap) l.length (fl enc l)) (hvb : Blk w vb (enc y) 3) (hl : (l.length + 1) * 8 ≤ 140737488355328) :
    Calls Try.prog 31 #[.slice (some ⟨g, 0, none⟩) l.length cap, .int .i64 k, .slice (some ⟨vb, 0, none⟩) 1 1] w (Post enc base (.slice (some ⟨g, 0, none⟩) l.length cap) l k y w) := by
  have hcap : cap = l.length := by
    obtain ⟨A, c, hv, h1, h2⟩ := own_form0 hrow; cases hv; omega
  subst hcap
  obtain ⟨i0, hi, hzz⟩ := Option.map_eq_some_iff.1 info
  simp only [Prod.mk.injEq] at hzz
  obtain ⟨hz0, hz1, hz2⟩ := hzz
  have hl2 : l.length + 1 ≤ 140737488355328 := Nat.le_trans (Nat.le_mul_of_pos_right _ (by decide)) hl
  have hcut := cut_ge (l.length + 1) l.length 3 (w.tape w.drawn (.appendCap (l.length + 1) l.length 3)) (by omega)
  obtain ⟨C, hC⟩ : ∃ C, C = grownCap w (l.length + 1) l.length 3 := ⟨_, rfl⟩
  have hC' : l.length + 1 ≤ C ∧ C ≤ 9223372036854775807 := by rw [hC]; exact hcut
  obtain ⟨hC1, hC2⟩ := hC'
  have hG := grow_core hs w base g l.length C hb l k hk hC1 hC2 y hrow
  have hlt : (fl enc (l.take k)).length = k * 1 := by rw [fl_length hs, List.length_take]; omega
  have hold : (Builtin.firstCells i0.size k (.slice (some ⟨g, 0, none⟩) k l.length)).run Try.prog w.drew = .ok (fl enc (l.take k)).toArray w.drew :=
    run_firstCells_some w.drew i0.size k ⟨g, 0, none⟩ k l.length (fl enc (l.take k)) (by rw [hz1, hlt]) (fun j u hu => by
      have hj := (List.getElem?_eq_some_iff.1 hu).1
      have := (own_cell hrow j (by rw [fl_length hs]; omega)).1
      rw [add_lit]; show w.cell? _ = _
      rw [this, ← hu, ← fl_take hs l k (by omega), List.getElem?_take, if_pos (by omega)])
  have hr := Lib.run_append_grow_zeros (P := Try.prog) w 36 3 36 3 i0 (.int .i64 0) .i64 .i64 und undi hi hz0 (some ⟨g, 0, none⟩) k l.length (fl enc (l.take k)) hold (l.length + 1 - k) (by omega) (by rw [hz1]; decide) (by omega) (by omega) (by rw [hz2]; omega) (by rw [hz2]; exact growslice_fits (by omega) (by rw [show k + (l.length + 1 - k) = l.length + 1 by omega]; exact hl))
  rw [show k + (l.length + 1 - k) = l.length + 1 by omega, ← hC, show ((l.length + 1 - k : Nat) : Int) = (l.length : Int) + 1 - (k : Int) by omega] at hr
  obtain ⟨W1, hW1⟩ : ∃ W1, W1 = w.drew.alloc (.cells ((fl enc (l.take k)).toArray ++ Builtin.zeroCells (.int .i64 0 : Value).cells (l.length + 1 - k) ++ Builtin.zeroCells (.int .i64 0 : Value).cells (C - (l.length + 1))) 3) := ⟨_, rfl⟩
  rw [← hW1] at hG hr
  have hvb1 := hG.vb vb hvb
  have hlen : (fl enc (l.drop k)).length = (l.length - k) * 1 := by rw [fl_length hs, List.length_drop]
  have hone : ∀ u ∈ fl enc (l.drop k), u.oneCell' = true := by
    intro u hu; obtain ⟨x, _, hx⟩ := List.mem_flatMap.1 hu; exact h1 x u hx
  have hcp1 : ∀ ty dl dc, 1 ≤ dl → (Builtin.copy_ #[36, 36] ty #[.slice (some ⟨w.heap.size, k * 1, none⟩) dl dc, .slice (some ⟨vb, 0, none⟩) 1 1]).run Try.prog W1 = .ok (goInt 1) (W1.setCells w.heap.size (k * 1) (enc y)) :=
    fun ty dl dc hd => run_copy_cells _ _ _ ty _ _ _ dl dc ⟨vb, 0, none⟩ 1 1 1 1 _ (by omega) und infos (by rw [hs]) (fun j u hu => by rw [add_lit, hvb1.cell]; exact hu) hG.c1 hG.f1 (h1 y)
  have hcp2 : ∀ ty dl dc sl sc, l.length - k = min sl dl → (Builtin.copy_ #[36, 36] ty #[.slice (some ⟨w.heap.size, (k + 1) * 1, none⟩) dl dc, .slice (some ⟨g, k * 1, none⟩) sl sc]).run Try.prog (W1.setCells w.heap.size (k * 1) (enc y)).drew = .ok (goInt ((l.length - k : Nat) : Int)) ((W1.setCells w.heap.size (k * 1) (enc y)).drew.setCells w.heap.size ((k + 1) * 1) (fl enc (l.drop k))) :=
    fun ty dl dc sl sc hm => run_copy_cells _ _ _ ty _ _ _ dl dc ⟨g, k * 1, none⟩ sl sc 1 (l.length - k) _ hm und infos hlen (fun j u hu => by rw [Addr.add_lit]; exact hG.old j u hu) hG.c2 hG.f2 hone
  have hfin := hG.fin
  obtain ⟨W2, hW2⟩ : ∃ W2, W2 = W1.setCells w.heap.size (k * 1) (enc y) := ⟨_, rfl⟩
  rw [← hW2] at hcp1 hcp2 hfin
  try simp only [Nat.mul_one] at hcp1 hcp2 hfin
  replace hfin := Lib.hid hfin
  replace hr := Lib.hid hr
  clear hG hvb1 hvb hone hlen hold hlt hcut hb hs h1 hrow hi hz0 hz1 hz2 hW1 hW2 hC hl
  generalize hn : l.length = n at *
  replace hn := Lib.hid hn
  have g1 : ∀ ty dc, _ := fun ty dc => hcp1 ty (n + 1 - k) dc (by omega)
  have g2 : ∀ ty dc sc, _ := fun ty dc sc => hcp2 ty (n - k) dc (n - k) sc (by omega)
  clear hcp1 hcp2
  have e1 : ¬ n = k := by omega
  have e2 : ¬ (k : Int) = (n : Int) := by omega
  have e5 : (n : Int) < (n : Int) + 1 := by omega
  have e6 : ¬ C = k := by omega
  have e7 : ¬ C = k + 1 := by omega
  have f0 : (0 : Int) ≤ (k : Int) + 1 := by omega
  have f1 : (k : Int) ≤ (n : Int) := by omega
  have f2 : k ≤ n := by omega
  have f4 : (k : Int) + 1 ≤ (n : Int) + 1 := by omega
  have f5 : k + 1 ≤ n + 1 := by omega
  have f8 : (k : Int) ≤ (n : Int) + 1 := by omega
  have f9 : k ≤ n + 1 := by omega
  go_enter Try.func31, Try.ntmps31
  go_wp2_with (at_builtin; go_must (refine Lib.wpList_append_run w rfl (.tmp 34) (.tmp 39) 36 3 rfl (.slice (some ⟨g, 0, none⟩) k n) (.int .i64 ((n : Int) + 1 - (k : Int))) rfl rfl _ _ hr.out ?_))
  have f6 : IntKind.i64.wrap ((k : Int) + 1) = (k : Int) + 1 := IntWalk.i64_in _ (by omega)
  have f7 : ((k : Int) + 1).toNat = k + 1 := by omega
  go_region
  clear f6 f7
  go_wp2
  go_ret
  exact hfin.out

theorem ins {α : Type} {enc : α → List Value} (hs : ∀ x, (enc x).length = 1) (h1 : ∀ x, ∀ u ∈ enc x, u.oneCell' = true) (base : Nat) (v : Value) (l : List α) (k : Nat) (hk : k ≤ l.length) (y : α) (vb : Nat) (w : World) (hb : base ≤ w.heap.size)
    (hrow : w.ownsRow base 3 1 v l.length (fl enc l)) (hvb : Blk w vb (enc y) 3) (hne : v.ownBlock ≠ some vb) (hl : (l.length + 1) * 8 ≤ 140737488355328) :
    Calls Try.prog 31 #[v, .int .i64 k, .slice (some ⟨vb, 0, none⟩) 1 1] w (Post enc base v l k y w) := by
  rcases Nat.lt_or_eq_of_le hk with hlt | rfl
  · obtain ⟨g, cap, rfl, hcap, -⟩ := own_form hrow (by omega)
    rcases Nat.lt_or_ge cap (l.length + 1) with h | h
    · exact ins_grow hs h1 base g cap l k hlt h y vb w hb hrow hvb hl
    · exact ins_room hs h1 base g cap l k hlt h y vb w hrow hvb (fun e => hne (by rw [e]; rfl))
  · exact ins_end hs h1 base v l y vb w hrow hb hvb hl

end Go.Proofs.Ytglmdoghknpgkaa.InsI

/- slices.Delete of one element, at pace.sent, in a row of the program's own. -/
namespace Go.Proofs.Ytglmdoghknpgkaa.DelSent
set_option linter.unusedVariables false
set_option linter.unusedSimpArgs false
open Go.RowKit
set_option maxRecDepth 20000

theorem und : Try.prog.underlying 47 = some (.slice 51) := by kernel_rfl
theorem info : (Try.prog.info? 51).map (fun i => (i.zero, i.size, i.bytes)) = some (some (.agg #[.int .i64 0, .int .i64 0, .int .i64 0]), 3, 24) := by kernel_rfl
theorem zero : ∀ w : World, (zeroValue 51).run Try.prog w = .ok (.agg #[.int .i64 0, .int .i64 0, .int .i64 0]) w := fun _ => by kernel_rfl

structure Post {α : Type} (enc : α → List Value) (base g cap : Nat) (l : List α) (k : Nat) (w : World) (e : Ending) (w' : World) : Prop where
  e : e = .returned (.slice (some ⟨g, 0, none⟩) (l.length - 1) cap)
  row : w'.ownsRow base 51 3 (.slice (some ⟨g, 0, none⟩) (l.length - 1) cap) (l.eraseIdx k).length (fl enc (l.eraseIdx k))
  grown : w.grownBy w' (some g)

theorem core {α : Type} {enc : α → List Value} (hs : ∀ x, (enc x).length = 3) (base g cap : Nat) (l : List α) (k : Nat) (hk : k < l.length) (w : World)
    (hrow : w.ownsRow base 51 3 (.slice (some ⟨g, 0, none⟩) l.length cap) l.length (fl enc l)) :
    let W1 := w.drew.setCells g (0 + k * 3) (fl enc (l.drop (k + 1)))
    (∀ j, j < 1 * (.agg #[.int .i64 0, .int .i64 0, .int .i64 0] : Value).cells.size → (W1.cell? ⟨g, (l.length - 1) * 3 + j, none⟩).isSome = true) ∧ (∀ j, j < 1 * (.agg #[.int .i64 0, .int .i64 0, .int .i64 0] : Value).cells.size → W1.frozen? ⟨g, (l.length - 1) * 3 + j, none⟩ = false) ∧
    Post enc base g cap l k w (.returned (.slice (some ⟨g, 0, none⟩) (l.length - 1) cap)) (W1.setCells g ((l.length - 1) * 3) (Builtin.zeroCells (.agg #[.int .i64 0, .int .i64 0, .int .i64 0] : Value).cells 1).toList) := by
  intro W1
  obtain ⟨g', cap', cur, hv, hg, hh, hn, hc, hsz, ht⟩ := hrow.2.resolve_left (fun h => by cases h.1)
  cases hv
  have hb : Blk w g cur.toList 51 := by unfold Blk; simpa using hh
  have hb1 : Blk w.drew g cur.toList 51 := hb
  have hlen : (fl enc (l.drop (k + 1))).length = (l.length - (k + 1)) * 3 := by rw [fl_length hs, List.length_drop]
  have hz : (.agg #[.int .i64 0, .int .i64 0, .int .i64 0] : Value).cells.size = 3 := rfl
  have hcl : cur.toList.length = cap * 3 := by simpa using hsz
  have hb2 : Blk W1 g _ 51 := hb1.setCells (fl enc (l.drop (k + 1))) (0 + k * 3) _ _ (by rw [hlen, hcl]; omega)
  have hl2 : (cur.toList.take (0 + k * 3) ++ fl enc (l.drop (k + 1)) ++ cur.toList.drop (0 + k * 3 + (fl enc (l.drop (k + 1))).length)).length = cap * 3 := by
    simp only [List.length_append, List.length_take, List.length_drop, hlen, hcl]; omega
  have htake : (cur.toList.take (0 + k * 3) ++ fl enc (l.drop (k + 1)) ++ cur.toList.drop (0 + k * 3 + (fl enc (l.drop (k + 1))).length)).take ((l.length - 1) * 3) = fl enc (l.eraseIdx k) := by
    rw [List.take_append_of_le_length (by simp only [List.length_append, List.length_take, hlen, hcl]; omega), List.take_of_length_le (by simp only [List.length_append, List.length_take, hlen, hcl]; omega)]
    have : cur.toList.take (0 + k * 3) = fl enc (l.take k) := by
      rw [← fl_take hs l k (by omega), ← ht, List.take_take]; congr 1; omega
    rw [this, ← fl_append, List.eraseIdx_eq_take_drop_succ]
  generalize cur.toList.take (0 + k * 3) ++ fl enc (l.drop (k + 1)) ++ cur.toList.drop (0 + k * 3 + (fl enc (l.drop (k + 1))).length) = cs at *
  refine ⟨fun j hj => ?_, fun j _ => hb2.frozen _, rfl, ?_, ?_⟩
  · rw [hb2.cell, List.getElem?_eq_getElem (by omega)]; rfl
  · have hb3 := hb2.setCells (Builtin.zeroCells (.agg #[.int .i64 0, .int .i64 0, .int .i64 0] : Value).cells 1).toList ((l.length - 1) * 3) _ _ (by rw [zeroCells_length]; omega)
    have he : (l.eraseIdx k).length = l.length - 1 := by rw [List.length_eraseIdx, if_pos hk]
    refine ⟨by rw [fl_length hs], .inr ⟨g, cap, _, by rw [he], hg, hb3, by omega, hc, ?_, ?_⟩⟩
    · simp only [List.size_toArray, List.length_append, List.length_take, List.length_drop, zeroCells_length, hz]; omega
    · rw [he]
      show (cs.take ((l.length - 1) * 3) ++ (Builtin.zeroCells (.agg #[.int .i64 0, .int .i64 0, .int .i64 0] : Value).cells 1).toList ++ cs.drop _).take ((l.length - 1) * 3) = _
      rw [List.append_assoc, List.take_append_of_le_length (by rw [List.length_take]; omega), List.take_take, Nat.min_self, htake]
  · have g1 : w.grownBy w.drew (some g) := ⟨rfl, rfl, rfl, Nat.le_refl _, fun _ _ _ => rfl⟩
    exact (g1.trans (setCells_grown _ _ _)).trans (setCells_grown _ _ _)

theorem del {α : Type} {enc : α → List Value} (hs : ∀ x, (enc x).length = 3) (h1 : ∀ x, ∀ u ∈ enc x, u.oneCell' = true) (base g cap : Nat) (l : List α) (k : Nat) (hk : k < l.length) (w : World)
    (hrow : w.ownsRow base 51 3 (.slice (some ⟨g, 0, none⟩) l.length cap) l.length (fl enc l)) :
    Calls Try.prog 27 #[.slice (some ⟨g, 0, none⟩) l.length cap, .int .i64 k, .int .i64 (k + 1)] w (Post enc base g cap l k w) := by
  obtain ⟨c1, c2, hfin⟩ := core hs base g cap l k hk w hrow
  obtain ⟨i0, hi, hzz⟩ := Option.map_eq_some_iff.1 info
  simp only [Prod.mk.injEq] at hzz
  obtain ⟨_, hz1, _⟩ := hzz
  have hcap : l.length ≤ cap ∧ cap ≤ 9223372036854775807 := by
    obtain ⟨A, c, hv, h1, h2⟩ := own_form0 hrow; cases hv; exact ⟨h1, by simpa [maxLen] using h2⟩
  obtain ⟨hcap1, hcap2⟩ := hcap
  have hlen : (fl enc (l.drop (k + 1))).length = (l.length - (k + 1)) * 3 := by rw [fl_length hs, List.length_drop]
  have hcells : ∀ j u, (fl enc (l.drop (k + 1)))[j]? = some u → w.drew.cell? ⟨g, (k + 1) * 3 + j, none⟩ = some u := by
    intro j u hu
    have := (own_cell hrow ((k + 1) * 3 + j) (by have := (List.getElem?_eq_some_iff.1 hu).1; rw [hlen] at this; rw [fl_length hs]; omega)).1
    rw [← List.getElem?_drop, fl_drop hs l (k + 1) (by omega), hu] at this
    exact this
  have hone : ∀ u ∈ fl enc (l.drop (k + 1)), u.oneCell' = true := by
    intro u hu; obtain ⟨x, _, hx⟩ := List.mem_flatMap.1 hu; exact h1 x u hx
  have hspare : ∀ j, j < (fl enc (l.drop (k + 1))).length → (w.drew.cell? ⟨g, 0 + k * 3 + j, none⟩).isSome = true ∧ w.drew.frozen? ⟨g, 0 + k * 3 + j, none⟩ = false := by
    intro j hj
    have := own_cell hrow (0 + k * 3 + j) (by rw [hlen] at hj; rw [fl_length hs]; omega)
    refine ⟨?_, this.2⟩
    show (w.cell? _).isSome = true
    rw [this.1, List.getElem?_eq_getElem (by rw [hlen] at hj; rw [fl_length hs]; omega)]; rfl
  have hclr : ∀ ty c, (Builtin.clear_ #[47] ty #[.slice (some ⟨g, (l.length - 1) * 3, none⟩) 1 c]).run Try.prog (w.drew.setCells g (0 + k * 3) (fl enc (l.drop (k + 1)))) = .ok (.tuple #[]) ((w.drew.setCells g (0 + k * 3) (fl enc (l.drop (k + 1)))).setCells g ((l.length - 1) * 3) (Builtin.zeroCells (.agg #[.int .i64 0, .int .i64 0, .int .i64 0] : Value).cells 1).toList) :=
    fun ty c => run_clear_cells _ _ _ ty (.agg #[.int .i64 0, .int .i64 0, .int .i64 0]) und zero (by decide) g ((l.length - 1) * 3) 1 _ (by decide) c1 c2
  obtain ⟨W1, hW1⟩ : ∃ W1, W1 = w.drew.setCells g (0 + k * 3) (fl enc (l.drop (k + 1))) := ⟨_, rfl⟩
  rw [← hW1] at hclr hfin
  replace hfin := Lib.hid hfin
  replace hcells := Lib.hid hcells
  replace hone := Lib.hid hone
  replace hspare := Lib.hid hspare
  replace hlen := Lib.hid hlen
  replace hW1 := Lib.hid hW1
  replace hz1 := Lib.hid hz1
  replace hi := Lib.hid hi
  clear c1 c2 hs h1 hrow
  generalize hn : l.length = n at *
  obtain ⟨n, rfl⟩ : ∃ m, n = m + 1 := ⟨n - 1, by omega⟩
  replace hn := Lib.hid hn
  simp only [Nat.add_sub_cancel] at hclr
  by_cases hend : k + 1 = cap
  · have hkn : k = n := by omega
    subst hkn
    subst hend
    have f1 : (k : Int) ≤ (k : Int) + 1 := by omega
    have f0 : (0 : Int) ≤ (k : Int) + 1 := by omega
    go_enter Try.func27, Try.ntmps27
    go_wp2
    go_region_law (refine step_append_room rfl (.tmp 22) (.tmp 25) 47 rfl 51 i0 3 und hi.out hz1.out g 0 k (k + 1) (by simp [Act.eval, Act.put]) ⟨g, 0, none⟩ 0 0 (fl enc (l.drop (k + 1))) (by simp [Act.eval, Act.put]) (by rw [hlen.out]; simp) (fun j u hu => absurd (List.getElem?_eq_some_iff.1 hu).1 (by rw [hlen.out]; simp)) hone.out (by omega) hspare.out ?_; rw [← hW1.out])
    go_wp2
    go_ret
    exact hfin.out
  · have hadd : (⟨g, 0, none⟩ : Addr).add ((k + 1) * 3) = ⟨g, (k + 1) * 3, none⟩ := by unfold Addr.add; split <;> simp_all
    have f0 : (0 : Int) ≤ (k : Int) + 1 := by omega
    have f4 : (k : Int) + 1 ≤ (n : Int) + 1 := by omega
    have f5 : (k : Int) ≤ n := by omega
    have f1 : k ≤ cap := by omega
    have f2 : k + 1 ≤ cap := by omega
    have f3 : k + 1 ≤ n + 1 := by omega
    have f6 : k + (n - k) = n := by omega
    have f7 : (k : Int) + ((n - k : Nat) : Int) = n := by omega
    have f8 : n + 1 - n = 1 := by omega
    have f9 : n ≤ cap := by omega
    go_enter Try.func27, Try.ntmps27
    go_wp2
    go_region_law (refine step_append_room rfl (.tmp 22) (.tmp 25) 47 rfl 51 i0 3 und hi.out hz1.out g 0 k cap (by simp [Act.eval, Act.put]) ⟨g, (k + 1) * 3, none⟩ (n + 1 - (k + 1)) (cap - (k + 1)) (fl enc (l.drop (k + 1))) (by simp [Act.eval, Act.put, show ¬ cap = k + 1 from fun h => hend h.symm]) (by rw [hlen.out]) (fun j u hu => by rw [Addr.add_lit]; exact hcells.out j u hu) hone.out (by omega) hspare.out ?_; rw [← hW1.out])
    go_wp2
    go_ret
    exact hfin.out

end Go.Proofs.Ytglmdoghknpgkaa.DelSent

/- slices.IndexFunc at pace.sent. -/
namespace Go.Proofs.Ytglmdoghknpgkaa.IdxSent
set_option linter.unusedVariables false
set_option linter.unusedSimpArgs false
open Go.RowKit

structure Post {α : Type} (p : α → Bool) (l : List α) (w : World) (e : Ending) (w' : World) : Prop where
  e : e = .returned (.int .i64 (idxOf p l))
  below : Below w.heap.size w w'

theorem index {α : Type} {enc : α → List Value} (hs : ∀ x, (enc x).length = 3) (K : Nat) (caps : Array Value) (p : α → Bool) (v : Value) (l : List α) (w : World) (hv : Rd enc w v l) (hcf : ∀ args w, (callFunc K args).run Try.prog w = .ok (.enter K args) w)
    (hp : ∀ x ∈ l, ∀ w', Below w.heap.size w w' → Calls Try.prog K (#[.agg (enc x).toArray] ++ caps) w' fun e w'' => e = .returned (.bool (p x)) ∧ Below w'.heap.size w' w'') :
    Calls Try.prog 25 #[v, .func (.func K) #[] caps] w (Post p l w) := by
  obtain ⟨A, cap, rfl, hlc, hcm, hn, hc⟩ := hv
  have hfin : ∀ k w', k ≤ l.length → (∀ j (h : j < l.length), j < k → p l[j] = false) → Below w.heap.size w w' → (k = l.length → Post p l w (.returned (.int .i64 (-1))) w') ∧ (∀ h : k < l.length, p l[k] = true → Post p l w (.returned (.int .i64 k)) w') :=
    fun k w' hk hj hb => ⟨fun h => ⟨by rw [idxOf_none (fun j hjl => hj j hjl (by omega))], hb⟩, fun h hp => ⟨by rw [idxOf_some h hp (fun j hjk => hj j (by omega) hjk)], hb⟩⟩
  replace hfin := Lib.hid hfin
  replace hp := Lib.hid hp
  replace hc := Lib.hid hc
  replace hn := Lib.hid hn
  go_enter Try.func25, Try.ntmps25
  go_wp2
  go_loopw [5, 8] (fun _ c wr => ∃ k : Nat, k ≤ l.length ∧ c = .int .i64 k ∧ Below w.heap.size w wr ∧ Hid (∀ j (h : j < l.length), j < k → p l[j] = false)) (fun _ c _ => l.length - (intOf c).toNat)
  case atStart => exact ⟨0, Nat.zero_le _, rfl, Below.refl _ _, fun j _ h => absurd h (Nat.not_lt_zero _)⟩
  case round =>
    obtain ⟨k, hk, rfl, hb, hj⟩ := hrel
    by_cases hlt : k < l.length
    · obtain ⟨ad, rfl⟩ : ∃ ad, A = some ad := by
        cases A with
        | none => have := (hn.out rfl).1; rw [this] at hlt; exact absurd hlt (Nat.not_lt_zero _)
        | some ad => exact ⟨ad, rfl⟩
      have hx : enc l[k] = [(enc l[k]).getD 0 undef, (enc l[k]).getD 1 undef, (enc l[k]).getD 2 undef] := lit3 (hs _)
      have hcl : ∀ j u, (fl enc l)[j]? = some u → wr.cell? (ad.add j) = some u := fun j u hu => by
        have := hc.out ad rfl j u hu
        rw [hb.cell (World.block_lt_of_cell? w _ this)]; exact this
      have e0 := elem_c0 hs hcl k hlt ((enc l[k]).getD 0 undef) (by rw [hx]; rfl)
      have e0' := elem_cS hs hcl k hlt 0 ((enc l[k]).getD (0 + 1) undef) (by rw [hx]; rfl)
      have e1' := elem_cS hs hcl k hlt 1 ((enc l[k]).getD (1 + 1) undef) (by rw [hx]; rfl)
      simp only [Nat.zero_add, Nat.reduceAdd] at e0' e1'
      have hp1 := hp.out l[k] (List.getElem_mem hlt) wr hb
      rw [hx] at hp1
      have hf : ∀ w', p l[k] = true → Below wr.heap.size wr w' → Post p l w (.returned (.int .i64 k)) w' := fun w' h h' => (hfin.out k w' hk hj (hb.trans (h'.mono hb.size))).2 hlt h
      have hj2 : p l[k] = false → Hid (∀ j (h : j < l.length), j < k + 1 → p l[j] = false) := fun h j hjl hjk => by
        rcases Nat.lt_or_ge j k with h1 | h1
        · exact hj j hjl h1
        · obtain rfl : j = k := by omega
          exact h
      replace hf := Lib.hid hf
      replace hj2 := Lib.hid hj2
      clear hcl hx
      generalize l[k] = x at *
      generalize (enc x).getD 0 undef = c0 at *
      generalize (enc x).getD 1 undef = c1 at *
      generalize (enc x).getD 2 undef = c2 at *
      cases hpx : p x
      · rw [hpx] at hp1
        replace hp1 := Lib.hid hp1
        replace hpx := Lib.hid hpx
        go_wp2_with (with_reducible refine hp1.out.mono ?_; rintro e w1 ⟨rfl, hb1⟩)
        go_roundw
        case rel => exact ⟨k + 1, by omega, by go_num, hb.trans (hb1.mono hb.size), hj2.out hpx.out⟩
        case measure => simp [intOf]; omega
      · rw [hpx] at hp1
        replace hp1 := Lib.hid hp1
        replace hpx := Lib.hid hpx
        go_wp2_with (with_reducible refine hp1.out.mono ?_; rintro e w1 ⟨rfl, hb1⟩)
        have hf2 := hf.out w1 hpx.out hb1
        replace hf2 := Lib.hid hf2
        go_ret
        exact hf2.out
    · have hf := (hfin.out k _ hk hj hb).1 (by omega)
      replace hf := Lib.hid hf
      go_wp2
      go_ret
      exact hf.out

end Go.Proofs.Ytglmdoghknpgkaa.IdxSent

/- The walks of pace's New, Send, Told, Len. -/
namespace Go.Proofs.Ytglmdoghknpgkaa
set_option linter.unusedVariables false
set_option linter.unusedSimpArgs false
open Go.RowKit

theorem new_no (now : Int) (w : World) (h : now < 0 ∨ 1073741824 < now) : Calls Try.prog 9 #[.int .i64 now] w fun e w' => e = .returned (.pointer none) ∧ w = w' := by
  rcases h with h | h
  · go_enter Try.func9, Try.ntmps9
    go_wp2
    go_ret
    exact ⟨rfl, rfl⟩
  · have h0 : ¬ now < 0 := by omega
    go_enter Try.func9, Try.ntmps9
    go_wp2
    go_ret
    exact ⟨rfl, rfl⟩

theorem new_yes (now : Int) (w : World) (h0 : 0 ≤ now) (h1 : now ≤ 1073741824) : Calls Try.prog 9 #[.int .i64 now] w fun e w' =>
    e = .returned (.pointer (some ⟨w.heap.size, 0, none⟩)) ∧ w.alloc (.cells #[.int .i64 now, .int .i64 0, .slice none 0 0] P0) = w' := by
  go_enter Try.func9, Try.ntmps9
  go_wp2
  go_ret
  exact ⟨rfl, rfl⟩

theorem len_nil (w : World) : Calls Try.prog 19 #[.pointer none] w fun e w' => e = .returned (.int .i64 0) ∧ w = w' := by
  go_enter Try.func19, Try.ntmps19
  go_wp2
  go_ret
  exact ⟨rfl, rfl⟩

theorem len_any (g : Nat) (v : Value) (p : PaceS) (w : World) (hp : PAt P0 E0 w g v p) : Calls Try.prog 19 #[.pointer (some ⟨g, 0, none⟩)] w fun e w' => e = .returned (.int .i64 p.l.length) ∧ w = w' := by
  obtain ⟨A, cap, rfl, -⟩ := own_form0 hp.row
  have c2 : w.cell? ⟨g, 2, none⟩ = some (.slice A p.l.length cap) := hp.blk.cell 2
  clear hp
  go_enter Try.func19, Try.ntmps19
  go_wp2
  go_ret
  exact ⟨rfl, rfl⟩

theorem told1 (s : Sent) (n : Int) (b : Nat) (w : World) (hc : w.cell? ⟨b, 0, none⟩ = some (.int .i64 n)) : Calls Try.prog 26 #[.agg #[.int .i64 s.n, .int .i64 s.at_, .int .i64 s.tries], .pointer (some ⟨b, 0, none⟩)] w fun e w' => e = .returned (.bool (s.n == n)) ∧ Below w.heap.size w w' := by
  have hc' := alloc_cell hc
  go_enter Try.func26, Try.ntmps26
  go_wp2
  go_ret
  exact ⟨rfl, by first | exact Below.refl _ _ | exact (Below.refl _ _).alloc (Nat.le_refl _) _⟩

def SendPost (g : Nat) (v : Value) (p : PaceS) (now n : Int) (w : World) (e : Ending) (w' : World) : Prop :=
  ∃ p' v', e = .returned (.bool (p.send now n).isSome) ∧ p' = (p.send now n).getD p ∧ PAt P0 E0 w' g v' p' ∧ Kept (fun k => k = g ∨ v.ownBlock = some k) w w' ∧ (∀ k, v'.ownBlock = some k → v.ownBlock = some k ∨ w.heap.size ≤ k)

theorem send_nil (now n : Int) (w : World) : Calls Try.prog 12 #[.pointer none, .int .i64 now, .int .i64 n] w fun e w' => e = .returned (.bool false) ∧ w = w' := by
  go_enter Try.func12, Try.ntmps12
  go_wp2
  go_ret
  exact ⟨rfl, rfl⟩

theorem send_any (g : Nat) (v : Value) (p : PaceS) (now n : Int) (w : World) (hp : PAt P0 E0 w g v p) (hl : p.l.length ≤ 64) : Calls Try.prog 12 #[.pointer (some ⟨g, 0, none⟩), .int .i64 now, .int .i64 n] w (SendPost g v p now n w) := by
  have hno : p.send now n = none → SendPost g v p now n w (.returned (.bool false)) w := fun h => ⟨_, _, by rw [h]; rfl, rfl, by rw [h]; exact hp, Kept.refl _ _, fun k hk => .inl hk⟩
  obtain ⟨A, cap, rfl, -⟩ := own_form0 hp.row
  have c0 : w.cell? ⟨g, 0, none⟩ = some (.int .i64 p.now) := hp.blk.cell 0
  have c1 : w.cell? ⟨g, 1, none⟩ = some (.int .i64 p.last) := hp.blk.cell 1
  have c2 : w.cell? ⟨g, 2, none⟩ = some (.slice A p.l.length cap) := hp.blk.cell 2
  have f0 := hp.blk.frozen 0
  have f1 := hp.blk.frozen 1
  have f2 := hp.blk.frozen 2
  by_cases h1 : now < p.now
  · have hf := hno (by simp [PaceS.send, PaceS.may, h1])
    replace hf := Lib.hid hf
    clear hno hp
    go_enter Try.func12, Try.ntmps12
    go_wp2
    go_ret
    exact hf.out
  by_cases h2 : 1073741824 < now
  · have hf := hno (by simp [PaceS.send, PaceS.may, h2])
    replace hf := Lib.hid hf
    clear hno hp
    go_enter Try.func12, Try.ntmps12
    go_wp2
    go_ret
    exact hf.out
  by_cases h3 : n ≤ p.last
  · have hf := hno (by simp [PaceS.send, PaceS.may, h3])
    replace hf := Lib.hid hf
    clear hno hp
    go_enter Try.func12, Try.ntmps12
    go_wp2
    go_ret
    exact hf.out
  by_cases h4 : 64 ≤ p.l.length
  · have hf := hno (by simp [PaceS.send, PaceS.may, h4])
    replace hf := Lib.hid hf
    clear hno hp
    go_enter Try.func12, Try.ntmps12
    go_wp2
    go_ret
    exact hf.out
  have hsend : p.send now n = some ⟨now, n, p.l ++ [(Sent.mk n now 1)]⟩ := by simp [PaceS.send, PaceS.may, h1, h2, h3, h4]
  clear hno
  have hglt := hp.blk.lt
  have hne := hp.ne (by decide)
  have hrow := Lib.hid hp.row
  have hfin : ∀ v1 w1, w1.ownsRow 0 E0 3 v1 (p.l ++ [(Sent.mk n now 1)]).length (fl Sent.cells (p.l ++ [(Sent.mk n now 1)])) → w.grownBy w1 (Value.slice A p.l.length cap).ownBlock → (v1.ownBlock = (Value.slice A p.l.length cap).ownBlock ∨ v1.ownBlock = some (w.heap.size + 1)) →
      (w1.frozen? ⟨g, 0, none⟩ = false ∧ w1.frozen? ⟨g, 1, none⟩ = false ∧ w1.frozen? ⟨g, 2, none⟩ = false ∧ (w1.cell? ⟨g, 0, none⟩ = some (.int .i64 p.now)) ∧ (w1.cell? ⟨g, 1, none⟩ = some (.int .i64 p.last)) ∧ (w1.cell? ⟨g, 2, none⟩ = some (.slice A p.l.length cap))) ∧
      SendPost g (.slice A p.l.length cap) p now n w (.returned (.bool true)) (((w1.setCell ⟨g, 0, none⟩ (.int .i64 now)).setCell ⟨g, 1, none⟩ (.int .i64 n)).setCell ⟨g, 2, none⟩ v1) := by
    intro v1 w1 hr hg hb
    have hk : Kept (fun k => (Value.slice A p.l.length cap).ownBlock = some k) w w1 := (Kept.refl _ _).grown hg (fun k e _ => e)
    have hblk := hk.blk hp.blk hne
    have hne1 : v1.ownBlock ≠ some g := by
      rcases hb with hb | hb
      · rw [hb]; exact hne
      · rw [hb]; intro e; injection e with e; omega
    refine ⟨⟨hblk.frozen 0, hblk.frozen 1, hblk.frozen 2, hblk.cell 0, hblk.cell 1, hblk.cell 2⟩, _, v1, by rw [hsend]; rfl, rfl, ?_, ?_, ?_⟩
    · rw [hsend]
      refine ⟨((hblk.set 0 _).set 1 _).set 2 _, own_far (own_far (own_far hr hne1 _) hne1 _) hne1 _, ?_⟩
      intro s hs
      rcases List.mem_append.1 hs with hs | hs
      · exact hp.tries s hs
      · obtain rfl := List.mem_singleton.1 hs; simp
    · exact (((hk.mono (fun k _ h => .inr h)).set (p := ⟨g, 0, none⟩) (fun _ => .inl rfl) _).set (p := ⟨g, 1, none⟩) (fun _ => .inl rfl) _).set (p := ⟨g, 2, none⟩) (fun _ => .inl rfl) _
    · intro k hk'
      rcases hb with hb | hb
      · exact .inl (by rw [← hb]; exact hk')
      · rw [hb] at hk'; injection hk' with hk'; exact .inr (by omega)
  replace hfin := Lib.hid hfin
  replace hsend := Lib.hid hsend
  replace hne := Lib.hid hne
  clear hp
  go_enter Try.func12, Try.ntmps12
  go_wp2_with (at_builtin; go_must (refine app1 (enc := Sent.cells) (size := 3) 0 rfl _ _ 47 E0 (.agg #[.int .i64 0, .int .i64 0, .int .i64 0]) 24 rfl DelSent.und DelSent.info rfl (by decide) (by decide) Sent.len (.slice A p.l.length cap) p.l (Sent.mk n now 1) _ rfl rfl rfl (by simp) (by simp [Sent.cells, Value.oneCell']) hrow.out (Nat.zero_le _) (by omega) ?_); intro v1 w1 ho hg hb; obtain ⟨⟨g0, g1, g2, d0, d1, d2⟩, hf⟩ := hfin.out v1 w1 ho hg hb; replace hf := Lib.hid hf; obtain ⟨A1, cap1, hv1, -⟩ := own_form0 ho; rw [List.length_append, List.length_singleton] at hv1; subst hv1; clear ho hg hb)
  go_ret
  exact hf.out

def ToldPost (g : Nat) (v : Value) (p : PaceS) (n : Int) (w : World) (e : Ending) (w' : World) : Prop :=
  ∃ v', e = .returned (.bool (p.told n).2) ∧ PAt P0 E0 w' g v' (p.told n).1 ∧ Kept (fun k => k = g ∨ v.ownBlock = some k) w w' ∧ (∀ k, v'.ownBlock = some k → v.ownBlock = some k ∨ w.heap.size ≤ k)

theorem told_nil (n : Int) (w : World) : Calls Try.prog 17 #[.pointer none, .int .i64 n] w fun e w' => e = .returned (.bool false) ∧ Below w.heap.size w w' := by
  go_enter Try.func17, Try.ntmps17
  go_wp2
  go_ret
  exact ⟨rfl, (Below.refl _ _).alloc (Nat.le_refl _) _⟩

theorem told_cf : ∀ (args : Array Value) (w : World), (callFunc 26 args).run Try.prog w = .ok (.enter 26 args) w := fun _ _ => by kernel_rfl

theorem told_any (g : Nat) (v : Value) (p : PaceS) (n : Int) (w : World) (hp : PAt P0 E0 w g v p) : Calls Try.prog 17 #[.pointer (some ⟨g, 0, none⟩), .int .i64 n] w (ToldPost g v p n w) := by
  have hidx := idxOf_cases (fun s : Sent => s.n == n) p.l
  have hpa : ∀ o w', Below (w.alloc o).heap.size (w.alloc o) w' → PAt P0 E0 w' g v p := fun o w' hb =>
    hp.kept (S := fun _ => False) (Kept.of_below (((Below.refl w.heap.size w).alloc (Nat.le_refl _) o).trans (hb.mono (by simp)))) (fun h => h) (fun _ _ h => h)
  have hkk : ∀ o w', Below (w.alloc o).heap.size (w.alloc o) w' → Below w.heap.size w w' := fun o w' hb => ((Below.refl w.heap.size w).alloc (Nat.le_refl _) o).trans (hb.mono (by simp))
  obtain ⟨A, cap, rfl, hlc, hcm⟩ := own_form0 hp.row
  have hlen : p.l.length ≤ 9223372036854775807 := by simp only [maxLen] at hcm; omega
  clear hlc hcm
  have hrd : ∀ o, Rd Sent.cells (w.alloc o) (.slice A p.l.length cap) p.l := fun o => (Rd.of_own hp.row).alloc o
  have c2 : w.cell? ⟨g, 2, none⟩ = some (.slice A p.l.length cap) := hp.blk.cell 2
  have hcl : ∀ x ∈ p.l, ∀ w', Below (w.alloc (.cells #[.int .i64 n] 3)).heap.size (w.alloc (.cells #[.int .i64 n] 3)) w' → Calls Try.prog 26 (#[.agg x.cells.toArray] ++ #[.pointer (some ⟨w.heap.size, 0, none⟩)]) w' fun e w'' => e = .returned (.bool (x.n == n)) ∧ Below w'.heap.size w' w'' := by
    intro x _ w' hb
    refine told1 x n w.heap.size w' ?_
    rw [hb.cell (by simp)]
    exact (Blk.new w #[.int .i64 n] 3).cell 0
  replace hcl := Lib.hid hcl
  replace hrd := Lib.hid hrd
  replace hpa := Lib.hid hpa
  replace hkk := Lib.hid hkk
  have hgl := hp.blk.lt
  have hrow := hp.row
  clear hp
  rcases hidx with ⟨hi, hf⟩ | ⟨k, hk, hi, hf⟩
  · have ht : p.told n = (p, false) := by simp [PaceS.told, PaceS.find, hf]
    replace hi := Lib.hid hi
    replace ht := Lib.hid ht
    clear hf hrow
    go_enter Try.func17, Try.ntmps17
    go_wp2_with (go_at_call 25; go_must (refine (IdxSent.index Sent.len 26 #[.pointer (some ⟨w.heap.size, 0, none⟩)] (fun s : Sent => s.n == n) _ p.l _ (hrd.out _) told_cf hcl.out).mono ?_); rintro e w1 ⟨rfl, hb⟩; rw [hi.out])
    have hfin : ToldPost g (.slice A p.l.length cap) p n w (.returned (.bool false)) w1 := ⟨_, by rw [ht.out], by rw [ht.out]; exact hpa.out _ _ hb, Kept.of_below (hkk.out _ _ hb), fun k hk => .inl hk⟩
    replace hfin := Lib.hid hfin
    clear hb
    go_ret
    exact hfin.out
  · have ht : p.told n = (⟨p.now, p.last, p.l.eraseIdx k⟩, true) := by simp [PaceS.told, PaceS.find, hf]
    replace hi := Lib.hid hi
    replace ht := Lib.hid ht
    clear hf
    obtain ⟨gb, rfl⟩ : ∃ gb, A = some ⟨gb, 0, none⟩ := by
      obtain ⟨gb, c, hv, -⟩ := own_form hrow (by omega)
      injection hv with hA; exact ⟨gb, hA⟩
    have hfin : ∀ w1 w2, PAt P0 E0 w1 g (.slice (some ⟨gb, 0, none⟩) p.l.length cap) p → Below w.heap.size w w1 → DelSent.Post Sent.cells 0 gb cap p.l k w1 (.returned (.slice (some ⟨gb, 0, none⟩) (p.l.length - 1) cap)) w2 →
        w2.cell? ⟨g, 2, none⟩ = some (.slice (some ⟨gb, 0, none⟩) p.l.length cap) ∧ w2.frozen? ⟨g, 2, none⟩ = false ∧
        ToldPost g (.slice (some ⟨gb, 0, none⟩) p.l.length cap) p n w (.returned (.bool true)) (w2.setCell ⟨g, 2, none⟩ (.slice (some ⟨gb, 0, none⟩) (p.l.length - 1) cap)) := by
      intro w1 w2 h1 hb hd
      have hne : (Value.slice (some ⟨gb, 0, none⟩) p.l.length cap).ownBlock ≠ some g := h1.ne (by decide)
      have hk2 : Kept (fun k => (Value.slice (some ⟨gb, 0, none⟩) p.l.length cap).ownBlock = some k) w1 w2 := (Kept.refl _ _).grown hd.grown (fun k e _ => e)
      have hblk := hk2.blk h1.blk hne
      refine ⟨hblk.cell 2, hblk.frozen 2, .slice (some ⟨gb, 0, none⟩) (p.l.length - 1) cap, by rw [ht.out], ?_, ?_, fun k hk => .inl hk⟩
      · rw [ht.out]
        have hrow2 := hd.row
        have e : (p.l.eraseIdx k).length = p.l.length - 1 := by rw [List.length_eraseIdx, if_pos hk]
        refine ⟨hblk.set 2 _, ?_, fun s hs => h1.tries s (List.mem_of_mem_eraseIdx hs)⟩
        exact own_far hrow2 (by exact hne) _
      · exact (((Kept.of_below (hb.mono (Nat.le_refl _))).trans hk2 (fun k _ h => .inr h)).set (p := ⟨g, 2, none⟩) (fun _ => .inl rfl) _)
    replace hfin := Lib.hid hfin
    have hrow2 : ∀ w1, PAt P0 E0 w1 g (.slice (some ⟨gb, 0, none⟩) p.l.length cap) p → w1.ownsRow 0 E0 3 (.slice (some ⟨gb, 0, none⟩) p.l.length cap) p.l.length (fl Sent.cells p.l) := fun w1 h => h.row
    replace hrow2 := Lib.hid hrow2
    clear hrow
    go_enter Try.func17, Try.ntmps17
    go_wp2_with first | (go_at_call 25; go_must (refine (IdxSent.index Sent.len 26 #[.pointer (some ⟨w.heap.size, 0, none⟩)] (fun s : Sent => s.n == n) _ p.l _ (hrd.out _) told_cf hcl.out).mono ?_); rintro e w1 ⟨rfl, hb⟩; rw [hi.out]; have h1 := Lib.hid (hpa.out _ _ hb); have hb1 := hkk.out _ _ hb; have c3 := h1.out.blk.cell 2; have c2' : w1.cell? ⟨g, 2, none⟩ = some (.slice (some ⟨gb, 0, none⟩) p.l.length cap) := c3; clear c3 hb) | (go_at_call 27; go_must (refine (DelSent.del Sent.len (by simp [Sent.cells, Value.oneCell']) 0 gb cap p.l k hk _ (hrow2.out _ h1.out)).mono ?_); rintro e w2 hd; obtain rfl := hd.e; obtain ⟨d1, d2, d3⟩ := hfin.out _ w2 h1.out hb1 hd; replace d3 := Lib.hid d3; clear hd)
    go_ret
    exact d3.out

end Go.Proofs.Ytglmdoghknpgkaa

/- What pace.Fresh computes. -/
namespace Go.Proofs.Ytglmdoghknpgkaa
set_option linter.unusedVariables false
set_option linter.unusedSimpArgs false
open Go.RowKit

/-- The numbers that came are such that came. -/
def bad (l : List Int) (i : Nat) : Bool := (i == 0 && decide (l.getD i 0 < 0)) || (decide (0 < i) && decide (l.getD i 0 ≤ l.getD (i - 1) 0)) || (decide (0 < i) && decide (l.getD i 0 - 1 ≤ l.getD 0 0))
def right (l : List Int) : Bool := (List.range l.length).all (fun i => !bad l i) && decide (l.length ≤ 64)

def pos (l : List Int) (n : Int) : Nat := (l.filter (fun x => decide (x < n))).length

/-- The beginning of what came whole. -/
def together : List Int → List Int
  | a :: b :: r => if b - 1 = a then together (b :: r) else a :: b :: r
  | l => l
def together1 (l : List Int) : Bool := decide (1 < l.length) && decide (l.getD 1 0 - 1 = l.getD 0 0)
theorem together_yes {l : List Int} (h : together1 l = true) : together l = together (l.drop 1) := by
  match l, h with
  | a :: b :: r, h => simp [together1] at h; simp [together, h]
theorem together_no {l : List Int} (h : together1 l = false) : together l = l := by
  match l, h with
  | [], _ => rfl
  | [a], _ => rfl
  | a :: b :: r, h => simp [together1] at h; simp [together, h]

/-- The first of them, 0 if there is none. -/
def base0 (l : List Int) : List Int := if l = [] then [0] else l
def fresh (l : List Int) (n : Int) : List Int × Bool :=
  if n < 1 ∨ right l = false then (l, false) else
  let m := base0 l
  if n ∈ m ∨ n ≤ m.getD 0 0 then (l, false) else
  let r := together (m.take (pos m n) ++ n :: m.drop (pos m n))
  if 64 < r.length then (l, false) else (r, true)

theorem right_sorted {l : List Int} (h : right l = true) : l.Pairwise (· < ·) ∧ (∀ x ∈ l, 0 ≤ x) ∧ l.length ≤ 64 := by
  simp only [right, Bool.and_eq_true, List.all_eq_true, List.mem_range, Bool.not_eq_true', decide_eq_true_eq] at h
  obtain ⟨h, h64⟩ := h
  have hs : ∀ i, i + 1 < l.length → l.getD i 0 < l.getD (i + 1) 0 := by
    intro i hi
    have := h (i + 1) hi
    simp [bad] at this
    have h2 := this.1
    simp [List.getD] at h2 ⊢; omega
  have hsorted : l.Pairwise (· < ·) := by
    rw [List.pairwise_iff_getElem]
    intro i j hi hj hij
    induction j with
    | zero => omega
    | succ j ih =>
      have h1 := hs j hj
      simp only [List.getD_eq_getElem?_getD, List.getElem?_eq_getElem hj, List.getElem?_eq_getElem (show j < l.length by omega), Option.getD_some] at h1
      rcases Nat.lt_or_eq_of_le (Nat.le_of_lt_succ hij) with h3 | rfl
      · have := ih (by omega) h3; omega
      · exact h1
  refine ⟨hsorted, fun x hx => ?_, h64⟩
  obtain ⟨i, hi, rfl⟩ := List.getElem_of_mem hx
  have h0 := h 0 (by omega)
  simp [bad, List.getD, List.getElem?_eq_getElem (show 0 < l.length by omega)] at h0
  rcases Nat.eq_zero_or_pos i with rfl | hp
  · exact h0
  · have := (List.pairwise_iff_getElem.1 hsorted) 0 i (by omega) hi hp; omega

/-- Where a binary search ends. -/
theorem pos_of {l : List Int} (n : Int) (i : Nat) (hi : i ≤ l.length) (h1 : ∀ j (h : j < l.length), j < i → l[j] < n) (h2 : ∀ j (h : j < l.length), i ≤ j → n ≤ l[j]) : pos l n = i := by
  unfold pos
  have e : l = l.take i ++ l.drop i := (List.take_append_drop i l).symm
  rw [e, List.filter_append, List.length_append]
  have a1 : (l.take i).filter (fun x => decide (x < n)) = l.take i := by
    rw [List.filter_eq_self]
    intro x hx
    obtain ⟨j, hj, rfl⟩ := List.getElem_of_mem hx
    simp at hj ⊢
    exact h1 j (by omega) (by omega)
  have a2 : (l.drop i).filter (fun x => decide (x < n)) = [] := by
    rw [List.filter_eq_nil_iff]
    intro x hx
    obtain ⟨j, hj, rfl⟩ := List.getElem_of_mem hx
    simp at hj ⊢
    exact h2 (i + j) (by omega) (by omega)
  rw [a1, a2, List.length_take]
  simp; omega

end Go.Proofs.Ytglmdoghknpgkaa

/- The walks of pace.Fresh and what it calls. -/
namespace Go.Proofs.Ytglmdoghknpgkaa
set_option linter.unusedVariables false
set_option linter.unusedSimpArgs false
open Go.RowKit

def icv (n : Int) : List Value := [.int .i64 n]
theorem icv_len (n : Int) : (icv n).length = 1 := rfl
theorem icv_one : ∀ n, ∀ u ∈ icv n, u.oneCell' = true := by simp [icv, Value.oneCell']
theorem fl_icv (l : List Int) (j : Nat) (h : j < l.length) : (fl icv l)[j]? = some (.int .i64 l[j]) := by
  have := fl_get icv_len l j h 0 (by omega)
  rw [Nat.mul_one, Nat.add_zero] at this
  rw [this]; rfl
theorem rdi_int {w : World} {A : Option Addr} {n cap : Nat} {l : List Int} (h : Rd icv w (.slice A n cap) l) (j : Nat) (hj : j < l.length) : ∃ ad, A = some ad ∧ w.cell? (ad.add j) = some (.int .i64 l[j]) := by
  obtain ⟨A', cap', hv, _, _, hn, hc⟩ := h
  cases hv
  cases A with
  | none => rw [(hn rfl).1] at hj; simp at hj
  | some ad => exact ⟨ad, rfl, hc ad rfl j _ (fl_icv l j hj)⟩
theorem add_0 (ad : Addr) : ad.add 0 = ad := by simp [Addr.add]
theorem rd_form {α : Type} {enc : α → List Value} {w : World} {v : Value} {l : List α} (h : Rd enc w v l) : ∃ A cap, v = .slice A l.length cap ∧ l.length ≤ cap ∧ cap ≤ 9223372036854775807 := by
  obtain ⟨A', cap', hv, h1, h2, _, _⟩ := h
  exact ⟨A', cap', hv, h1, h2⟩

theorem isnan (x : Int) (w : World) : Calls Try.prog 36 #[.int .i64 x] w fun e w' => e = .returned (.bool false) ∧ w = w' := by
  go_enter Try.func36, Try.ntmps36
  go_wp2
  go_ret
  exact ⟨rfl, rfl⟩
theorem isnan2 (x : Int) (w : World) : Calls Try.prog 33 #[.int .i64 x] w fun e w' => e = .returned (.bool false) ∧ w = w' := by
  go_enter Try.func33, Try.ntmps33
  go_wp2
  go_ret
  exact ⟨rfl, rfl⟩
theorem less (x y : Int) (w : World) : Calls Try.prog 32 #[.int .i64 x, .int .i64 y] w fun e w' => e = .returned (.bool (decide (x < y))) ∧ w = w' := by
  go_enter Try.func32, Try.ntmps32
  go_wp2_with (go_at_call 36; refine (isnan _ _).mono ?_; rintro e w1 ⟨rfl, rfl⟩)
  go_ret
  exact ⟨rfl, rfl⟩

def BsPost (l : List Int) (n : Int) (w : World) (e : Ending) (w' : World) : Prop :=
  e = .returned (.tuple #[.int .i64 (pos l n : Nat), .bool (decide (n ∈ l))]) ∧ w = w'

theorem bs_done {l : List Int} (hs : l.Pairwise (· < ·)) (n : Int) (i : Nat) (hi : i ≤ l.length) (h1 : ∀ j (h : j < l.length), j < i → l[j] < n) (h2 : ∀ j (h : j < l.length), i ≤ j → n ≤ l[j]) :
    pos l n = i ∧ (∀ h : i < l.length, decide (n ∈ l) = (l[i] == n)) ∧ (i = l.length → decide (n ∈ l) = false) := by
  refine ⟨pos_of n i hi h1 h2, fun h => ?_, fun h => ?_⟩
  · by_cases he : l[i] = n
    · have : n ∈ l := he ▸ List.getElem_mem h
      simp [this, he]
    · have : n ∉ l := by
        intro hn
        obtain ⟨j, hj, rfl⟩ := List.getElem_of_mem hn
        have hp := List.pairwise_iff_getElem.1 hs
        rcases Nat.lt_trichotomy i j with h3 | h3 | h3
        · have := hp i j h hj h3; have := h2 i h (Nat.le_refl _); omega
        · subst h3; exact he rfl
        · have := h1 j hj h3; omega
      simp [this, he]
  · have : n ∉ l := by
      intro hn
      obtain ⟨j, hj, rfl⟩ := List.getElem_of_mem hn
      have := h1 j hj (by omega); omega
    simp [this]

theorem bsearch (v : Value) (l : List Int) (n : Int) (w : World) (hv : Rd icv w v l) (hs : l.Pairwise (· < ·)) (hl : l.length ≤ 1000000) : Calls Try.prog 30 #[v, .int .i64 n] w (BsPost l n w) := by
  obtain ⟨A, cap, rfl, hlc, hcm⟩ := rd_form hv
  have hat := fun j hj => rdi_int hv j hj
  have hdone := bs_done hs n
  replace hat := Lib.hid hat
  replace hdone := Lib.hid hdone
  have hp := List.pairwise_iff_getElem.1 hs
  replace hp := Lib.hid hp
  clear hv hs
  go_enter Try.func30, Try.ntmps30
  go_wp2
  go_loop [7, 8] (fun i j => ∃ a b : Nat, a ≤ b ∧ b ≤ l.length ∧ i = .int .i64 a ∧ j = .int .i64 b ∧ Hid (∀ j (h : j < l.length), j < a → l[j] < n) ∧ Hid (∀ j (h : j < l.length), b ≤ j → n ≤ l[j])) (fun i j => (intOf j - intOf i).toNat)
  case atStart => exact ⟨0, l.length, by omega, by omega, rfl, rfl, fun j _ h => absurd h (Nat.not_lt_zero _), fun j h h' => by omega⟩
  case round =>
    obtain ⟨a, b, hab, hb, rfl, rfl, q1, q2⟩ := hrel
    by_cases hlt : a < b
    · obtain ⟨m, hm⟩ : ∃ m, m = (a + b) / 2 := ⟨_, rfl⟩
      have hm1 : a ≤ m := by omega
      have hm2 : m < b := by omega
      obtain ⟨ad, rfl, hcell⟩ := hat.out m (by omega)
      have hdiv : ((a : Int) + (b : Int)) / 2 = (m : Int) := by omega
      have hz : (0 : Int) ≤ (a : Int) + (b : Int) := by omega
      by_cases hx : l[m] < n
      · have q3 : Hid (∀ j (h : j < l.length), j < m + 1 → l[j] < n) := fun j h hj => by
          rcases Nat.lt_or_eq_of_le (Nat.le_of_lt_succ hj) with h3 | rfl
          · have := hp.out j m h (by omega) h3; omega
          · exact hx
        generalize l[m] = x at *
        replace hm := Lib.hid hm
        go_wp2_with (go_at_call 32; refine (less _ _ _).mono ?_; rintro e w1 ⟨rfl, rfl⟩)
        go_round
        case rel => exact ⟨m + 1, b, by omega, hb, by go_num, rfl, q3, q2⟩
        case measure => simp [intOf]; omega
      · have q3 : Hid (∀ j (h : j < l.length), m ≤ j → n ≤ l[j]) := fun j h hj => by
          rcases Nat.lt_or_eq_of_le hj with h3 | rfl
          · have := hp.out m j (by omega) h h3; omega
          · omega
        generalize l[m] = x at *
        replace hm := Lib.hid hm
        go_wp2_with (go_at_call 32; refine (less _ _ _).mono ?_; rintro e w1 ⟨rfl, rfl⟩)
        go_round
        case rel => exact ⟨a, m, by omega, by omega, rfl, rfl, q1, q3⟩
        case measure => simp [intOf]; omega
    · obtain rfl : a = b := by omega
      obtain ⟨d1, d2, d3⟩ := hdone.out a hb q1.out q2.out
      by_cases hend : a < l.length
      · obtain ⟨ad, rfl, hcell⟩ := hat.out a hend
        have d4 := d2 hend
        cases heq : l[a] == n
        · have hf : BsPost l n w (.returned (.tuple #[.int .i64 a, .bool false])) w := ⟨by rw [d1, d4, heq], rfl⟩
          replace hf := Lib.hid hf
          clear d2 d3 d4 d1
          generalize l[a] = x at *
          go_wp2_with (go_at_call 33; refine (isnan2 _ _).mono ?_; rintro e w1 ⟨rfl, rfl⟩)
          go_ret2
          exact hf.out
        · have hf : BsPost l n w (.returned (.tuple #[.int .i64 a, .bool true])) w := ⟨by rw [d1, d4, heq], rfl⟩
          replace hf := Lib.hid hf
          clear d2 d3 d4 d1
          generalize l[a] = x at *
          go_wp2
          go_ret2
          exact hf.out
      · have hf : BsPost l n w (.returned (.tuple #[.int .i64 a, .bool false])) w := ⟨by rw [d1, d3 (by omega)], rfl⟩
        replace hf := Lib.hid hf
        clear d2 d3 d1
        go_wp2
        go_ret2
        exact hf.out

def Ints (l : List Int) : Prop := ∀ x ∈ l, -9223372036854775808 ≤ x ∧ x ≤ 9223372036854775807

theorem right_any (v : Value) (l : List Int) (w : World) (hv : Rd icv w v l) (hw : Ints l) (hl : l.length ≤ 1000000) : Calls Try.prog 28 #[v] w fun e w' => e = .returned (.bool (right l)) ∧ w = w' := by
  obtain ⟨A, cap, rfl, hlc, hcm⟩ := rd_form hv
  have hat := fun j hj => rdi_int hv j hj
  have hno : ∀ k, k < l.length → bad l k = true → right l = false := by
    intro k hk hb
    unfold right
    have : (List.range l.length).all (fun i => !bad l i) = false := by
      rw [List.all_eq_false]
      exact ⟨k, List.mem_range.2 hk, by simp [hb]⟩
    rw [this]; rfl
  have hyes : (∀ j, j < l.length → bad l j = false) → right l = decide ((l.length : Int) ≤ 64) := by
    intro h
    unfold right
    have : (List.range l.length).all (fun i => !bad l i) = true := by
      rw [List.all_eq_true]
      intro x hx
      simp [h x (List.mem_range.1 hx)]
    rw [this, Bool.true_and]
    by_cases h : l.length ≤ 64
    · simp [h, show (l.length : Int) ≤ 64 by omega]
    · simp [h, show ¬ (l.length : Int) ≤ 64 by omega]
  replace hat := Lib.hid hat
  replace hno := Lib.hid hno
  replace hyes := Lib.hid hyes
  replace hw := Lib.hid hw
  clear hv
  go_enter Try.func28, Try.ntmps28
  go_wp2
  go_loop [7] (fun c => ∃ k : Nat, k ≤ l.length ∧ c = .int .i64 k ∧ Hid (∀ j, j < k → bad l j = false)) (fun c => l.length - (intOf c).toNat)
  case atStart => exact ⟨0, by omega, rfl, fun j h => absurd h (Nat.not_lt_zero _)⟩
  case round =>
    obtain ⟨k, hk, rfl, hb⟩ := hrel
    by_cases hlt : k < l.length
    · obtain ⟨ad, rfl, hcell⟩ := hat.out k hlt
      have hbad : bad l k = ((k == 0 && decide (l[k] < 0)) || (decide (0 < k) && decide (l[k] ≤ l.getD (k - 1) 0)) || (decide (0 < k) && decide (l[k] - 1 ≤ l.getD 0 0))) := by
        unfold bad; rw [show l.getD k 0 = l[k] by simp [List.getD, List.getElem?_eq_getElem hlt]]
      have hnext : bad l k = false → Hid (∀ j, j < k + 1 → bad l j = false) := fun h j hj => by
        rcases Nat.lt_or_eq_of_le (Nat.le_of_lt_succ hj) with h3 | rfl
        · exact hb.out j h3
        · exact h
      have hret := hno.out k hlt
      rcases Nat.eq_zero_or_pos k with rfl | hpos
      · have z1 : (((0 : Nat) : Int) == 0) = true := rfl
        have z2 : ¬ (0 : Int) < ((0 : Nat) : Int) := by omega
        rw [add_0] at hcell
        simp at hbad
        by_cases hx : l[0] < 0
        · have hr := hret (by rw [hbad]; simpa using hx)
          replace hr := Lib.hid hr
          clear hbad hnext hret
          generalize l[0] = x at *
          go_wp2
          go_ret
          exact ⟨by rw [hr.out]; rfl, rfl⟩
        · have hn := hnext (by rw [hbad]; simpa using hx)
          clear hbad hnext hret
          generalize l[0] = x at *
          go_wp2
          go_round
          case rel => exact ⟨0 + 1, by omega, by go_num, hn⟩
          case measure => simp [intOf]; omega
      · have z1 : ((k : Int) == 0) = false := by simp; omega
        have z2 : (0 : Int) < (k : Int) := by omega
        obtain ⟨ad', had', hcell1⟩ := hat.out (k - 1) (by omega)
        obtain rfl : ad = ad' := by injection had'
        obtain ⟨ad', had', hcell0⟩ := hat.out 0 (by omega)
        obtain rfl : ad = ad' := by injection had'
        rw [add_0] at hcell0
        have e1 : l.getD (k - 1) 0 = l[k - 1] := by simp [List.getD, List.getElem?_eq_getElem (show k - 1 < l.length by omega)]
        have e2 : l.getD 0 0 = l[0] := by simp [List.getD, List.getElem?_eq_getElem (show 0 < l.length by omega)]
        rw [e1, e2] at hbad
        have w1 := hw.out _ (List.getElem_mem hlt)
        have w2 := hw.out _ (List.getElem_mem (show k - 1 < l.length by omega))
        have z3 : ((k : Int) - 1).toNat = k - 1 := by omega
        have z4 : (0 : Int) ≤ (k : Int) - 1 := by omega
        have z5 : (k : Int) - 1 < (l.length : Int) := by omega
        have k0 : (k == 0) = false := by simp; omega
        have k1 : decide (0 < k) = true := by simp; omega
        rw [k0, k1] at hbad
        clear e1 e2 k0 k1 had'
        generalize l[k] = x at *
        generalize l[k - 1] = y at *
        generalize l[0] = z at *
        by_cases hx : x ≤ y
        · have hr := hret (by rw [hbad]; simp [hx])
          replace hr := Lib.hid hr
          clear hbad hnext hret
          go_wp2
          go_ret
          exact ⟨by rw [hr.out]; rfl, rfl⟩
        · by_cases hx2 : x - 1 ≤ z
          · have hr := hret (by rw [hbad]; simp [hx2])
            replace hr := Lib.hid hr
            clear hbad hnext hret
            go_wp2
            go_ret
            exact ⟨by rw [hr.out]; rfl, rfl⟩
          · have hn := hnext (by rw [hbad]; simp [hx, hx2])
            clear hbad hnext hret
            go_wp2
            go_round
            case rel => exact ⟨k + 1, by omega, by go_num, hn⟩
            case measure => simp [intOf]; omega
    · obtain rfl : k = l.length := by omega
      have hf := hyes.out hb.out
      replace hf := Lib.hid hf
      go_wp2
      go_ret
      exact ⟨by rw [hf.out]; rfl, rfl⟩

end Go.Proofs.Ytglmdoghknpgkaa

/- The walk of pace.Fresh. -/
namespace Go.Proofs.Ytglmdoghknpgkaa
set_option linter.unusedVariables false
set_option linter.unusedSimpArgs false
open Go.RowKit

def FreshPost (v : Value) (l : List Int) (n : Int) (w : World) (e : Ending) (w' : World) : Prop :=
  ∃ v', e = .returned (.tuple #[v', .bool (fresh l n).2]) ∧ Rd icv w' v' (fresh l n).1 ∧ Below w.heap.size w w' ∧ ((v' = v ∧ (fresh l n).1 = l) ∨ ∀ ad k c, v' = .slice (some ad) k c → w.heap.size ≤ ad.block)

theorem own_block0 {w : World} {base : Nat} {e : TypeId} {size n k c : Nat} {A : Option Addr} {xs : List Value} (h : w.ownsRow base e size (.slice A k c) n xs) : ∀ ad, A = some ad → base ≤ ad.block := by
  rintro ad rfl
  rcases h.2 with ⟨h1, rfl⟩ | ⟨g, cap, cur, hv, hg, hh, hn, hc, hs, ht⟩
  · cases h1
  · cases hv; exact hg

theorem base0_len (l : List Int) : 0 < (base0 l).length := by
  unfold base0; split
  · simp
  · rename_i h; exact List.length_pos_iff.2 h

theorem fresh_any (v : Value) (l : List Int) (n : Int) (w : World) (hv : Rd icv w v l) (hw : Ints l) (hl : l.length ≤ 1000000) (hn : -9223372036854775808 ≤ n ∧ n ≤ 9223372036854775807) :
    Calls Try.prog 22 #[v, .int .i64 n] w (FreshPost v l n w) := by
  obtain ⟨A, cap, rfl, hlc, hcm⟩ := rd_form hv
  have hself : ∀ w', (fresh l n) = (l, false) → Below w.heap.size w w' → FreshPost (.slice A l.length cap) l n w (.returned (.tuple #[.slice A l.length cap, .bool false])) w' := fun w' h hb => by
    unfold FreshPost; rw [h]; exact ⟨_, rfl, hv.below hb, hb, .inl ⟨rfl, rfl⟩⟩
  replace hself := Lib.hid hself
  replace hv := Lib.hid hv
  by_cases h1 : n < 1
  · have hf := hself.out w (by simp [fresh, h1]) (Below.refl _ _)
    replace hf := Lib.hid hf
    go_enter Try.func22, Try.ntmps22
    go_wp2
    go_step3
    go_wp2
    rw [Exit.noGoto_ret]
    go_ret2
    exact hf.out
  cases hr : right l
  · have hf := hself.out w (by simp [fresh, hr]) (Below.refl _ _)
    replace hf := Lib.hid hf
    have hrc := right_any _ l w hv.out hw hl
    rw [hr] at hrc
    replace hrc := Lib.hid hrc
    clear hr
    go_enter Try.func22, Try.ntmps22
    go_wp2
    go_step3
    go_wp2_with (go_at_call 28; refine hrc.out.mono ?_; rintro e w1 ⟨rfl, rfl⟩)
    rw [Exit.noGoto_ret]
    go_ret2
    exact hf.out
  obtain ⟨hsort, hpos, h64⟩ := right_sorted hr
  have hrc := right_any _ l w hv.out hw hl
  rw [hr] at hrc
  obtain ⟨m, hm⟩ : ∃ m, m = base0 l := ⟨_, rfl⟩
  have hm0 : 0 < m.length := by rw [hm]; exact base0_len l
  have hms : m.Pairwise (· < ·) ∧ (∀ x ∈ m, 0 ≤ x ∧ x ≤ 9223372036854775807) ∧ m.length ≤ 64 := by
    rw [hm]; unfold base0; split
    · exact ⟨by simp, by simp, by simp⟩
    · exact ⟨hsort, fun x hx => ⟨hpos x hx, (hw x hx).2⟩, h64⟩
  have hsrch := fun (v : Value) (w2 : World) (h : Rd icv w2 v m) => bsearch v m n w2 h hms.1 (by have := hms.2.2; omega)
  have hc0 : ∀ (A : Option Addr) (c : Nat) (w2 : World), Rd icv w2 (.slice A m.length c) m → ∃ ad, A = some ad ∧ w2.cell? ad = some (.int .i64 (m.getD 0 0)) := fun A c w2 h => by
    obtain ⟨ad, h1, h2⟩ := rdi_int h 0 hm0
    rw [add_0] at h2
    exact ⟨ad, h1, by rw [h2]; simp [List.getD, List.getElem?_eq_getElem hm0]⟩
  have hclone := CloneI.clone icv_len icv_one (.slice A l.length cap) l w hv.out (by have := h64; omega)
  have hposk : pos m n ≤ m.length := List.length_filter_le _ _
  have hm64 := hms.2.2
  have hnil : ∀ (v : Value) (w1 : World), w1.ownsRow w.heap.size 3 1 v l.length (fl icv l) → Below w.heap.size w w1 → l = [] → m.length = 1 ∧ (w1.alloc (.cells #[.int .i64 0] 3)).ownsRow w.heap.size 3 1 (.slice (some ⟨w1.heap.size, 0, none⟩) 1 1) m.length (fl icv m) ∧ Below w.heap.size w (w1.alloc (.cells #[.int .i64 0] 3)) := by
    intro v w1 h1 h2 h3
    have hm' : m = [0] := by rw [hm, h3]; rfl
    rw [hm']
    exact ⟨rfl, own_lit icv_len w1 _ h2.size _ _ [0] rfl (by simp), h2.alloc h2.size _⟩
  have hful : ∀ (v : Value) (w1 : World), w1.ownsRow w.heap.size 3 1 v l.length (fl icv l) → l ≠ [] → w1.ownsRow w.heap.size 3 1 v m.length (fl icv m) := by
    intro v w1 h1 h3
    have hm' : m = l := by rw [hm]; simp [base0, h3]
    rw [hm']; exact h1
  have hlm : l = [] ∨ l ≠ [] ∧ ¬ (l.length : Int) = 0 := by
    rcases Classical.em (l = []) with h | h
    · exact .inl h
    · exact .inr ⟨h, by have := List.length_pos_iff.2 h; omega⟩
  have hin : decide (n ∈ m) = decide (n ∈ m) := rfl
  obtain ⟨m0, hm00⟩ : ∃ x, x = m.getD 0 0 := ⟨_, rfl⟩
  simp only [← hm00] at hc0
  replace hrc := Lib.hid hrc
  replace hsrch := Lib.hid hsrch
  replace hc0 := Lib.hid hc0
  replace hclone := Lib.hid hclone
  replace hnil := Lib.hid hnil
  replace hful := Lib.hid hful
  replace hms := Lib.hid hms
  have hres : (n ∈ m ∨ n ≤ m.getD 0 0 → fresh l n = (l, false)) ∧ (¬ (n ∈ m ∨ n ≤ m.getD 0 0) → fresh l n = if 64 < (together (m.take (pos m n) ++ n :: m.drop (pos m n))).length then (l, false) else (together (m.take (pos m n) ++ n :: m.drop (pos m n)), true)) := by
    have e : fresh l n = (if n ∈ base0 l ∨ n ≤ (base0 l).getD 0 0 then (l, false) else let r := together ((base0 l).take (pos (base0 l) n) ++ n :: (base0 l).drop (pos (base0 l) n)); if 64 < r.length then (l, false) else (r, true)) := by
      unfold fresh; rw [if_neg (by rintro (h | h); exact h1 h; rw [hr] at h; cases h)]
    rw [hm, e]
    exact ⟨fun h => by rw [if_pos h], fun h => by rw [if_neg h]⟩
  obtain ⟨r0, hr0⟩ : ∃ r0, r0 = m.take (pos m n) ++ n :: m.drop (pos m n) := ⟨_, rfl⟩
  rw [← hr0, ← hm00] at hres
  replace hres := Lib.hid hres
  clear hr hsort hpos hw hm hin hm00
  go_enter Try.func22, Try.ntmps22
  go_wp2
  refine wp_scope_label 0 (fun a' w' => ∃ v : Value, (∃ u : Nat → Value, a' = { tmps := #[.slice A l.length cap, .int .i64 n, u 2, u 3, u 4, u 5, v, u 7, u 8, u 9, u 10, u 11, u 12, u 13, u 14, u 15, u 16, u 17, u 18, u 19, u 20, u 21, u 22, u 23, u 24, u 25, u 26, u 27, u 28, u 29, u 30, u 31, u 32, u 33, u 34, u 35, u 36, u 37, u 38, u 39, u 40, u 41, u 42, u 43, u 44, u 45, u 46, u 47, u 48, u 49, u 50, u 51, u 52, u 53, u 54, u 55, u 56, u 57, u 58, u 59, u 60, u 61, u 62], defers := [] }) ∧ ∃ (B : Option Addr) (c : Nat) (r : List Int), v = .slice B r.length c ∧ Rd icv w' v r ∧ together r = together r0 ∧ (∀ x ∈ r, 0 ≤ x ∧ x ≤ 9223372036854775807) ∧ r.length ≤ 65 ∧ Below w.heap.size w w' ∧ ¬ (n ∈ m ∨ n ≤ m0) ∧ (∀ ad, B = some ad → w.heap.size ≤ ad.block))
    (fun a' _ => match a'.tmps.getD 6 undef with | .slice _ k _ => k | _ => 0) rfl ?_ ?_
  · intro PASS
    replace PASS := Lib.hid PASS
    go_upto_if 21 with first
      | (go_at_call 28; refine hrc.out.mono ?_; rintro e w1 ⟨rfl, rfl⟩)
      | (go_at_call 29; refine hclone.out.mono ?_; rintro e w1 ⟨v1, rfl, hrow1, hb1⟩; obtain ⟨A1, c1, rfl, -⟩ := own_form0 hrow1)
    go_cut [6] (fun v2 w2 => ∃ B c, v2 = .slice B m.length c ∧ w2.ownsRow w.heap.size 3 1 v2 m.length (fl icv m) ∧ Below w.heap.size w w2)
    case first =>
      rcases hlm with h | ⟨h, h'⟩
      · obtain ⟨q1, q2, q3⟩ := hnil.out _ _ hrow1 hb1 h
        have hz : ((l.length : Int) == 0) = true := by rw [h]; rfl
        replace h := Lib.hid h
        replace q1 := Lib.hid q1
        replace q2 := Lib.hid q2
        go_wp2
        go_meet
        exact ⟨_, 1, by rw [q1.out], q2.out, q3⟩
      · have q2 := hful.out _ _ hrow1 h
        have q1 : m.length = l.length := by
          obtain ⟨A', c', hv, -⟩ := own_form0 q2
          injection hv with _ h2; exact h2.symm
        have hz : ((l.length : Int) == 0) = false := by simpa using h'
        replace h := Lib.hid h
        replace q1 := Lib.hid q1
        replace q2 := Lib.hid q2
        go_wp2
        go_meet
        exact ⟨_, c1, by rw [q1.out], q2.out, hb1⟩
    case rest =>
      obtain ⟨B, c, rfl, hrow2, hb2⟩ := hcut
      have hrd2 := Rd.of_own hrow2
      obtain ⟨ad, rfl, hcell⟩ := hc0.out _ _ _ hrd2
      by_cases hout : n ∈ m ∨ n ≤ m0
      · have hf := hself.out wc (hres.out.1 hout) hb2
        replace hf := Lib.hid hf
        rcases hout with hin | hle
        · have hin' : decide (n ∈ m) = true := by simpa using hin
          replace hin := Lib.hid hin
          have hbs := hsrch.out _ _ hrd2
          unfold BsPost at hbs
          rw [hin'] at hbs
          replace hbs := Lib.hid hbs
          replace hrd2 := Lib.hid hrd2
          clear hin'
          go_wp2_with (go_at_call 30; refine hbs.out.mono ?_; rintro e w3 ⟨rfl, rfl⟩)
          go_ret2
          exact hf.out
        · cases hin' : decide (n ∈ m)
          all_goals
            have hbs := hsrch.out _ _ hrd2
            unfold BsPost at hbs
            rw [hin'] at hbs
            replace hbs := Lib.hid hbs
            replace hrd2 := Lib.hid hrd2
            replace hin' := Lib.hid hin'
            go_wp2_with (go_at_call 30; refine hbs.out.mono ?_; rintro e w3 ⟨rfl, rfl⟩)
            go_ret2
            exact hf.out
      · have hnin : decide (n ∈ m) = false := by simp; exact fun h => hout (.inl h)
        have hnle : ¬ n ≤ m0 := fun h => hout (.inr h)
        have hbs := hsrch.out _ _ hrd2
        unfold BsPost at hbs
        rw [hnin] at hbs
        have hins := InsI.ins icv_len icv_one w.heap.size (.slice (some ad) m.length c) m (pos m n) hposk n wc.heap.size (wc.alloc (.cells #[.int .i64 n] 3)) (by have := hb2.size; simp; omega) (hrow2.alloc _) (Blk.new wc #[.int .i64 n] 3) (fun e => by have := (hrow2.lt _ e).2; omega) (by omega)
        have hlen1 : r0.length ≤ 65 := by rw [hr0]; simp; omega
        have hall : ∀ x ∈ r0, 0 ≤ x ∧ x ≤ 9223372036854775807 := by
          rw [hr0]
          intro x hx
          rcases List.mem_append.1 hx with hx | hx
          · exact hms.out.2.1 x (List.mem_of_mem_take hx)
          · rcases List.mem_cons.1 hx with rfl | hx
            · omega
            · exact hms.out.2.1 x (List.mem_of_mem_drop hx)
        have hbel : ∀ w3, (wc.alloc (.cells #[.int .i64 n] 3)).grownBy w3 (Value.slice (some ad) m.length c).ownBlock → Below w.heap.size w w3 := fun w3 hg =>
          (hb2.alloc hb2.size _).grown hg (by have := hb2.size; simp; omega) (fun k e => (hrow2.lt k e).1)
        replace hr0 := Lib.hid hr0
        replace hbs := Lib.hid hbs
        replace hrd2 := Lib.hid hrd2
        replace hins := Lib.hid hins
        replace hall := Lib.hid hall
        replace hbel := Lib.hid hbel
        replace hout := Lib.hid hout
        replace hnin := Lib.hid hnin
        go_wp2_with first
          | (go_at_call 30; refine hbs.out.mono ?_; rintro e w3 ⟨rfl, rfl⟩)
          | (go_at_call 31; refine hins.out.mono ?_; rintro e w3 ⟨⟨v3, rfl, hrow3, -⟩, hg3⟩; rw [← hr0.out] at hrow3; have hrd3 := Rd.of_own hrow3; obtain ⟨A3, c3, rfl, -⟩ := own_form0 hrow3; have hb3 := hbel.out _ hg3; have hnb3 := own_block0 hrow3; replace hnb3 := Lib.hid hnb3; replace hrd3 := Lib.hid hrd3; clear hrow3 hg3)
        go_step3
        refine ‹∀ (a : Act) (w : World), Code.wp _ _ _ a w → _› _ _ ?_
        refine PASS.out _ _ ?_
        exact ⟨.slice A3 r0.length c3, uof rfl, A3, c3, _, rfl, hrd3.out, rfl, hall.out, hlen1, hb3, hout.out, hnb3.out⟩
  · rintro a' wr ⟨v, ⟨u, rfl⟩, B, c, r, rfl, hrd, htog, hall, hlen, hb, hout, hnb⟩
    obtain ⟨_, _, hvr, hc1, hc2⟩ := rd_form hrd
    cases hvr
    have hat := fun j hj => rdi_int hrd j hj
    have hres2 := hres.out.2 hout
    rw [← htog] at hres2
    replace hrd := Lib.hid hrd
    have hbn : ∀ nq, Below w.heap.size w (wr.drewN nq) := fun nq => ⟨hb.os, hb.tape, hb.output, hb.size, hb.block⟩
    have hlast : together1 r = false → (r.length ≤ 64 → ∀ nq, FreshPost (.slice A l.length cap) l n w (.returned (.tuple #[.slice B r.length c, .bool true])) (wr.drewN nq)) ∧ (64 < r.length → ∀ nq, FreshPost (.slice A l.length cap) l n w (.returned (.tuple #[.slice A l.length cap, .bool false])) (wr.drewN nq)) := fun ht => by
      rw [together_no ht] at hres2
      refine ⟨fun h nq => ?_, fun h nq => hself.out (wr.drewN nq) (by rw [hres2, if_pos h]) (hbn nq)⟩
      unfold FreshPost; rw [hres2, if_neg (by omega)]; exact ⟨_, rfl, hrd.out.drewN nq, hbn nq, .inr fun ad k c' e => by cases e; exact hnb ad rfl⟩
    replace hbn := Lib.hid hbn
    replace hlast := Lib.hid hlast
    replace hat := Lib.hid hat
    clear hres2
    by_cases h1r : 1 < r.length
    · obtain ⟨ad, rfl, hx1⟩ := hat.out 1 h1r
      have hnb0 : w.heap.size ≤ ad.block := hnb ad rfl
      obtain ⟨ad', had, hx0⟩ := hat.out 0 (by omega)
      obtain rfl : ad = ad' := by injection had
      rw [add_0] at hx0
      have hx1' : wr.cell? ⟨ad.block, ad.off + 1, none⟩ = _ := hx1
      have b1 := hall _ (List.getElem_mem h1r)
      have b0 := hall _ (List.getElem_mem (show 0 < r.length by omega))
      have ht1 : together1 r = (r[1] - 1 == r[0]) := by
        simp [together1, h1r, List.getD, List.getElem?_eq_getElem (show 0 < r.length by omega)]
        rw [Bool.eq_iff_iff]; simp
      replace hall := Lib.hid hall
      clear had
      cases ht : (r[1] - 1 == r[0])
      · rw [ht] at ht1
        obtain ⟨q1, q2⟩ := hlast.out ht1
        clear ht1
        generalize r[1] = x1 at *
        generalize r[0] = x0 at *
        have hwr : IntKind.i64.wrap (x1 - 1) = x1 - 1 := IntWalk.i64_in _ (by omega)
        have hgt : decide ((1 : Int) < (r.length : Int)) = true := by simp; omega
        have g1 : (1 : Int) < (r.length : Int) := by omega
        have g0 : (0 : Int) < (r.length : Int) := by omega
        have g2 : 0 < r.length := by omega
        by_cases h65 : 64 < r.length
        · have hf := q2 h65
          replace hf := Lib.hid hf
          clear q1 q2
          go_wp2
          go_quiet (fail)
          clear hwr
          go_wp2
          go_ret2
          exact hf.out _
        · have hf := q1 (by omega)
          replace hf := Lib.hid hf
          clear q1 q2
          go_wp2
          go_quiet (fail)
          clear hwr
          go_wp2
          go_ret2
          exact hf.out _
      · rw [ht] at ht1
        have hty := together_yes ht1
        rw [htog] at hty
        have hrd1 : ∀ nq, Rd icv (wr.drewN nq) (.slice (some ⟨ad.block, ad.off + 1, none⟩) (r.length - 1) (c - 1)) (r.drop 1) := fun nq => by
          have := (hrd.out.drewN nq).drop icv_len 1 (by omega)
          rw [if_neg (by omega)] at this
          exact this
        have hall1 : ∀ x ∈ r.drop 1, 0 ≤ x ∧ x ≤ 9223372036854775807 := fun x hx => hall.out x (List.mem_of_mem_drop hx)
        have hlen1 : (r.drop 1).length = r.length - 1 := List.length_drop
        generalize r.drop 1 = r1 at *
        replace hlen1 := Lib.hid hlen1
        replace hty := Lib.hid hty
        replace htog := Lib.hid htog
        replace hrd1 := Lib.hid hrd1
        replace hall1 := Lib.hid hall1
        clear ht1
        generalize r[1] = x1 at *
        generalize r[0] = x0 at *
        have hwr : IntKind.i64.wrap (x1 - 1) = x1 - 1 := IntWalk.i64_in _ (by omega)
        have hgt : decide ((1 : Int) < (r.length : Int)) = true := by simp; omega
        have g1 : (1 : Int) < (r.length : Int) := by omega
        have g0 : (0 : Int) < (r.length : Int) := by omega
        have g2 : 0 < r.length := by omega
        have g3 : ¬ c = 1 := by omega
        go_wp2
        go_quiet (fail)
        clear hwr
        go_wp2
        go_step3
        refine ⟨rfl, ⟨_, uof rfl, some ⟨ad.block, ad.off + 1, none⟩, c - 1, r1, by rw [hlen1.out], hrd1.out _, hty.out.symm, hall1.out, by rw [hlen1.out]; omega, hbn.out _, hout, fun ad' e => by cases e; exact hnb0⟩, ?_⟩
        show r.length - 1 < r.length
        omega
    · have hgt : decide ((1 : Int) < (r.length : Int)) = false := by simp; omega
      have ht1 : together1 r = false := by simp [together1]; omega
      have hf := (hlast.out ht1).1 (by omega)
      replace hf := Lib.hid hf
      clear ht1
      go_wp2
      go_quiet (fail)
      go_wp2
      go_ret2
      exact hf.out _

end Go.Proofs.Ytglmdoghknpgkaa

/- carrefourlaw19.told: what the program tells of a few. -/
namespace Go.Proofs.Ytglmdoghknpgkaa
set_option linter.unusedVariables false
set_option linter.unusedSimpArgs false
open Go.RowKit

theorem PAt.new (T E : Nat) (w : World) (now : Int) : PAt T E (w.alloc (.cells #[.int .i64 now, .int .i64 0, .slice none 0 0] T)) w.heap.size (.slice none 0 0) ⟨now, 0, []⟩ :=
  ⟨Blk.new w #[.int .i64 now, .int .i64 0, .slice none 0 0] T, World.ownsRow_nil _ _ _ _, by simp⟩

/-- One pace, whose blocks lie from B on. -/
structure One (T E : Nat) (B : Nat) (w0 : World) (w : World) (g : Nat) (v : Value) (p : PaceS) : Prop where
  pt : PAt T E w g v p
  hg : B ≤ g
  hv : ∀ k, v.ownBlock = some k → B ≤ k
  below : Below B w0 w

theorem One.new {T E : Nat} {w0 w : World} (hb : Below w0.heap.size w0 w) (now : Int) : One T E w0.heap.size w0 (w.alloc (.cells #[.int .i64 now, .int .i64 0, .slice none 0 0] T)) w.heap.size (.slice none 0 0) ⟨now, 0, []⟩ :=
  ⟨PAt.new T E w now, hb.size, (fun k h => by cases h), hb.alloc hb.size _⟩
theorem One.next {T E B : Nat} {w0 w w' : World} {g : Nat} {v v' : Value} {p p' : PaceS} (h : One T E B w0 w g v p) (hB : B ≤ w.heap.size) (hp : PAt T E w' g v' p') (hk : Kept (fun k => k = g ∨ v.ownBlock = some k) w w') (hv : ∀ k, v'.ownBlock = some k → v.ownBlock = some k ∨ w.heap.size ≤ k) : One T E B w0 w' g v' p' :=
  ⟨hp, h.hg, fun k e => by rcases hv k e with e | e; exact h.hv k e; omega, h.below.trans (hk.below hB (fun k hk => by rintro (rfl | e); have := h.hg; omega; have := h.hv k e; omega))⟩
theorem One.size {T E B : Nat} {w0 w : World} {g : Nat} {v : Value} {p : PaceS} (h : One T E B w0 w g v p) (hB : B ≤ w0.heap.size) : B ≤ w.heap.size := Nat.le_trans hB h.below.size
theorem One.keep {T E B : Nat} {w0 w w' : World} {g : Nat} {v : Value} {p : PaceS} (h : One T E B w0 w g v p) (hB : B ≤ w.heap.size) (hb : Below w.heap.size w w') : One T E B w0 w' g v p :=
  ⟨h.pt.kept (S := fun _ => False) (Kept.of_below hb) (fun h => h) (fun _ _ h => h), h.hg, h.hv, h.below.trans (hb.mono hB)⟩

/-- What is of other types than a pace's blocks stands. -/
theorem own_keep {T E : Nat} {w w' : World} {g : Nat} {v : Value} {p : PaceS} (h : PAt T E w g v p) (hk : Kept (fun k => k = g ∨ v.ownBlock = some k) w w') {base : Nat} {e : TypeId} {size n : Nat} {u : Value} {xs : List Value} (ho : w.ownsRow base e size u n xs) (h1 : e ≠ T) (h2 : e ≠ E) : w'.ownsRow base e size u n xs :=
  hk.own ho (fun k hk' => by
    obtain ⟨cs, hb⟩ := own_typed ho k hk'
    rintro (rfl | e)
    · exact h.blk.ne hb (Ne.symm h1) rfl
    · obtain ⟨cs', hb'⟩ := own_typed h.row k e
      exact hb'.ne hb (Ne.symm h2) rfl)
theorem PAt.other {T E T' E' : Nat} {w w' : World} {g g' : Nat} {v v' : Value} {p p' : PaceS} (h : PAt T E w g v p) (hk : Kept (fun k => k = g ∨ v.ownBlock = some k) w w') (ho : PAt T' E' w g' v' p') (h1 : T' ≠ T) (h2 : T' ≠ E) (h3 : E' ≠ T) (h4 : E' ≠ E) : PAt T' E' w' g' v' p' := by
  refine ⟨hk.blk ho.blk ?_, own_keep h hk ho.row h3 h4, ho.tries⟩
  rintro (rfl | e)
  · exact h.blk.ne ho.blk (Ne.symm h1) rfl
  · obtain ⟨cs', hb'⟩ := own_typed h.row _ e
    exact hb'.ne ho.blk (Ne.symm h2) rfl

theorem send_one (B : Nat) (w0 : World) (hB : B ≤ w0.heap.size) (g : Nat) (v : Value) (p : PaceS) (now n : Int) (w : World) (hp : One P0 E0 B w0 w g v p) (hl : p.l.length ≤ 64) :
    Calls Try.prog 12 #[.pointer (some ⟨g, 0, none⟩), .int .i64 now, .int .i64 n] w fun e w' => e = .returned (.bool (p.send now n).isSome) ∧ ∃ v', One P0 E0 B w0 w' g v' ((p.send now n).getD p) ∧ Kept (fun k => k = g ∨ v.ownBlock = some k) w w' :=
  (send_any g v p now n w hp.pt hl).mono fun _ _ ⟨_, v', he, hp', h1, h2, h3⟩ => ⟨he, v', hp.next (hp.size hB) (hp' ▸ h1) h2 h3, h2⟩
theorem due_one (B : Nat) (w0 : World) (hB : B ≤ w0.heap.size) (g : Nat) (v : Value) (p : PaceS) (now : Int) (w : World) (hp : One P0 E0 B w0 w g v p) (hl : p.l.length ≤ 64) :
    Calls Try.prog 15 #[.pointer (some ⟨g, 0, none⟩), .int .i64 now] w fun e w' => ∃ A c, e = .returned (.slice A (p.due now).2.length c) ∧ w'.ownsRow B 3 1 (.slice A (p.due now).2.length c) (p.due now).2.length (fl ic (p.due now).2) ∧ One P0 E0 B w0 w' g v (p.due now).1 ∧ Kept (fun k => k = g ∨ v.ownBlock = some k) w w' := by
  have fin : ∀ e w', DuePost g v p now w e w' → ∃ A c, e = .returned (.slice A (p.due now).2.length c) ∧ w'.ownsRow B 3 1 (.slice A (p.due now).2.length c) (p.due now).2.length (fl ic (p.due now).2) ∧ One P0 E0 B w0 w' g v (p.due now).1 ∧ Kept (fun k => k = g ∨ v.ownBlock = some k) w w' := by
    rintro e w' ⟨vo, rfl, h1, h2, h3⟩
    obtain ⟨A, c, rfl, -⟩ := own_form0 h1
    exact ⟨A, c, rfl, own_weaken h1 (hp.size hB), hp.next (hp.size hB) h2 h3 (fun k e => .inl e), h3⟩
  cases h : p.may now
  · exact (due_no g v p now w hp.pt h).mono fin
  · exact (due_yes g v p now w hp.pt h hl).mono fin
theorem told_one (B : Nat) (w0 : World) (hB : B ≤ w0.heap.size) (g : Nat) (v : Value) (p : PaceS) (n : Int) (w : World) (hp : One P0 E0 B w0 w g v p) :
    Calls Try.prog 17 #[.pointer (some ⟨g, 0, none⟩), .int .i64 n] w fun e w' => e = .returned (.bool (p.told n).2) ∧ ∃ v', One P0 E0 B w0 w' g v' (p.told n).1 ∧ Kept (fun k => k = g ∨ v.ownBlock = some k) w w' :=
  (told_any g v p n w hp.pt).mono fun _ _ ⟨v', he, h1, h2, h3⟩ => ⟨he, v', hp.next (hp.size hB) h1 h2 h3, h2⟩
theorem fresh_one (v : Value) (l : List Int) (n : Int) (w : World) (hv : Rd icv w v l) (hw : Ints l) (hl : l.length ≤ 1000000) (hn : -9223372036854775808 ≤ n ∧ n ≤ 9223372036854775807) :
    Calls Try.prog 22 #[v, .int .i64 n] w fun e w' => ∃ A c, e = .returned (.tuple #[.slice A (fresh l n).1.length c, .bool (fresh l n).2]) ∧ Rd icv w' (.slice A (fresh l n).1.length c) (fresh l n).1 ∧ Below w.heap.size w w' :=
  (fresh_any v l n w hv hw hl hn).mono fun _ _ ⟨v', he, h1, h2, _⟩ => by
    obtain ⟨A, c, rfl, -⟩ := rd_form h1
    exact ⟨A, c, he, h1, h2⟩

set_option maxRecDepth 100000 in
set_option maxHeartbeats 2000000 in
theorem told_law (w : World) : Calls Try.prog 11 #[] w fun e w' => e = .returned (.bool true) ∧ Below w.heap.size w w' := by
  have o1 : One P0 E0 w.heap.size w (w.alloc (.cells #[.int .i64 10, .int .i64 0, .slice none 0 0] P0)) w.heap.size (.slice none 0 0) ⟨10, 0, []⟩ := One.new (Below.refl _ _) 10
  replace o1 := Lib.hid o1
  have hB : w.heap.size ≤ w.heap.size := Nat.le_refl _
  go_enter Try.func11, Try.ntmps11
  go_wp2_with (go_at_call 9; refine (new_yes 10 _ (by omega) (by omega)).mono ?_; rintro e w1 ⟨rfl, rfl⟩)
  refine (send_one w.heap.size w hB w.heap.size _ ⟨10, 0, []⟩ 10 1 _ o1.out (by simp)).mono ?_
  rintro e w2 ⟨rfl, v2, o2, -⟩
  have o2 : Hid (One P0 E0 w.heap.size w w2 w.heap.size v2 ⟨10, 1, [⟨1, 10, 1⟩]⟩) := o2
  rw [show (PaceS.send ⟨10, 0, []⟩ 10 1).isSome = true from by decide +kernel]
  go_wp2_with fail
  refine (due_one w.heap.size w hB w.heap.size _ ⟨10, 1, [⟨1, 10, 1⟩]⟩ 13 _ o2.out (by simp)).mono ?_
  rw [show PaceS.due ⟨10, 1, [⟨1, 10, 1⟩]⟩ 13 = (⟨13, 1, [⟨1, 10, 1⟩]⟩, []) from by decide +kernel]
  rintro e w3 ⟨A3, c3, rfl, r3, o3, -⟩
  replace o3 := Lib.hid o3
  replace r3 := Lib.hid r3
  clear o2
  go_wp2_with fail
  refine (due_one w.heap.size w hB w.heap.size _ ⟨13, 1, [⟨1, 10, 1⟩]⟩ 14 _ o3.out (by simp)).mono ?_
  rw [show PaceS.due ⟨13, 1, [⟨1, 10, 1⟩]⟩ 14 = (⟨14, 1, [⟨1, 14, 2⟩]⟩, [1]) from by decide +kernel]
  rintro e w4 ⟨A4, c4, rfl, r4, o4, -⟩
  replace o4 := Lib.hid o4
  replace r4 := Lib.hid r4
  clear o3
  go_wp2_with fail
  refine (told_one w.heap.size w hB w.heap.size _ ⟨14, 1, [⟨1, 14, 2⟩]⟩ 1 _ o4.out).mono ?_
  rw [show PaceS.told ⟨14, 1, [⟨1, 14, 2⟩]⟩ 1 = (⟨14, 1, []⟩, true) from by decide +kernel]
  rintro e w5 ⟨rfl, v5, o5, k5⟩
  have r5 := Lib.hid (own_keep o4.out.pt k5 r4.out (by decide) (by decide))
  replace o5 := Lib.hid o5
  clear o4 k5 r4
  go_wp2_with fail
  refine (told_one w.heap.size w hB w.heap.size _ ⟨14, 1, []⟩ 1 _ o5.out).mono ?_
  rw [show PaceS.told ⟨14, 1, []⟩ 1 = (⟨14, 1, []⟩, false) from by decide +kernel]
  rintro e w6 ⟨rfl, v6, o6, k6⟩
  have r6 := Lib.hid (own_keep o5.out.pt k6 r5.out (by decide) (by decide))
  replace o6 := Lib.hid o6
  clear o5 k6 r5
  go_wp2_with fail
  refine (fresh_one _ [3] 5 _ (Rd.of_own (own_lit icv_len w6 0 (Nat.zero_le _) 3 #[.int .i64 3] [3] rfl (by simp))) (by intro x hx; simp at hx; omega) (by simp) (by omega)).mono ?_
  rw [show fresh [3] 5 = ([3, 5], true) from by decide +kernel]
  rintro e w7 ⟨A7, c7, rfl, d7, b7⟩
  have o7 := Lib.hid ((o6.out.keep o6.out.below.size ((Below.refl _ _).alloc (Nat.le_refl _) (.cells #[.int .i64 3] 3))).keep (by have := o6.out.below.size; simp; omega) b7)
  have r7 := Lib.hid (Kept.own (Kept.of_below (S := fun _ => False) b7) (r6.out.alloc (.cells #[.int .i64 3] 3)) (fun _ _ h => h))
  replace d7 := Lib.hid d7
  clear o6 r6 b7
  go_wp2_with fail
  refine (fresh_one _ [3, 5] 4 _ d7.out (by intro x hx; simp at hx; omega) (by simp) (by omega)).mono ?_
  rw [show fresh [3, 5] 4 = ([5], true) from by decide +kernel]
  rintro e w8 ⟨A8, c8, rfl, d8, b8⟩
  have o8 := Lib.hid (o7.out.keep o7.out.below.size b8)
  have r8 := Lib.hid (Kept.own (Kept.of_below (S := fun _ => False) b8) r7.out (fun _ _ h => h))
  replace d8 := Lib.hid d8
  clear o7 r7 b8
  go_wp2_with fail
  refine (fresh_one (.slice none 0 0) [] 2 _ (Rd.nil _ _) (by intro x hx; simp at hx) (by simp) (by omega)).mono ?_
  rw [show fresh [] 2 = ([0, 2], true) from by decide +kernel]
  rintro e w9 ⟨A9, c9, rfl, d9, b9⟩
  have o9 := o8.out.keep o8.out.below.size b9
  have r9 := Rd.of_own (Kept.own (Kept.of_below (S := fun _ => False) b9) r8.out (fun _ _ h => h))
  have d8' := d8.out.below b9
  obtain ⟨ad1, rfl, x1⟩ := rdi_int (l := [1]) r9 0 (by simp)
  obtain ⟨ad2, rfl, x2⟩ := rdi_int (l := [5]) d8' 0 (by simp)
  obtain ⟨ad3, rfl, x3⟩ := rdi_int (l := [0, 2]) d9 0 (by simp)
  rw [add_0] at x1 x2 x3
  have hfin := o9.below
  replace hfin := Lib.hid hfin
  clear o8 o9 r8 r9 d8 d8' d9 b9 d7 r3
  simp only [List.length_cons, List.length_nil, List.getElem_cons_zero] at x1 x2 x3 ⊢
  go_wp2_with fail
  refine (wait_any 1 _ (by omega)).mono ?_
  rintro e w10 ⟨rfl, rfl⟩
  rw [show wait 1 = 4 from by decide +kernel]
  go_wp2_with fail
  refine (wait_any 0 _ (by omega)).mono ?_
  rintro e w10 ⟨rfl, rfl⟩
  rw [show wait 0 = 0 from by decide +kernel]
  go_wp2_with first
    | (go_at_call 9; refine (new_no (-1) _ (by omega)).mono ?_; rintro e w1 ⟨rfl, rfl⟩)
    | (go_at_call 12; refine (send_nil 1 1 _).mono ?_; rintro e w1 ⟨rfl, rfl⟩)
    | (go_at_call 19; refine (len_nil _).mono ?_; rintro e w1 ⟨rfl, rfl⟩)
  go_ret
  exact ⟨rfl, hfin.out⟩

end Go.Proofs.Ytglmdoghknpgkaa
