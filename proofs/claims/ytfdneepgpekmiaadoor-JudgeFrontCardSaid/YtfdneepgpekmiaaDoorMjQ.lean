/- Texts of this proof, laid together: JrQ, JrR. -/
import Derived.Test.YtfdneepgpekmiaaDoorMjJ
import Derived.Test.YtfdneepgpekmiaaDoorMjG
/- Law 21: an act that a deed chooses. -/
namespace Go.Proofs.YtfdneepgpekmiaaDoor
set_option linter.unusedVariables false
set_option linter.unusedSimpArgs false
set_option maxHeartbeats 8000000
open Go.RowKit
set_option maxRecDepth 8000

theorem Imp.reref (id id' : Nat) (x : Value) : Imp (.ref id x) (.ref id' x) := fun own w u h => by
  cases h
  rename_i h1
  exact .ref _ _ h1
theorem tmod_bds (a b : Int) (hb : 0 < b) : -b < a.tmod b ∧ a.tmod b < b := by
  have h1 := Int.emod_nonneg a (show b ≠ 0 by omega)
  have h2 := Int.emod_lt_of_pos a hb
  rw [Int.tmod_eq_emod]
  split <;> omega
theorem and1 (x : Int) : ∃ b : Nat, b ≤ 1 ∧ IntKind.i64.wrap ((BitVec.ofInt IntKind.i64.bits x &&& BitVec.ofInt IntKind.i64.bits 1).toNat : Int) = b := by
  refine ⟨(BitVec.ofInt IntKind.i64.bits x &&& BitVec.ofInt IntKind.i64.bits 1).toNat, ?_, ?_⟩
  · rw [BitVec.toNat_and, show (BitVec.ofInt IntKind.i64.bits 1).toNat = 1 from rfl, Nat.and_one_is_mod]
    omega
  · have : (BitVec.ofInt IntKind.i64.bits x &&& BitVec.ofInt IntKind.i64.bits 1).toNat ≤ 1 := by
      rw [BitVec.toNat_and, show (BitVec.ofInt IntKind.i64.bits 1).toNat = 1 from rfl, Nat.and_one_is_mod]
      omega
    generalize (BitVec.ofInt IntKind.i64.bits x &&& BitVec.ofInt IntKind.i64.bits 1).toNat = n at *
    have : n = 0 ∨ n = 1 := by omega
    rcases this with rfl | rfl <;> decide
theorem uwrap {n : Nat} (h : n ≤ 100000) : IntKind.u64.wrap (n : Int) = n := by
  have e : IntKind.u64.wrap (n : Int) = (n : Int) % 18446744073709551616 := rfl
  rw [e]
  omega

structure DeedD where
  kind : Int
  cl : Int
  q : Int
  key : Int
  many : Int
  n : Int
instance : Inhabited DeedD := ⟨⟨0, 0, 0, 0, 0, 0⟩⟩
def DeedD.cells (d : DeedD) : List AV := [.v (.int .i64 d.kind), .v (.int .i64 d.cl), .v (.int .i64 d.q), .v (.int .i64 d.key), .v (.int .i64 d.many), .v (.int .i64 d.n)]
def DeedD.av (d : DeedD) : AV := .agg d.cells
structure DeedD.ok (d : DeedD) : Prop where
  kind : fitI d.kind
  cl : fitI d.cl
  q : fitI d.q
  key : fitI d.key
  many : fitI d.many
  n : fitI d.n

/-- Bounds of what the reference's judge has. -/
structure JB (r : RJ) (n : Nat) : Prop where
  wait : ∀ p ∈ r.wait, (0 ≤ p.cl ∧ p.cl ≤ 3) ∧ (0 ≤ p.q ∧ p.q ≤ 3) ∧ p.key.size ≤ 10
  ms : ∀ x ∈ r.ms, (0 ≤ x.q ∧ x.q ≤ 3) ∧ (0 ≤ x.m.pub ∧ x.m.pub ≤ 3) ∧ (0 ≤ x.m.seq ∧ x.m.seq ≤ 20000) ∧ x.m.key.size ≤ 10 ∧ x.m.body.size ≤ 20
  tags : ∀ g ∈ r.tags, (0 ≤ g.cl ∧ g.cl ≤ 3) ∧ (0 ≤ g.q ∧ g.q ≤ 3) ∧ 0 ≤ g.tag ∧ g.tag ≤ 10 * n
  top : (0 ≤ r.t0 ∧ r.t0 ≤ 10 * n) ∧ (0 ≤ r.t1 ∧ r.t1 ≤ 10 * n) ∧ (0 ≤ r.t2 ∧ r.t2 ≤ 10 * n) ∧ (0 ≤ r.t3 ∧ r.t3 ≤ 10 * n)
/-- Bounds of an act; e: how far it may be from what was chosen. -/
structure NN (n : Nat) (e : Int) (a : ActD) : Prop where
  kind : 0 ≤ a.kind ∧ a.kind ≤ 9
  cl : 0 ≤ a.cl ∧ a.cl ≤ 3
  q : 0 ≤ a.q ∧ a.q ≤ 3
  seq : -1 - e ≤ a.seq ∧ a.seq ≤ 12000 + e
  tag : -e ≤ a.tag ∧ a.tag ≤ 10 * n + 2 + e
  code : a.code = 0
  many : 0 ≤ a.many ∧ a.many ≤ 8
  key : a.key.size ≤ 10
  body : a.body.size ≤ 10
  mpub : 0 ≤ a.m.pub ∧ a.m.pub ≤ 3
  mseq : 0 ≤ a.m.seq ∧ a.m.seq ≤ 20000
  mkey : a.m.key.size ≤ 10
  mbody : a.m.body.size ≤ 20
theorem NN.ok {n : Nat} {e : Int} {a : ActD} (h : NN n e a) (hn : n ≤ 1000) (he : 0 ≤ e ∧ e ≤ 10) : ActOk a := by
  obtain ⟨h1, h2, h3, h4, h5, -, h6, h7, h8, h9, h10, h11, h12⟩ := h
  refine ⟨?_, ?_, ?_, ?_, ?_, ?_, by omega, by omega, ?_, ?_, by omega, by omega⟩ <;> unfold fitI <;> omega

theorem jb0 : JB rj0 0 := by
  refine ⟨fun p hp => ?_, fun p hp => ?_, fun p hp => ?_, ⟨⟨?_, ?_⟩, ⟨?_, ?_⟩, ⟨?_, ?_⟩, ⟨?_, ?_⟩⟩⟩
  · cases hp
  · cases hp
  · cases hp
  all_goals exact Int.le_refl _
theorem JB.up {r : RJ} {n : Nat} (h : JB r n) : JB r (n + 1) := by
  obtain ⟨h1, h2, h3, h4⟩ := h
  refine ⟨h1, h2, fun g hg => ?_, ?_⟩
  · have := h3 g hg; omega
  · omega
theorem jb_add {r : RJ} {n : Nat} (h : JB r n) (ok : RjOk r n) (hn : n < 1000) {a : ActD} (ha : NN n 5 a) : JB (addJ r a).2 (n + 1) := by
  have hu := h.up
  unfold addJ
  split
  · exact hu
  split
  · -- publish
    unfold rpubS
    split
    · exact hu
    rename_i e1
    have hr : 1 ≤ a.many ∧ a.many ≤ 8 ∧ a.seq = lastN r.wait a.line + 1 := by
      have := e1
      unfold rpubNo at this
      simp only [Bool.not_eq_true, Bool.or_eq_false_iff, decide_eq_false_iff_not, bne_eq_false_iff_eq] at this
      omega
    have hN := ok.wl2 a.line
    have hml := ok.ml
    have hwl := ok.wl
    refine ⟨fun p hp => ?_, fun x hx => ?_, hu.tags, hu.top⟩
    · rcases List.mem_append.1 hp with hp | hp
      · exact hu.wait p hp
      · rw [List.mem_singleton] at hp
        subst hp
        exact ⟨ha.cl, ha.q, ha.key⟩
    · rcases List.mem_append.1 hx with hx | hx
      · exact hu.ms x hx
      · unfold rnewMs at hx
        obtain ⟨i, hi, rfl⟩ := List.mem_map.1 hx
        have hi := List.mem_range.1 hi
        have hb : (bodyJ a i).size ≤ 20 := by
          have := ha.body
          unfold bodyJ
          split
          · have := numT_size (i := (i : Int)) (by omega) (by omega)
            rw [ByteArray.size_append]
            omega
          · omega
        refine ⟨ha.q, ha.cl, ?_, ha.key, hb⟩
        show 0 ≤ a.seq + i ∧ a.seq + i ≤ 20000
        omega
  have hans : ∀ st, JB (rAnsS r a st) (n + 1) := fun st => by
    unfold rAnsS
    split
    · rename_i hb
      refine ⟨fun p hp => ?_, hu.ms, hu.tags, hu.top⟩
      rcases mem_set_or hp with hp | hp
      · exact hu.wait p hp
      · subst hp
        have := hu.wait _ (getD_mem (rans_lt hb))
        exact this
    · exact hu
  have hset : ∀ fr to, JB (rSetS r a fr to) (n + 1) := fun fr to => by
    unfold rSetS
    split
    · rename_i hb
      obtain ⟨hl, -⟩ := rgot_lt hb
      refine ⟨hu.wait, fun x hx => ?_, fun g hg => ?_, hu.top⟩
      · rcases mem_set_or hx with hx | hx
        · exact hu.ms x hx
        · subst hx
          have hm : (rGotG r a fr).m < r.ms.length := ok.gm _ (getD_mem hl)
          obtain ⟨e1, e2, e3, e4⟩ := rGo_post (r.at (rGotG r a fr).m) to
          rw [e2, e3]
          exact hu.ms _ (getD_mem hm)
      · rcases mem_set_or hg with hg | hg
        · exact hu.tags g hg
        · subst hg
          have := hu.tags _ (getD_mem hl)
          exact this
    · exact hu
  split
  · exact hans 1
  split
  · exact hans 2
  split
  · -- deliver
    unfold rDelS
    split
    · rename_i hb
      obtain ⟨h0, hl⟩ := rdel_lt hb
      have ht : 1 ≤ a.tag := by
        unfold rDelB at hb
        simp only [Bool.and_eq_true, Bool.not_eq_true'] at hb
        have := hb.1.1.1
        unfold rD1 at this
        simp only [Bool.or_eq_false_iff, decide_eq_false_iff_not] at this
        omega
      have htg := ha.tag
      refine ⟨hu.wait, fun x hx => ?_, fun g hg => ?_, ?_⟩
      · rcases mem_set_or hx with hx | hx
        · exact hu.ms x hx
        · subst hx
          have := hu.ms _ (getD_mem hl)
          exact this
      · rcases List.mem_append.1 hg with hg | hg
        · exact hu.tags g hg
        · rw [List.mem_singleton] at hg
          subst hg
          refine ⟨ha.cl, ha.q, ?_, ?_⟩
          · show 0 ≤ a.tag; omega
          · show a.tag ≤ 10 * ((n + 1 : Nat) : Int); omega
      · have := hu.top
        unfold rSetTop
        simp only
        refine ⟨?_, ?_, ?_, ?_⟩ <;> split <;> omega
    · exact hu
  split
  · exact hset 0 1
  split
  · exact hset 0 2
  split
  · exact hset 1 3
  · exact hu
end Go.Proofs.YtfdneepgpekmiaaDoor

/- Law 21's next: some act near what may be. -/
namespace Go.Proofs.YtfdneepgpekmiaaDoor
set_option linter.unusedVariables false
set_option linter.unusedSimpArgs false
set_option maxHeartbeats 8000000
open Go.RowKit
set_option maxRecDepth 8000

def bAB : ByteArray := ⟨#[97, 98]⟩
def bX : ByteArray := ⟨#[120]⟩
theorem bAB_cut {b : Nat} (h : b ≤ 1) : (bAB.extract b (b + 1)).size ≤ 10 := by
  have : b = 0 ∨ b = 1 := by omega
  rcases this with rfl | rfl <;> decide +kernel
def ks5 : List Int := [5, 7, 6, 8, 9]
theorem ks5_bd {k : Nat} (h : k < 5) : 0 ≤ ks5.getD k default ∧ ks5.getD k default ≤ 9 := by
  have : k = 0 ∨ k = 1 ∨ k = 2 ∨ k = 3 ∨ k = 4 := by omega
  rcases this with rfl | rfl | rfl | rfl | rfl <;> decide +kernel
def actB (c q : Int) (k : ByteArray) : ActD := ⟨0, c, q, 0, 0, 0, k, ByteArray.empty, 0, default⟩
theorem NN.of {n : Nat} {c q : Int} {k : ByteArray} (hc : 0 ≤ c ∧ c ≤ 3) (hq : 0 ≤ q ∧ q ≤ 3) (hk : k.size ≤ 10) : NN n 0 (actB c q k) := by
  refine ⟨⟨Int.le_refl _, ?_⟩, hc, hq, ⟨?_, ?_⟩, ⟨?_, ?_⟩, rfl, ⟨Int.le_refl _, ?_⟩, hk, Nat.zero_le _, ⟨Int.le_refl _, ?_⟩, ⟨Int.le_refl _, ?_⟩, Nat.zero_le _, Nat.zero_le _⟩
  all_goals (unfold actB; simp only; try omega)
  all_goals first | exact (by decide : (default : Msg).pub ≤ 3 ∧ (default : Msg).seq ≤ 20000).1 | exact (by decide : (default : Msg).pub ≤ 3 ∧ (default : Msg).seq ≤ 20000).2

theorem next_p (b : Nat) (xw xm xt : Value) (r : RJ) (d : DeedD) (n : Nat) (ok : RjOk r n) (jb : JB r n) (hn : n ≤ 500) : FnC Tryd.prog 52 [.ptr 40 b 0, d.av] (rjR b xw xm xt r)
    (fun v F' => ∃ a : ActD, v = a.av ∧ NN n 0 a ∧ F' = rjR b xw xm xt r) := by
  have hwl := ok.wl
  have htl := ok.tl
  have hml := ok.ml
  obtain ⟨C, hC, hCe⟩ := umod d.cl 3 (by decide) (by decide)
  obtain ⟨Q, hQ, hQe⟩ := umod d.q 2 (by decide) (by decide)
  obtain ⟨M2, hM2, hM2e⟩ := umod d.many 2 (by decide) (by decide)
  obtain ⟨M5, hM5, hM5e⟩ := umod d.many 5 (by decide) (by decide)
  obtain ⟨B, hB, hBe⟩ := and1 d.key
  obtain ⟨N1, hN1, hN1e⟩ := and1 d.n
  have s2 : (⟨#[97, 98]⟩ : ByteArray).size = 2 := rfl
  unfold rjR
  refine FnC.intro Tryd.func52 rfl Tryd.ntmps52 rfl ?_; intro off w0
  repeat refine S.seq ?_
  refine S.region ?_
  refine L.box 79 rfl rfl rfl rfl rfl trivial rfl fun b3 => ?_
  refine L.alloc (T := tt) 80 tt_ok rfl rfl rfl rfl rfl fun b4 => ?_
  refine L.nil ?_
  refine freezeBlk 3 79 rfl rfl rfl ?_
  refine slotAs 3 (.pel 6 d.cells) rfl (Imp.refl _) ?_
  repeat refine S.seq ?_
  refine S.draw [] mixed ?_
  (refine H.ts (T := tt) [0, 1, 2, 3, 4, 5, 6, 7, 8, 9, 10, 11, 12, 13, 14, 15, 16] tt_ok (by kernel_rfl) (by kernel_rfl) (by kernel_rfl) (by intro ch a a' w h; obtain ⟨_, _, _, _, _, h, _⟩ := h; cases h) rfl ?sd294 ?_; (try (case sd294 => (repeat' (first | exact trivial | with_reducible refine zI ?_ ?_ | omega | (unfold fits; omega))))))
  refine H.tell 27 (.v (.int .i64 B)) rfl (Imp.of_eq (by rw [← hBe])) ?_
  refine H.tell 31 (.v (.int .i64 (1 + (B : Int)))) rfl (Imp.of_eq (by rw [← hBe])) ?_
  (refine H.ts (T := tt) [17, 18, 19, 20] tt_ok (by kernel_rfl) (by kernel_rfl) (by kernel_rfl) (by intro ch a a' w h; obtain ⟨_, _, _, _, _, h, _⟩ := h; cases h) rfl ?sd295 ?_; (try (case sd295 => (repeat' (first | exact trivial | with_reducible refine zI ?_ ?_ | omega)))))
  refine H.done (by kernel_rfl) ?_
  refine slotAs 5 (.v (.int .i64 C)) rfl (Imp.of_eq (by rw [← hCe])) ?_
  refine slotAs 6 (.v (.int .i64 Q)) rfl (Imp.of_eq (by rw [← hQe])) ?_
  obtain ⟨k, hk⟩ : ∃ k, k = bAB.extract B (B + 1) := ⟨_, rfl⟩
  have hks : k.size ≤ 10 := by rw [hk]; exact bAB_cut hB
  refine slotAs 7 (.v (.string k)) rfl (Imp.of_eq (by rw [hk]; show AV.v (Value.string (bAB.extract ((B : Int)).toNat (1 + (B : Int)).toNat)) = _; rw [show (1 + (B : Int)).toNat = B + 1 by omega, Int.toNat_natCast])) ?_
  ((repeat refine S.seq ?_); refine S.region (L.go (T := tt) tt_ok rfl rfl ?sd258 ?_); (try (case sd258 => (repeat' (first | exact trivial | with_reducible refine zI ?_ ?_ | rfl | exact zN rfl)))); try (refine L.nil ?_))
  refine L.alloc (T := tt) 81 tt_ok rfl rfl rfl rfl rfl fun b8 => ?_
  (refine L.store (T := tt) tt_ok rfl rfl rfl rfl rfl rfl ?sd285 ?_; (try (case sd285 => (repeat' (first | exact trivial | with_reducible refine zI ?_ ?_ | rfl | exact zN rfl)))))
  refine L.nil ?_
  have n0 : NN n 0 (actB C Q k) := NN.of (by omega) (by omega) hks
  have nP : NN n 0 (⟨1, C, Q, 1, 0, 0, k, bX, 1 + (M2 : Int), default⟩ : ActD) := { n0 with kind := (by decide : (0 : Int) ≤ 1 ∧ (1 : Int) ≤ 9), seq := (by decide : (-1 - 0 : Int) ≤ 1 ∧ (1 : Int) ≤ 12000 + 0), many := (⟨by omega, by omega⟩ : 0 ≤ 1 + (M2 : Int) ∧ 1 + (M2 : Int) ≤ 8), body := (by decide : bX.size ≤ 10) }
  have nK : ∀ z : Int, 0 ≤ z ∧ z ≤ 9 → NN n 0 ({ actB C Q k with kind := z } : ActD) := fun z hz => { n0 with kind := hz }
  have n2 := nK 2 (by decide)
  have n3 := nK 3 (by decide)
  refine rowsEq ((81, .blk b8 56 (actB C Q k).cells) :: (80, .blk b4 56 (default : ActD).cells) :: rjR b xw xm xt r) rfl ?_
  ((repeat refine S.seq ?_); refine S.region (L.go (T := tt) tt_ok rfl rfl ?sd259 ?_); (try (case sd259 => (repeat' (first | exact trivial | with_reducible refine zI ?_ ?_ | omega)))); try (refine L.nil ?_))
  obtain ⟨kd, hkd⟩ : ∃ kd, kd = IntKind.i64.wrap ((IntKind.u64.wrap d.kind).tmod 8) := ⟨_, rfl⟩
  refine slotAs 41 (.v (.int .i64 kd)) rfl (Imp.of_eq (by rw [hkd])) ?_
  repeat refine S.seq ?_
  refine S.cut (ι := { a : ActD // NN n 0 a }) (fun p => [(4, .ptr 80 b4 0), (8, .ptr 81 b8 0)]) (fun p => ((81, .blk b8 56 p.1.cells) :: (80, .blk b4 56 (default : ActD).cells) :: rjR b xw xm xt r)) ?_ ?_
  · repeat refine S.seq ?_
    refine S.block ?_
    ((repeat refine S.seq ?_); refine S.region (L.go (T := tt) tt_ok rfl rfl ?sd260 ?_); (try (case sd260 => (repeat' (first | exact trivial | with_reducible refine zI ?_ ?_)))); try (refine L.nil ?_))
    repeat refine S.seq ?_
    refine S.cut (ι := Bool) (fun z => [(0, .ptr 40 b 0), (3, .pel 6 d.cells), (4, .ptr 80 b4 0), (5, .v (.int .i64 C)), (6, .v (.int .i64 Q)), (7, .v (.string k)), (8, .ptr 81 b8 0), (41, .v (.int .i64 kd)), (83, .v (.bool z))]) (fun _ => ((81, .blk b8 56 (actB C Q k).cells) :: (80, .blk b4 56 (default : ActD).cells) :: rjR b xw xm xt r)) ?_ ?_
    · ((repeat refine S.seq ?_); refine S.cond rfl (fun h => ?_) (fun h => ?_) <;> (try first | refine S.skip ?_ | refine S.exit ?_))
      · exact fun a w hR => ⟨true, hR.weakP ⟨Imp.refl _, Imp.refl _, Imp.refl _, Imp.refl _, Imp.refl _, Imp.refl _, Imp.refl _, Imp.refl _, Imp.of_eq (by rw [h]), trivial⟩ (by first | (unfold rjR; (repeat (first | exact Sub.refl _ | refine Sub.pick (by first | exact p0 | exact pS p0 | exact pS (pS p0) | exact pS (pS (pS p0)) | exact pS (pS (pS (pS p0))) | exact pS (pS (pS (pS (pS p0))))) ?_))) | (repeat (first | exact Sub.refl _ | refine Sub.pick (by first | exact p0 | exact pS p0 | exact pS (pS p0) | exact pS (pS (pS p0)) | exact pS (pS (pS (pS p0))) | exact pS (pS (pS (pS (pS p0))))) ?_)))⟩
      · ((repeat refine S.seq ?_); refine S.region (L.go (T := tt) tt_ok rfl rfl ?sd261 ?_); (try (case sd261 => (repeat' (first | exact trivial | with_reducible refine zI ?_ ?_)))); try (refine L.nil ?_))
        exact fun a w hR => ⟨(kd == 1), hR.weakP (by (repeat' (first | exact True.intro | exact Imp.refl _ | refine ⟨?_, ?_⟩))) (by first | (unfold rjR; (repeat (first | exact Sub.refl _ | refine Sub.pick (by first | exact p0 | exact pS p0 | exact pS (pS p0) | exact pS (pS (pS p0)) | exact pS (pS (pS (pS p0))) | exact pS (pS (pS (pS (pS p0))))) ?_))) | (repeat (first | exact Sub.refl _ | refine Sub.pick (by first | exact p0 | exact pS p0 | exact pS (pS p0) | exact pS (pS (pS p0)) | exact pS (pS (pS (pS p0))) | exact pS (pS (pS (pS (pS p0))))) ?_)))⟩
    intro z
    ((repeat refine S.seq ?_); refine S.cond rfl (fun h83 => ?_) (fun h83 => ?_) <;> (try first | refine S.skip ?_ | refine S.exit ?_))
    · repeat refine S.seq ?_
      refine S.draw [] mixed ?_
      (refine H.ts (T := tt) [0, 1, 2, 3, 4] tt_ok (by kernel_rfl) (by kernel_rfl) (by kernel_rfl) (by intro ch a a' w h; obtain ⟨_, _, _, _, _, h, _⟩ := h; cases h) rfl ?sd296 ?_; (try (case sd296 => (repeat' (first | exact trivial | with_reducible refine zI ?_ ?_ | omega)))))
      refine H.tell 90 (.v (.int .i64 M2)) rfl (Imp.of_eq (by rw [← hM2e])) ?_
      (refine H.ts (T := tt) [5, 6] tt_ok (by kernel_rfl) (by kernel_rfl) (by kernel_rfl) (by intro ch a a' w h; obtain ⟨_, _, _, _, _, h, _⟩ := h; cases h) rfl ?sd297 ?_; (try (case sd297 => (repeat' (first | exact trivial | with_reducible refine zI ?_ ?_ | (unfold fits; omega))))))
      (refine H.store (T := tt) 7 rfl (by kernel_rfl) (by kernel_rfl) tt_ok rfl rfl rfl rfl rfl rfl ?sd323 rfl (by kernel_rfl) ?_; (try (case sd323 => (repeat' (first | exact trivial | with_reducible refine zI ?_ ?_ | rfl | exact zN rfl)))))
      (refine H.ts (T := tt) [8] tt_ok (by kernel_rfl) (by kernel_rfl) (by kernel_rfl) (by intro ch a a' w h; obtain ⟨_, _, _, _, _, h, _⟩ := h; cases h) rfl ?sd298 ?_; (try (case sd298 => (repeat' (first | exact trivial | with_reducible refine zI ?_ ?_)))))
      (refine H.store (T := tt) 9 rfl (by kernel_rfl) (by kernel_rfl) tt_ok rfl rfl rfl rfl rfl rfl ?sd324 rfl (by kernel_rfl) ?_; (try (case sd324 => (repeat' (first | exact trivial | with_reducible refine zI ?_ ?_ | rfl | exact zN rfl)))))
      (refine H.ts (T := tt) [10] tt_ok (by kernel_rfl) (by kernel_rfl) (by kernel_rfl) (by intro ch a a' w h; obtain ⟨_, _, _, _, _, h, _⟩ := h; cases h) rfl ?sd299 ?_; (try (case sd299 => (repeat' (first | exact trivial | with_reducible refine zI ?_ ?_)))))
      (refine H.store (T := tt) 11 rfl (by kernel_rfl) (by kernel_rfl) tt_ok rfl rfl rfl rfl rfl rfl ?sd325 rfl (by kernel_rfl) ?_; (try (case sd325 => (repeat' (first | exact trivial | with_reducible refine zI ?_ ?_ | rfl | exact zN rfl)))))
      (refine H.ts (T := tt) [12] tt_ok (by kernel_rfl) (by kernel_rfl) (by kernel_rfl) (by intro ch a a' w h; obtain ⟨_, _, _, _, _, h, _⟩ := h; cases h) rfl ?sd300 ?_; (try (case sd300 => (repeat' (first | exact trivial | with_reducible refine zI ?_ ?_)))))
      (refine H.store (T := tt) 13 rfl (by kernel_rfl) (by kernel_rfl) tt_ok rfl rfl rfl rfl rfl rfl ?sd326 rfl (by kernel_rfl) ?_; (try (case sd326 => (repeat' (first | exact trivial | with_reducible refine zI ?_ ?_ | rfl | exact zN rfl)))))
      refine H.done (by kernel_rfl) ?_
      refine rowsEq ((81, .blk b8 56 (⟨1, C, Q, 1, 0, 0, k, bX, 1 + (M2 : Int), default⟩ : ActD).cells) :: (80, .blk b4 56 (default : ActD).cells) :: rjR b xw xm xt r) rfl ?_
      ((repeat refine S.seq ?_); refine S.region (L.go (T := tt) tt_ok rfl rfl ?sd262 ?_); (try (case sd262 => (repeat' (first | exact trivial | with_reducible refine zI ?_ ?_)))); try (refine L.nil ?_))
      repeat refine S.seq ?_
      refine S.block (S.loop (ι := { p : Nat × ActD // p.1 ≤ r.wait.length ∧ NN n 0 p.2 }) (fun p => [(0, .ptr 40 b 0), (4, .ptr 80 b4 0), (5, .v (.int .i64 C)), (6, .v (.int .i64 Q)), (7, .v (.string k)), (8, .ptr 81 b8 0), (9, .v (.int .i64 p.1.1))]) (fun p => ((81, .blk b8 56 p.1.2.cells) :: (80, .blk b4 56 (default : ActD).cells) :: rjR b xw xm xt r)) (fun p => r.wait.length - p.1.1) ?_ ?_)
      · exact fun a w h => ⟨⟨(0, ⟨1, C, Q, 1, 0, 0, k, bX, 1 + (M2 : Int), default⟩), Nat.zero_le _, nP⟩, h.weakP (by (repeat' (first | exact True.intro | exact Imp.refl _ | refine ⟨?_, ?_⟩))) (by first | (unfold rjR; (repeat (first | exact Sub.refl _ | refine Sub.pick (by first | exact p0 | exact pS p0 | exact pS (pS p0) | exact pS (pS (pS p0)) | exact pS (pS (pS (pS p0))) | exact pS (pS (pS (pS (pS p0))))) ?_))) | (repeat (first | exact Sub.refl _ | refine Sub.pick (by first | exact p0 | exact pS p0 | exact pS (pS p0) | exact pS (pS (pS p0)) | exact pS (pS (pS (pS p0))) | exact pS (pS (pS (pS (pS p0))))) ?_)))⟩
      rintro ⟨⟨i, a⟩, hi, na⟩
      dsimp only at hi na ⊢
      unfold rjR
      ((repeat refine S.seq ?_); refine S.region (L.go (T := tt) tt_ok rfl rfl ?sd263 ?_); (try (case sd263 => (repeat' (first | exact trivial | with_reducible refine zI ?_ ?_ | rfl)))); try (refine L.nil ?_))
      ((repeat refine S.seq ?_); refine S.cond rfl (fun h1 => ?_) (fun h1 => ?_) <;> (try first | refine S.skip ?_ | refine S.exit ?_))
      · have h1n : i < r.wait.length := by have := of_dec h1; omega
        obtain ⟨p, hp⟩ : ∃ p, p = r.wait.getD i default := ⟨_, rfl⟩
        obtain ⟨o1, o2, o3, o4⟩ := ok.wait p (by rw [hp, getD_get h1n]; exact List.getElem_mem _)
        repeat refine S.seq ?_
        refine S.block ?_
        ((repeat refine S.seq ?_); refine S.region (L.go (T := tt) tt_ok rfl rfl ?sd264 ?_); (try (case sd264 => (repeat' (first | exact trivial | with_reducible refine zI ?_ ?_ | rfl | omega)))); try (refine L.nil ?_))
        refine L.alloc (T := tt) 78 tt_ok rfl rfl rfl rfl rfl fun b10 => ?_
        (refine L.store (T := tt) tt_ok rfl rfl rfl rfl rfl rfl ?sd286 ?_; (try (case sd286 => (repeat' (first | exact trivial | with_reducible refine zI ?_ ?_ | rfl | exact zN rfl)))))
        refine L.nil ?_
        refine freezeBlk 10 78 rfl rfl rfl ?_
        refine slotAs 10 (.pel 6 p.cells) rfl (Imp.of_eq (by rw [hp]; rfl)) ?_
        ((repeat refine S.seq ?_); refine S.region (L.go (T := tt) tt_ok rfl rfl ?sd265 ?_); (try (case sd265 => (repeat' (first | exact trivial | exact zA | with_reducible refine zI ?_ ?_ | exact zB | exact zC | exact zD)))); try (refine L.nil ?_))
        repeat refine S.seq ?_
        refine S.cut (ι := { a : ActD // NN n 0 a }) (fun p => [(0, .ptr 40 b 0), (4, .ptr 80 b4 0), (5, .v (.int .i64 C)), (6, .v (.int .i64 Q)), (7, .v (.string k)), (8, .ptr 81 b8 0), (9, .v (.int .i64 i))]) (fun p => ((81, .blk b8 56 p.1.cells) :: (80, .blk b4 56 (default : ActD).cells) :: rjR b xw xm xt r)) ?_ ?_
        · ((repeat refine S.seq ?_); refine S.cond rfl (fun h2 => ?_) (fun h2 => ?_) <;> (try first | refine S.skip ?_ | refine S.exit ?_))
          · ((repeat refine S.seq ?_); refine S.region (L.go (T := tt) tt_ok rfl rfl ?sd266 ?_); (try (case sd266 => (repeat' (first | exact trivial | with_reducible refine zI ?_ ?_ | (unfold fits; omega))))); try (refine L.nil ?_))
            (refine L.store (T := tt) tt_ok rfl rfl rfl rfl rfl rfl ?sd287 ?_; (try (case sd287 => (repeat' (first | exact trivial | with_reducible refine zI ?_ ?_ | rfl | exact zN rfl)))))
            refine L.nil ?_
            refine rowsEq ((81, .blk b8 56 ({ a with seq := p.fst + p.many } : ActD).cells) :: (80, .blk b4 56 (default : ActD).cells) :: rjR b xw xm xt r) rfl ?_
            exact fun a' w h => ⟨⟨{ a with seq := p.fst + p.many }, { na with seq := ⟨by show -1 - 0 ≤ p.fst + p.many; omega, by show p.fst + p.many ≤ _; omega⟩ }⟩, h.weakP (by (repeat' (first | exact True.intro | exact Imp.refl _ | refine ⟨?_, ?_⟩))) (by first | (unfold rjR; (repeat (first | exact Sub.refl _ | refine Sub.pick (by first | exact p0 | exact pS p0 | exact pS (pS p0) | exact pS (pS (pS p0)) | exact pS (pS (pS (pS p0))) | exact pS (pS (pS (pS (pS p0))))) ?_))) | (repeat (first | exact Sub.refl _ | refine Sub.pick (by first | exact p0 | exact pS p0 | exact pS (pS p0) | exact pS (pS (pS p0)) | exact pS (pS (pS (pS p0))) | exact pS (pS (pS (pS (pS p0))))) ?_)))⟩
          · exact fun a' w h => ⟨⟨a, na⟩, h.weakP (by (repeat' (first | exact True.intro | exact Imp.refl _ | refine ⟨?_, ?_⟩))) (by first | (unfold rjR; (repeat (first | exact Sub.refl _ | refine Sub.pick (by first | exact p0 | exact pS p0 | exact pS (pS p0) | exact pS (pS (pS p0)) | exact pS (pS (pS (pS p0))) | exact pS (pS (pS (pS (pS p0))))) ?_))) | (repeat (first | exact Sub.refl _ | refine Sub.pick (by first | exact p0 | exact pS p0 | exact pS (pS p0) | exact pS (pS (pS p0)) | exact pS (pS (pS (pS p0))) | exact pS (pS (pS (pS (pS p0))))) ?_)))⟩
        rintro ⟨a, na⟩
        dsimp only
        ((repeat refine S.seq ?_); refine S.region (L.go (T := tt) tt_ok rfl rfl ?sd267 ?_); (try (case sd267 => (repeat' (first | exact trivial | with_reducible refine zI ?_ ?_ | (unfold fits; omega))))); try (refine L.nil ?_))
        exact fun a' w h => ⟨⟨(i + 1, a), by show i + 1 ≤ _; omega, na⟩, by show r.wait.length - (i + 1) < r.wait.length - i; omega, h.weakP (by (repeat' (first | exact True.intro | exact Imp.refl _ | refine ⟨?_, ?_⟩))) (by first | (unfold rjR; (repeat (first | exact Sub.refl _ | refine Sub.pick (by first | exact p0 | exact pS p0 | exact pS (pS p0) | exact pS (pS (pS p0)) | exact pS (pS (pS (pS p0))) | exact pS (pS (pS (pS (pS p0))))) ?_))) | (repeat (first | exact Sub.refl _ | refine Sub.pick (by first | exact p0 | exact pS p0 | exact pS (pS p0) | exact pS (pS (pS p0)) | exact pS (pS (pS (pS p0))) | exact pS (pS (pS (pS (pS p0))))) ?_)))⟩
      exact fun a' w h => ⟨⟨a, na⟩, h.weakP (by (repeat' (first | exact True.intro | exact Imp.refl _ | refine ⟨?_, ?_⟩))) (by first | (unfold rjR; (repeat (first | exact Sub.refl _ | refine Sub.pick (by first | exact p0 | exact pS p0 | exact pS (pS p0) | exact pS (pS (pS p0)) | exact pS (pS (pS (pS p0))) | exact pS (pS (pS (pS (pS p0))))) ?_))) | (repeat (first | exact Sub.refl _ | refine Sub.pick (by first | exact p0 | exact pS p0 | exact pS (pS p0) | exact pS (pS (pS p0)) | exact pS (pS (pS (pS p0))) | exact pS (pS (pS (pS (pS p0))))) ?_)))⟩
    ((repeat refine S.seq ?_); refine S.region (L.go (T := tt) tt_ok rfl rfl ?sd268 ?_); (try (case sd268 => (repeat' (first | exact trivial | with_reducible refine zI ?_ ?_)))); try (refine L.nil ?_))
    repeat refine S.seq ?_
    refine S.cut (ι := Bool) (fun z => [(0, .ptr 40 b 0), (3, .pel 6 d.cells), (4, .ptr 80 b4 0), (5, .v (.int .i64 C)), (6, .v (.int .i64 Q)), (7, .v (.string k)), (8, .ptr 81 b8 0), (41, .v (.int .i64 kd)), (134, .v (.bool z))]) (fun _ => ((81, .blk b8 56 (actB C Q k).cells) :: (80, .blk b4 56 (default : ActD).cells) :: rjR b xw xm xt r)) ?_ ?_
    · ((repeat refine S.seq ?_); refine S.cond rfl (fun h => ?_) (fun h => ?_) <;> (try first | refine S.skip ?_ | refine S.exit ?_))
      · exact fun a w hR => ⟨true, hR.weakP ⟨Imp.refl _, Imp.refl _, Imp.refl _, Imp.refl _, Imp.refl _, Imp.refl _, Imp.refl _, Imp.refl _, Imp.of_eq (by rw [h]), trivial⟩ (by first | (unfold rjR; (repeat (first | exact Sub.refl _ | refine Sub.pick (by first | exact p0 | exact pS p0 | exact pS (pS p0) | exact pS (pS (pS p0)) | exact pS (pS (pS (pS p0))) | exact pS (pS (pS (pS (pS p0))))) ?_))) | (repeat (first | exact Sub.refl _ | refine Sub.pick (by first | exact p0 | exact pS p0 | exact pS (pS p0) | exact pS (pS (pS p0)) | exact pS (pS (pS (pS p0))) | exact pS (pS (pS (pS (pS p0))))) ?_)))⟩
      · ((repeat refine S.seq ?_); refine S.region (L.go (T := tt) tt_ok rfl rfl ?sd269 ?_); (try (case sd269 => (repeat' (first | exact trivial | with_reducible refine zI ?_ ?_)))); try (refine L.nil ?_))
        exact fun a w hR => ⟨(kd == 3), hR.weakP (by (repeat' (first | exact True.intro | exact Imp.refl _ | refine ⟨?_, ?_⟩))) (by first | (unfold rjR; (repeat (first | exact Sub.refl _ | refine Sub.pick (by first | exact p0 | exact pS p0 | exact pS (pS p0) | exact pS (pS (pS p0)) | exact pS (pS (pS (pS p0))) | exact pS (pS (pS (pS (pS p0))))) ?_))) | (repeat (first | exact Sub.refl _ | refine Sub.pick (by first | exact p0 | exact pS p0 | exact pS (pS p0) | exact pS (pS (pS p0)) | exact pS (pS (pS (pS p0))) | exact pS (pS (pS (pS (pS p0))))) ?_)))⟩
    intro z
    ((repeat refine S.seq ?_); refine S.cond rfl (fun h134 => ?_) (fun h134 => ?_) <;> (try first | refine S.skip ?_ | refine S.exit ?_))
    · ((repeat refine S.seq ?_); refine S.region (L.go (T := tt) tt_ok rfl rfl ?sd270 ?_); (try (case sd270 => (repeat' (first | exact trivial | with_reducible refine zI ?_ ?_)))); try (refine L.nil ?_))
      (refine L.store (T := tt) tt_ok rfl rfl rfl rfl rfl rfl ?sd288 ?_; (try (case sd288 => (repeat' (first | exact trivial | with_reducible refine zI ?_ ?_ | rfl | exact zN rfl)))))
      refine L.nil ?_
      refine rowsEq ((81, .blk b8 56 ({ actB C Q k with kind := 2 } : ActD).cells) :: (80, .blk b4 56 (default : ActD).cells) :: rjR b xw xm xt r) rfl ?_
      ((repeat refine S.seq ?_); refine S.region (L.go (T := tt) tt_ok rfl rfl ?sd271 ?_); (try (case sd271 => (repeat' (first | exact trivial | with_reducible refine zI ?_ ?_)))); try (refine L.nil ?_))
      repeat refine S.seq ?_
      refine S.cut (ι := { a : ActD // NN n 0 a }) (fun p => [(0, .ptr 40 b 0), (4, .ptr 80 b4 0), (8, .ptr 81 b8 0)]) (fun p => ((81, .blk b8 56 p.1.cells) :: (80, .blk b4 56 (default : ActD).cells) :: rjR b xw xm xt r)) ?_ ?_
      · ((repeat refine S.seq ?_); refine S.cond rfl (fun h => ?_) (fun h => ?_) <;> (try first | refine S.skip ?_ | refine S.exit ?_))
        · ((repeat refine S.seq ?_); refine S.region (L.go (T := tt) tt_ok rfl rfl ?sd272 ?_); (try (case sd272 => (repeat' (first | exact trivial | with_reducible refine zI ?_ ?_)))); try (refine L.nil ?_))
          (refine L.store (T := tt) tt_ok rfl rfl rfl rfl rfl rfl ?sd289 ?_; (try (case sd289 => (repeat' (first | exact trivial | with_reducible refine zI ?_ ?_ | rfl | exact zN rfl)))))
          refine L.nil ?_
          refine rowsEq ((81, .blk b8 56 ({ actB C Q k with kind := 3 } : ActD).cells) :: (80, .blk b4 56 (default : ActD).cells) :: rjR b xw xm xt r) rfl ?_
          exact fun a' w h => ⟨⟨{ actB C Q k with kind := 3 }, n3⟩, h.weakP (by (repeat' (first | exact True.intro | exact Imp.refl _ | refine ⟨?_, ?_⟩))) (by first | (unfold rjR; (repeat (first | exact Sub.refl _ | refine Sub.pick (by first | exact p0 | exact pS p0 | exact pS (pS p0) | exact pS (pS (pS p0)) | exact pS (pS (pS (pS p0))) | exact pS (pS (pS (pS (pS p0))))) ?_))) | (repeat (first | exact Sub.refl _ | refine Sub.pick (by first | exact p0 | exact pS p0 | exact pS (pS p0) | exact pS (pS (pS p0)) | exact pS (pS (pS (pS p0))) | exact pS (pS (pS (pS (pS p0))))) ?_)))⟩
        · exact fun a' w h => ⟨⟨{ actB C Q k with kind := 2 }, n2⟩, h.weakP (by (repeat' (first | exact True.intro | exact Imp.refl _ | refine ⟨?_, ?_⟩))) (by first | (unfold rjR; (repeat (first | exact Sub.refl _ | refine Sub.pick (by first | exact p0 | exact pS p0 | exact pS (pS p0) | exact pS (pS (pS p0)) | exact pS (pS (pS (pS p0))) | exact pS (pS (pS (pS (pS p0))))) ?_))) | (repeat (first | exact Sub.refl _ | refine Sub.pick (by first | exact p0 | exact pS p0 | exact pS (pS p0) | exact pS (pS (pS p0)) | exact pS (pS (pS (pS p0))) | exact pS (pS (pS (pS (pS p0))))) ?_)))⟩
      rintro ⟨a, na⟩
      dsimp only
      unfold rjR
      ((repeat refine S.seq ?_); refine S.region (L.go (T := tt) tt_ok rfl rfl ?sd273 ?_); (try (case sd273 => (repeat' (first | exact trivial | with_reducible refine zI ?_ ?_ | rfl | (unfold fits; omega))))); try (refine L.nil ?_))
      repeat refine S.seq ?_
      refine S.block (S.loop (ι := { p : Nat × ActD // p.1 ≤ r.wait.length ∧ NN n 0 p.2 }) (fun p => [(0, .ptr 40 b 0), (4, .ptr 80 b4 0), (8, .ptr 81 b8 0), (11, .v (.int .i64 ((p.1.1 : Int) - 1)))]) (fun p => ((81, .blk b8 56 p.1.2.cells) :: (80, .blk b4 56 (default : ActD).cells) :: rjR b xw xm xt r)) (fun p => p.1.1) ?_ ?_)
      · exact fun a' w h => ⟨⟨(r.wait.length, a), Nat.le_refl _, na⟩, h.weakP (by (repeat' (first | exact True.intro | exact Imp.refl _ | refine ⟨?_, ?_⟩))) (by first | (unfold rjR; (repeat (first | exact Sub.refl _ | refine Sub.pick (by first | exact p0 | exact pS p0 | exact pS (pS p0) | exact pS (pS (pS p0)) | exact pS (pS (pS (pS p0))) | exact pS (pS (pS (pS (pS p0))))) ?_))) | (repeat (first | exact Sub.refl _ | refine Sub.pick (by first | exact p0 | exact pS p0 | exact pS (pS p0) | exact pS (pS (pS p0)) | exact pS (pS (pS (pS p0))) | exact pS (pS (pS (pS (pS p0))))) ?_)))⟩
      rintro ⟨⟨i, a⟩, hi, na⟩
      dsimp only at hi na ⊢
      unfold rjR
      ((repeat refine S.seq ?_); refine S.region (L.go (T := tt) tt_ok rfl rfl ?sd274 ?_); (try (case sd274 => (repeat' (first | exact trivial | with_reducible refine zI ?_ ?_)))); try (refine L.nil ?_))
      ((repeat refine S.seq ?_); refine S.cond rfl (fun h1 => ?_) (fun h1 => ?_) <;> (try first | refine S.skip ?_ | refine S.exit ?_))
      · have h1n : 1 ≤ i := by have := of_dec h1; omega
        obtain ⟨p, hp⟩ : ∃ p, p = r.wait.getD ((i : Int) - 1).toNat default := ⟨_, rfl⟩
        have hpm : p ∈ r.wait := by rw [hp, getD_get (by omega)]; exact List.getElem_mem _
        obtain ⟨o1, o2, o3, o4⟩ := ok.wait p hpm
        obtain ⟨g1, g2, g3⟩ := jb.wait p hpm
        repeat refine S.seq ?_
        refine S.block ?_
        ((repeat refine S.seq ?_); refine S.region (L.go (T := tt) tt_ok rfl rfl ?sd275 ?_); (try (case sd275 => (repeat' (first | exact trivial | with_reducible refine zI ?_ ?_ | rfl | omega)))); try (refine L.nil ?_))
        refine L.alloc (T := tt) 78 tt_ok rfl rfl rfl rfl rfl fun b12 => ?_
        (refine L.store (T := tt) tt_ok rfl rfl rfl rfl rfl rfl ?sd290 ?_; (try (case sd290 => (repeat' (first | exact trivial | with_reducible refine zI ?_ ?_ | rfl | exact zN rfl)))))
        refine L.nil ?_
        refine freezeBlk 12 78 rfl rfl rfl ?_
        refine slotAs 12 (.pel 6 p.cells) rfl (Imp.of_eq (by rw [hp]; rfl)) ?_
        ((repeat refine S.seq ?_); refine S.region (L.go (T := tt) tt_ok rfl rfl ?sd276 ?_); (try (case sd276 => (repeat' (first | exact trivial | with_reducible refine zI ?_ ?_)))); try (refine L.nil ?_))
        repeat refine S.seq ?_
        refine S.cut (ι := { a : ActD // NN n 0 a }) (fun p => [(0, .ptr 40 b 0), (4, .ptr 80 b4 0), (8, .ptr 81 b8 0), (11, .v (.int .i64 ((i : Int) - 1)))]) (fun p => ((81, .blk b8 56 p.1.cells) :: (80, .blk b4 56 (default : ActD).cells) :: rjR b xw xm xt r)) ?_ ?_
        · ((repeat refine S.seq ?_); refine S.cond rfl (fun h2 => ?_) (fun h2 => ?_) <;> (try first | refine S.skip ?_ | refine S.exit ?_))
          · repeat refine S.seq ?_
            refine S.draw [] mixed ?_
            (refine H.ts (T := tt) [0, 1, 2, 3, 4, 5, 6, 7, 8, 9, 10, 11, 12] tt_ok (by kernel_rfl) (by kernel_rfl) (by kernel_rfl) (by intro ch a a' w h; obtain ⟨_, _, _, _, _, h, _⟩ := h; cases h) rfl ?sd301 ?_; (try (case sd301 => (repeat' (first | exact trivial | with_reducible refine zI ?_ ?_ | (unfold fits; omega))))))
            (refine H.store (T := tt) 13 rfl (by kernel_rfl) (by kernel_rfl) tt_ok rfl rfl rfl rfl rfl rfl ?sd327 rfl (by kernel_rfl) ?_; (try (case sd327 => (repeat' (first | exact trivial | with_reducible refine zI ?_ ?_ | rfl | exact zN rfl)))))
            (refine H.ts (T := tt) [14] tt_ok (by kernel_rfl) (by kernel_rfl) (by kernel_rfl) (by intro ch a a' w h; obtain ⟨_, _, _, _, _, h, _⟩ := h; cases h) rfl ?sd302 ?_; (try (case sd302 => (repeat' (first | exact trivial | with_reducible refine zI ?_ ?_)))))
            (refine H.store (T := tt) 15 rfl (by kernel_rfl) (by kernel_rfl) tt_ok rfl rfl rfl rfl rfl rfl ?sd328 rfl (by kernel_rfl) ?_; (try (case sd328 => (repeat' (first | exact trivial | with_reducible refine zI ?_ ?_ | rfl | exact zN rfl)))))
            (refine H.ts (T := tt) [16] tt_ok (by kernel_rfl) (by kernel_rfl) (by kernel_rfl) (by intro ch a a' w h; obtain ⟨_, _, _, _, _, h, _⟩ := h; cases h) rfl ?sd303 ?_; (try (case sd303 => (repeat' (first | exact trivial | with_reducible refine zI ?_ ?_)))))
            (refine H.store (T := tt) 17 rfl (by kernel_rfl) (by kernel_rfl) tt_ok rfl rfl rfl rfl rfl rfl ?sd329 rfl (by kernel_rfl) ?_; (try (case sd329 => (repeat' (first | exact trivial | with_reducible refine zI ?_ ?_ | rfl | exact zN rfl)))))
            (refine H.ts (T := tt) [18] tt_ok (by kernel_rfl) (by kernel_rfl) (by kernel_rfl) (by intro ch a a' w h; obtain ⟨_, _, _, _, _, h, _⟩ := h; cases h) rfl ?sd304 ?_; (try (case sd304 => (repeat' (first | exact trivial | with_reducible refine zI ?_ ?_)))))
            (refine H.store (T := tt) 19 rfl (by kernel_rfl) (by kernel_rfl) tt_ok rfl rfl rfl rfl rfl rfl ?sd330 rfl (by kernel_rfl) ?_; (try (case sd330 => (repeat' (first | exact trivial | with_reducible refine zI ?_ ?_ | rfl | exact zN rfl)))))
            refine H.done (by kernel_rfl) ?_
            refine rowsEq ((81, .blk b8 56 ({ a with cl := p.cl, q := p.q, key := p.key, seq := p.fst + p.many - 1 } : ActD).cells) :: (80, .blk b4 56 (default : ActD).cells) :: rjR b xw xm xt r) rfl ?_
            exact fun a' w h => ⟨⟨{ a with cl := p.cl, q := p.q, key := p.key, seq := p.fst + p.many - 1 }, { na with cl := g1, q := g2, key := g3, seq := ⟨by show -1 - 0 ≤ p.fst + p.many - 1; omega, by show p.fst + p.many - 1 ≤ _; omega⟩ }⟩, h.weakP (by (repeat' (first | exact True.intro | exact Imp.refl _ | refine ⟨?_, ?_⟩))) (by first | (unfold rjR; (repeat (first | exact Sub.refl _ | refine Sub.pick (by first | exact p0 | exact pS p0 | exact pS (pS p0) | exact pS (pS (pS p0)) | exact pS (pS (pS (pS p0))) | exact pS (pS (pS (pS (pS p0))))) ?_))) | (repeat (first | exact Sub.refl _ | refine Sub.pick (by first | exact p0 | exact pS p0 | exact pS (pS p0) | exact pS (pS (pS p0)) | exact pS (pS (pS (pS p0))) | exact pS (pS (pS (pS (pS p0))))) ?_)))⟩
          · exact fun a' w h => ⟨⟨a, na⟩, h.weakP (by (repeat' (first | exact True.intro | exact Imp.refl _ | refine ⟨?_, ?_⟩))) (by first | (unfold rjR; (repeat (first | exact Sub.refl _ | refine Sub.pick (by first | exact p0 | exact pS p0 | exact pS (pS p0) | exact pS (pS (pS p0)) | exact pS (pS (pS (pS p0))) | exact pS (pS (pS (pS (pS p0))))) ?_))) | (repeat (first | exact Sub.refl _ | refine Sub.pick (by first | exact p0 | exact pS p0 | exact pS (pS p0) | exact pS (pS (pS p0)) | exact pS (pS (pS (pS p0))) | exact pS (pS (pS (pS (pS p0))))) ?_)))⟩
        rintro ⟨a, na⟩
        dsimp only
        ((repeat refine S.seq ?_); refine S.region (L.go (T := tt) tt_ok rfl rfl ?sd277 ?_); (try (case sd277 => (repeat' (first | exact trivial | with_reducible refine zI ?_ ?_ | (unfold fits; omega))))); try (refine L.nil ?_))
        exact fun a' w h => ⟨⟨(i - 1, a), by show i - 1 ≤ _; omega, na⟩, by show i - 1 < i; omega, h.weakP ⟨Imp.refl _, Imp.refl _, Imp.refl _, Imp.of_eq (by rw [show ((i - 1 : Nat) : Int) = (i : Int) - 1 by omega]), trivial⟩ (by first | (unfold rjR; (repeat (first | exact Sub.refl _ | refine Sub.pick (by first | exact p0 | exact pS p0 | exact pS (pS p0) | exact pS (pS (pS p0)) | exact pS (pS (pS (pS p0))) | exact pS (pS (pS (pS (pS p0))))) ?_))) | (repeat (first | exact Sub.refl _ | refine Sub.pick (by first | exact p0 | exact pS p0 | exact pS (pS p0) | exact pS (pS (pS p0)) | exact pS (pS (pS (pS p0))) | exact pS (pS (pS (pS (pS p0))))) ?_)))⟩
      exact fun a' w h => ⟨⟨a, na⟩, h.weakP (by (repeat' (first | exact True.intro | exact Imp.refl _ | refine ⟨?_, ?_⟩))) (by first | (unfold rjR; (repeat (first | exact Sub.refl _ | refine Sub.pick (by first | exact p0 | exact pS p0 | exact pS (pS p0) | exact pS (pS (pS p0)) | exact pS (pS (pS (pS p0))) | exact pS (pS (pS (pS (pS p0))))) ?_))) | (repeat (first | exact Sub.refl _ | refine Sub.pick (by first | exact p0 | exact pS p0 | exact pS (pS p0) | exact pS (pS (pS p0)) | exact pS (pS (pS (pS p0))) | exact pS (pS (pS (pS (pS p0))))) ?_)))⟩
    ((repeat refine S.seq ?_); refine S.region (L.go (T := tt) tt_ok rfl rfl ?sd278 ?_); (try (case sd278 => (repeat' (first | exact trivial | with_reducible refine zI ?_ ?_)))); try (refine L.nil ?_))
    repeat refine S.seq ?_
    refine S.cut (ι := Bool) (fun z => [(0, .ptr 40 b 0), (3, .pel 6 d.cells), (4, .ptr 80 b4 0), (5, .v (.int .i64 C)), (6, .v (.int .i64 Q)), (7, .v (.string k)), (8, .ptr 81 b8 0), (41, .v (.int .i64 kd)), (179, .v (.bool z))]) (fun _ => ((81, .blk b8 56 (actB C Q k).cells) :: (80, .blk b4 56 (default : ActD).cells) :: rjR b xw xm xt r)) ?_ ?_
    · ((repeat refine S.seq ?_); refine S.cond rfl (fun h => ?_) (fun h => ?_) <;> (try first | refine S.skip ?_ | refine S.exit ?_))
      · exact fun a w hR => ⟨true, hR.weakP ⟨Imp.refl _, Imp.refl _, Imp.refl _, Imp.refl _, Imp.refl _, Imp.refl _, Imp.refl _, Imp.refl _, Imp.of_eq (by rw [h]), trivial⟩ (by first | (unfold rjR; (repeat (first | exact Sub.refl _ | refine Sub.pick (by first | exact p0 | exact pS p0 | exact pS (pS p0) | exact pS (pS (pS p0)) | exact pS (pS (pS (pS p0))) | exact pS (pS (pS (pS (pS p0))))) ?_))) | (repeat (first | exact Sub.refl _ | refine Sub.pick (by first | exact p0 | exact pS p0 | exact pS (pS p0) | exact pS (pS (pS p0)) | exact pS (pS (pS (pS p0))) | exact pS (pS (pS (pS (pS p0))))) ?_)))⟩
      · ((repeat refine S.seq ?_); refine S.region (L.go (T := tt) tt_ok rfl rfl ?sd279 ?_); (try (case sd279 => (repeat' (first | exact trivial | with_reducible refine zI ?_ ?_)))); try (refine L.nil ?_))
        exact fun a w hR => ⟨(kd == 5), hR.weakP (by (repeat' (first | exact True.intro | exact Imp.refl _ | refine ⟨?_, ?_⟩))) (by first | (unfold rjR; (repeat (first | exact Sub.refl _ | refine Sub.pick (by first | exact p0 | exact pS p0 | exact pS (pS p0) | exact pS (pS (pS p0)) | exact pS (pS (pS (pS p0))) | exact pS (pS (pS (pS (pS p0))))) ?_))) | (repeat (first | exact Sub.refl _ | refine Sub.pick (by first | exact p0 | exact pS p0 | exact pS (pS p0) | exact pS (pS (pS p0)) | exact pS (pS (pS (pS p0))) | exact pS (pS (pS (pS (pS p0))))) ?_)))⟩
    intro z
    ((repeat refine S.seq ?_); refine S.cond rfl (fun h179 => ?_) (fun h179 => ?_) <;> (try first | refine S.skip ?_ | refine S.exit ?_))
    · have htp := jb.top
      repeat refine S.seq ?_
      refine S.cut (ι := { z : Int // 0 ≤ z ∧ z ≤ 10 * n + 2 }) (fun z => [(0, .ptr 40 b 0), (3, .pel 6 d.cells), (4, .ptr 80 b4 0), (8, .ptr 81 b8 0)]) (fun z => ((81, .blk b8 56 ({ actB C Q k with kind := 4, tag := z.1 } : ActD).cells) :: (80, .blk b4 56 (default : ActD).cells) :: rjR b xw xm xt r)) ?_ ?_
      · have hC3 : C = 0 ∨ C = 1 ∨ C = 2 := by omega
        unfold rjR
        rcases hC3 with rfl | rfl | rfl
        · refine S.draw [(5, [40])] mixed ?_
          (refine H.ts (T := tt) [0, 1, 2, 3, 4, 5, 6, 7, 8, 9] tt_ok (by kernel_rfl) (by kernel_rfl) (by kernel_rfl) (by intro ch a a' w h; obtain ⟨_, _, _, _, _, h, _⟩ := h; cases h) rfl ?sd305 ?_; (try (case sd305 => (repeat' (first | exact trivial | with_reducible refine zI ?_ ?_ | rfl | omega | (unfold fits; omega))))))
          refine H.tell 191 (.v (.int .i64 N1)) rfl (Imp.of_eq (by rw [← hN1e])) ?_
          (refine H.ts (T := tt) [10, 11] tt_ok (by kernel_rfl) (by kernel_rfl) (by kernel_rfl) (by intro ch a a' w h; obtain ⟨_, _, _, _, _, h, _⟩ := h; cases h) rfl ?sd306 ?_; (try (case sd306 => (repeat' (first | exact trivial | with_reducible refine zI ?_ ?_ | (unfold fits; omega))))))
          (refine H.store (T := tt) 12 rfl (by kernel_rfl) (by kernel_rfl) tt_ok rfl rfl rfl rfl rfl rfl ?sd331 rfl (by kernel_rfl) ?_; (try (case sd331 => (repeat' (first | exact trivial | with_reducible refine zI ?_ ?_ | rfl | exact zN rfl)))))
          (refine H.ts (T := tt) [13] tt_ok (by kernel_rfl) (by kernel_rfl) (by kernel_rfl) (by intro ch a a' w h; obtain ⟨_, _, _, _, _, h, _⟩ := h; cases h) rfl ?sd307 ?_; (try (case sd307 => (repeat' (first | exact trivial | with_reducible refine zI ?_ ?_)))))
          (refine H.store (T := tt) 14 rfl (by kernel_rfl) (by kernel_rfl) tt_ok rfl rfl rfl rfl rfl rfl ?sd332 rfl (by kernel_rfl) ?_; (try (case sd332 => (repeat' (first | exact trivial | with_reducible refine zI ?_ ?_ | rfl | exact zN rfl)))))
          refine H.done (by kernel_rfl) ?_
          refine rowsEq ((81, .blk b8 56 ({ actB ((0 : Nat) : Int) Q k with kind := 4, tag := r.t0 + 1 + (N1 : Int) } : ActD).cells) :: (80, .blk b4 56 (default : ActD).cells) :: rjR b xw xm xt r) rfl ?_
          exact fun a w h => ⟨⟨r.t0 + 1 + (N1 : Int), by omega, by omega⟩, h.weakP (by (repeat' (first | exact True.intro | exact Imp.refl _ | refine ⟨?_, ?_⟩))) (by first | (unfold rjR; (repeat (first | exact Sub.refl _ | refine Sub.pick (by first | exact p0 | exact pS p0 | exact pS (pS p0) | exact pS (pS (pS p0)) | exact pS (pS (pS (pS p0))) | exact pS (pS (pS (pS (pS p0))))) ?_))) | (repeat (first | exact Sub.refl _ | refine Sub.pick (by first | exact p0 | exact pS p0 | exact pS (pS p0) | exact pS (pS (pS p0)) | exact pS (pS (pS (pS p0))) | exact pS (pS (pS (pS (pS p0))))) ?_)))⟩
        · refine S.draw [(5, [40])] mixed ?_
          (refine H.ts (T := tt) [0, 1, 2, 3, 4, 5, 6, 7, 8, 9] tt_ok (by kernel_rfl) (by kernel_rfl) (by kernel_rfl) (by intro ch a a' w h; obtain ⟨_, _, _, _, _, h, _⟩ := h; cases h) rfl ?sd308 ?_; (try (case sd308 => (repeat' (first | exact trivial | with_reducible refine zI ?_ ?_ | rfl | omega | (unfold fits; omega))))))
          refine H.tell 191 (.v (.int .i64 N1)) rfl (Imp.of_eq (by rw [← hN1e])) ?_
          (refine H.ts (T := tt) [10, 11] tt_ok (by kernel_rfl) (by kernel_rfl) (by kernel_rfl) (by intro ch a a' w h; obtain ⟨_, _, _, _, _, h, _⟩ := h; cases h) rfl ?sd309 ?_; (try (case sd309 => (repeat' (first | exact trivial | with_reducible refine zI ?_ ?_ | (unfold fits; omega))))))
          (refine H.store (T := tt) 12 rfl (by kernel_rfl) (by kernel_rfl) tt_ok rfl rfl rfl rfl rfl rfl ?sd333 rfl (by kernel_rfl) ?_; (try (case sd333 => (repeat' (first | exact trivial | with_reducible refine zI ?_ ?_ | rfl | exact zN rfl)))))
          (refine H.ts (T := tt) [13] tt_ok (by kernel_rfl) (by kernel_rfl) (by kernel_rfl) (by intro ch a a' w h; obtain ⟨_, _, _, _, _, h, _⟩ := h; cases h) rfl ?sd310 ?_; (try (case sd310 => (repeat' (first | exact trivial | with_reducible refine zI ?_ ?_)))))
          (refine H.store (T := tt) 14 rfl (by kernel_rfl) (by kernel_rfl) tt_ok rfl rfl rfl rfl rfl rfl ?sd334 rfl (by kernel_rfl) ?_; (try (case sd334 => (repeat' (first | exact trivial | with_reducible refine zI ?_ ?_ | rfl | exact zN rfl)))))
          refine H.done (by kernel_rfl) ?_
          refine rowsEq ((81, .blk b8 56 ({ actB ((1 : Nat) : Int) Q k with kind := 4, tag := r.t1 + 1 + (N1 : Int) } : ActD).cells) :: (80, .blk b4 56 (default : ActD).cells) :: rjR b xw xm xt r) rfl ?_
          exact fun a w h => ⟨⟨r.t1 + 1 + (N1 : Int), by omega, by omega⟩, h.weakP (by (repeat' (first | exact True.intro | exact Imp.refl _ | refine ⟨?_, ?_⟩))) (by first | (unfold rjR; (repeat (first | exact Sub.refl _ | refine Sub.pick (by first | exact p0 | exact pS p0 | exact pS (pS p0) | exact pS (pS (pS p0)) | exact pS (pS (pS (pS p0))) | exact pS (pS (pS (pS (pS p0))))) ?_))) | (repeat (first | exact Sub.refl _ | refine Sub.pick (by first | exact p0 | exact pS p0 | exact pS (pS p0) | exact pS (pS (pS p0)) | exact pS (pS (pS (pS p0))) | exact pS (pS (pS (pS (pS p0))))) ?_)))⟩
        · refine S.draw [(5, [40])] mixed ?_
          (refine H.ts (T := tt) [0, 1, 2, 3, 4, 5, 6, 7, 8, 9] tt_ok (by kernel_rfl) (by kernel_rfl) (by kernel_rfl) (by intro ch a a' w h; obtain ⟨_, _, _, _, _, h, _⟩ := h; cases h) rfl ?sd311 ?_; (try (case sd311 => (repeat' (first | exact trivial | with_reducible refine zI ?_ ?_ | rfl | omega | (unfold fits; omega))))))
          refine H.tell 191 (.v (.int .i64 N1)) rfl (Imp.of_eq (by rw [← hN1e])) ?_
          (refine H.ts (T := tt) [10, 11] tt_ok (by kernel_rfl) (by kernel_rfl) (by kernel_rfl) (by intro ch a a' w h; obtain ⟨_, _, _, _, _, h, _⟩ := h; cases h) rfl ?sd312 ?_; (try (case sd312 => (repeat' (first | exact trivial | with_reducible refine zI ?_ ?_ | (unfold fits; omega))))))
          (refine H.store (T := tt) 12 rfl (by kernel_rfl) (by kernel_rfl) tt_ok rfl rfl rfl rfl rfl rfl ?sd335 rfl (by kernel_rfl) ?_; (try (case sd335 => (repeat' (first | exact trivial | with_reducible refine zI ?_ ?_ | rfl | exact zN rfl)))))
          (refine H.ts (T := tt) [13] tt_ok (by kernel_rfl) (by kernel_rfl) (by kernel_rfl) (by intro ch a a' w h; obtain ⟨_, _, _, _, _, h, _⟩ := h; cases h) rfl ?sd313 ?_; (try (case sd313 => (repeat' (first | exact trivial | with_reducible refine zI ?_ ?_)))))
          (refine H.store (T := tt) 14 rfl (by kernel_rfl) (by kernel_rfl) tt_ok rfl rfl rfl rfl rfl rfl ?sd336 rfl (by kernel_rfl) ?_; (try (case sd336 => (repeat' (first | exact trivial | with_reducible refine zI ?_ ?_ | rfl | exact zN rfl)))))
          refine H.done (by kernel_rfl) ?_
          refine rowsEq ((81, .blk b8 56 ({ actB ((2 : Nat) : Int) Q k with kind := 4, tag := r.t2 + 1 + (N1 : Int) } : ActD).cells) :: (80, .blk b4 56 (default : ActD).cells) :: rjR b xw xm xt r) rfl ?_
          exact fun a w h => ⟨⟨r.t2 + 1 + (N1 : Int), by omega, by omega⟩, h.weakP (by (repeat' (first | exact True.intro | exact Imp.refl _ | refine ⟨?_, ?_⟩))) (by first | (unfold rjR; (repeat (first | exact Sub.refl _ | refine Sub.pick (by first | exact p0 | exact pS p0 | exact pS (pS p0) | exact pS (pS (pS p0)) | exact pS (pS (pS (pS p0))) | exact pS (pS (pS (pS (pS p0))))) ?_))) | (repeat (first | exact Sub.refl _ | refine Sub.pick (by first | exact p0 | exact pS p0 | exact pS (pS p0) | exact pS (pS (pS p0)) | exact pS (pS (pS (pS p0))) | exact pS (pS (pS (pS (pS p0))))) ?_)))⟩
      rintro ⟨z, hz0, hz1⟩
      dsimp only
      have n4 : NN n 0 ({ actB C Q k with kind := 4, tag := z } : ActD) := { n0 with kind := (by decide : (0 : Int) ≤ 4 ∧ (4 : Int) ≤ 9), tag := (⟨by omega, by omega⟩ : -0 ≤ z ∧ z ≤ 10 * n + 2 + 0) }
      unfold rjR
      ((repeat refine S.seq ?_); refine S.region (L.go (T := tt) tt_ok rfl rfl ?sd280 ?_); (try (case sd280 => (repeat' (first | exact trivial | with_reducible refine zI ?_ ?_ | rfl)))); try (refine L.nil ?_))
      ((repeat refine S.seq ?_); refine S.cond rfl (fun h1 => ?_) (fun h1 => ?_) <;> (try first | refine S.skip ?_ | refine S.exit ?_))
      · have hmp : 0 < r.ms.length := by have := of_dec h1; omega
        obtain ⟨I, hI, hIe⟩ := umod d.n (r.ms.length : Int) (by omega) (by omega)
        have hw := uwrap (n := r.ms.length) (by omega)
        have hIl : I < r.ms.length := by omega
        obtain ⟨x, hx⟩ : ∃ x, x = r.ms.getD I default := ⟨_, rfl⟩
        have hxm := jb.ms x (by rw [hx]; exact getD_mem hIl)
        repeat refine S.seq ?_
        refine S.draw [(3, [40]), (10, [40]), (16, [42])] mixed ?_
        (refine H.ts (T := tt) [0, 1, 2, 3, 4, 5, 6, 7, 8, 9, 10, 11, 12, 13, 14] tt_ok (by kernel_rfl) (by kernel_rfl) (by kernel_rfl) (by intro ch a a' w h; obtain ⟨_, _, _, _, _, h, _⟩ := h; cases h) rfl ?sd314 ?_; (try (case sd314 => (repeat' (first | exact trivial | with_reducible refine zI ?_ ?_ | rfl | omega)))))
        refine H.tell 215 (.v (.int .i64 I)) rfl (Imp.of_eq (by rw [hw, ← hIe])) ?_
        (refine H.ts (T := tt) [15, 16] tt_ok (by kernel_rfl) (by kernel_rfl) (by kernel_rfl) (by intro ch a a' w h; obtain ⟨_, _, _, _, _, h, _⟩ := h; cases h) rfl ?sd315 ?_; (try (case sd315 => (repeat' (first | exact trivial | with_reducible refine zI ?_ ?_ | rfl | omega)))))
        refine H.o1 17 rfl (by kernel_rfl) (by kernel_rfl) (O.alloc (T := tt) 82 tt_ok rfl rfl rfl rfl rfl) (.inr rfl) rfl fun b13 => ?_
        (refine H.store (T := tt) 18 rfl (by kernel_rfl) (by kernel_rfl) tt_ok rfl rfl rfl rfl rfl rfl ?sd337 rfl (by kernel_rfl) ?_; (try (case sd337 => (repeat' (first | exact trivial | with_reducible refine zI ?_ ?_ | rfl | exact zN rfl)))))
        refine H.done (by kernel_rfl) ?_
        refine freezeBlk 13 82 rfl rfl rfl ?_
        refine slotAs 13 (.pel 11 x.cells) rfl (Imp.of_eq (by rw [hx]; rfl)) ?_
        repeat refine S.seq ?_
        refine S.draw [] mixed ?_
        (refine H.ts (T := tt) [0, 1, 2, 3, 4] tt_ok (by kernel_rfl) (by kernel_rfl) (by kernel_rfl) (by intro ch a a' w h; obtain ⟨_, _, _, _, _, h, _⟩ := h; cases h) rfl ?sd316 ?_; (try (case sd316 => (repeat' (first | exact trivial | with_reducible refine zI ?_ ?_ | exact zN rfl)))))
        (refine H.store (T := tt) 5 rfl (by kernel_rfl) (by kernel_rfl) tt_ok rfl rfl rfl rfl rfl rfl ?sd338 rfl (by kernel_rfl) ?_; (try (case sd338 => (repeat' (first | exact trivial | with_reducible refine zI ?_ ?_ | rfl | exact zN rfl)))))
        (refine H.ts (T := tt) [6] tt_ok (by kernel_rfl) (by kernel_rfl) (by kernel_rfl) (by intro ch a a' w h; obtain ⟨_, _, _, _, _, h, _⟩ := h; cases h) rfl ?sd317 ?_; (try (case sd317 => (repeat' (first | exact trivial | with_reducible refine zI ?_ ?_)))))
        (refine H.store (T := tt) 7 rfl (by kernel_rfl) (by kernel_rfl) tt_ok rfl rfl rfl rfl rfl rfl ?sd339 rfl (by kernel_rfl) ?_; (try (case sd339 => (repeat' (first | exact trivial | with_reducible refine zI ?_ ?_ | rfl | exact zN rfl)))))
        refine H.done (by kernel_rfl) ?_
        ((repeat refine S.seq ?_); refine S.region (L.go (T := tt) tt_ok rfl rfl ?sd281 ?_); (try (case sd281 => (repeat' (first | exact trivial | with_reducible refine zI ?_ ?_)))); try (refine L.nil ?_))
        (refine L.store (T := tt) tt_ok rfl rfl rfl rfl rfl rfl ?sd291 ?_; (try (case sd291 => (repeat' (first | exact trivial | with_reducible refine zI ?_ ?_ | rfl | exact zN rfl)))))
        refine L.nil ?_
        refine rowsEq ((81, .blk b8 56 ({ actB C Q k with kind := 4, tag := z, q := x.q, m := { x.m with again := x.del } } : ActD).cells) :: (80, .blk b4 56 (default : ActD).cells) :: rjR b xw xm xt r) rfl ?_
        exact fun a' w h => ⟨⟨{ actB C Q k with kind := 4, tag := z, q := x.q, m := { x.m with again := x.del } }, { n4 with q := hxm.1, mpub := hxm.2.1, mseq := hxm.2.2.1, mkey := hxm.2.2.2.1, mbody := hxm.2.2.2.2 }⟩, h.weakP (by (repeat' (first | exact True.intro | exact Imp.refl _ | refine ⟨?_, ?_⟩))) (by first | (unfold rjR; (repeat (first | exact Sub.refl _ | refine Sub.pick (by first | exact p0 | exact pS p0 | exact pS (pS p0) | exact pS (pS (pS p0)) | exact pS (pS (pS (pS p0))) | exact pS (pS (pS (pS (pS p0))))) ?_))) | (repeat (first | exact Sub.refl _ | refine Sub.pick (by first | exact p0 | exact pS p0 | exact pS (pS p0) | exact pS (pS (pS p0)) | exact pS (pS (pS (pS p0))) | exact pS (pS (pS (pS (pS p0))))) ?_)))⟩
      exact fun a' w h => ⟨⟨{ actB C Q k with kind := 4, tag := z }, n4⟩, h.weakP (by (repeat' (first | exact True.intro | exact Imp.refl _ | refine ⟨?_, ?_⟩))) (by first | (unfold rjR; (repeat (first | exact Sub.refl _ | refine Sub.pick (by first | exact p0 | exact pS p0 | exact pS (pS p0) | exact pS (pS (pS p0)) | exact pS (pS (pS (pS p0))) | exact pS (pS (pS (pS (pS p0))))) ?_))) | (repeat (first | exact Sub.refl _ | refine Sub.pick (by first | exact p0 | exact pS p0 | exact pS (pS p0) | exact pS (pS (pS p0)) | exact pS (pS (pS (pS p0))) | exact pS (pS (pS (pS (pS p0))))) ?_)))⟩
    repeat refine S.seq ?_
    refine S.region ?_
    refine L.buildSlice (T := tt) 83 tt_ok rfl rfl rfl rfl rfl rfl (by decide) (by decide) rfl rfl (by (repeat' (first | exact trivial | with_reducible refine zI ?_ ?_ | rfl | exact zN rfl))) fun x42 => ?_
    refine ownAs 83 (gOf intC ks5) rfl rfl (fun i hi => by
      match i, hi with
      | 0, _ => rfl
      | 1, _ => rfl
      | 2, _ => rfl
      | 3, _ => rfl
      | 4, _ => rfl) ?_
    (refine L.go (T := tt) tt_ok rfl rfl ?sd284 ?_; (try (case sd284 => (repeat' (first | exact trivial | with_reducible refine zI ?_ ?_ | rfl | omega)))); try (refine L.nil ?_))
    obtain ⟨K, hK⟩ : ∃ K, K = ks5.getD M5 default := ⟨_, rfl⟩
    have hKb := ks5_bd (k := M5) (by omega)
    rw [← hK] at hKb
    refine slotAs 49 (.v (.int .i64 K)) rfl (Imp.of_eq (by rw [hK]; show AV.v (Value.int IntKind.i64 (ks5.getD (IntKind.i64.wrap ((IntKind.u64.wrap d.many).tmod 5)).toNat default)) = _; rw [hM5e, Int.toNat_natCast])) ?_
    (refine L.store (T := tt) tt_ok rfl rfl rfl rfl rfl rfl ?sd292 ?_; (try (case sd292 => (repeat' (first | exact trivial | with_reducible refine zI ?_ ?_ | rfl | exact zN rfl)))))
    refine L.nil ?_
    have nD := nK K hKb
    refine rowsTo ((81, .blk b8 56 ({ actB C Q k with kind := K } : ActD).cells) :: (80, .blk b4 56 (default : ActD).cells) :: rjR b xw xm xt r) (by unfold rjR; (repeat (first | exact Sub.refl _ | refine Sub.pick (by first | exact p0 | exact pS p0 | exact pS (pS p0) | exact pS (pS (pS p0)) | exact pS (pS (pS (pS p0))) | exact pS (pS (pS (pS (pS p0))))) ?_))) ?_
    unfold rjR
    ((repeat refine S.seq ?_); refine S.region (L.go (T := tt) tt_ok rfl rfl ?sd282 ?_); (try (case sd282 => (repeat' (first | exact trivial | with_reducible refine zI ?_ ?_ | rfl)))); try (refine L.nil ?_))
    ((repeat refine S.seq ?_); refine S.cond rfl (fun h1 => ?_) (fun h1 => ?_) <;> (try first | refine S.skip ?_ | refine S.exit ?_))
    · have hmp : 0 < r.tags.length := by have := of_dec h1; omega
      obtain ⟨I, hI, hIe⟩ := umod d.n (r.tags.length : Int) (by omega) (by omega)
      have hw := uwrap (n := r.tags.length) (by omega)
      have hIl : I < r.tags.length := by omega
      obtain ⟨x, hx⟩ : ∃ x, x = r.tags.getD I default := ⟨_, rfl⟩
      have hxm := jb.tags x (by rw [hx]; exact getD_mem hIl)
      repeat refine S.seq ?_
      refine S.draw [(3, [40]), (10, [40]), (16, [43])] mixed ?_
      (refine H.ts (T := tt) [0, 1, 2, 3, 4, 5, 6, 7, 8, 9, 10, 11, 12, 13, 14] tt_ok (by kernel_rfl) (by kernel_rfl) (by kernel_rfl) (by intro ch a a' w h; obtain ⟨_, _, _, _, _, h, _⟩ := h; cases h) rfl ?sd318 ?_; (try (case sd318 => (repeat' (first | exact trivial | with_reducible refine zI ?_ ?_ | rfl | omega)))))
      refine H.tell 71 (.v (.int .i64 I)) rfl (Imp.of_eq (by rw [hw, ← hIe])) ?_
      (refine H.ts (T := tt) [15, 16] tt_ok (by kernel_rfl) (by kernel_rfl) (by kernel_rfl) (by intro ch a a' w h; obtain ⟨_, _, _, _, _, h, _⟩ := h; cases h) rfl ?sd319 ?_; (try (case sd319 => (repeat' (first | exact trivial | with_reducible refine zI ?_ ?_ | rfl | omega)))))
      refine H.o1 17 rfl (by kernel_rfl) (by kernel_rfl) (O.alloc (T := tt) 82 tt_ok rfl rfl rfl rfl rfl) (.inr rfl) rfl fun b14 => ?_
      (refine H.store (T := tt) 18 rfl (by kernel_rfl) (by kernel_rfl) tt_ok rfl rfl rfl rfl rfl rfl ?sd340 rfl (by kernel_rfl) ?_; (try (case sd340 => (repeat' (first | exact trivial | with_reducible refine zI ?_ ?_ | rfl | exact zN rfl)))))
      refine H.done (by kernel_rfl) ?_
      refine freezeBlk 14 82 rfl rfl rfl ?_
      refine slotAs 14 (.pel 5 x.cells) rfl (Imp.of_eq (by rw [hx]; rfl)) ?_
      repeat refine S.seq ?_
      refine S.draw [] mixed ?_
      (refine H.ts (T := tt) [0, 1, 2, 3, 4, 5, 6] tt_ok (by kernel_rfl) (by kernel_rfl) (by kernel_rfl) (by intro ch a a' w h; obtain ⟨_, _, _, _, _, h, _⟩ := h; cases h) rfl ?sd320 ?_; (try (case sd320 => (repeat' (first | exact trivial | with_reducible refine zI ?_ ?_)))))
      (refine H.store (T := tt) 7 rfl (by kernel_rfl) (by kernel_rfl) tt_ok rfl rfl rfl rfl rfl rfl ?sd341 rfl (by kernel_rfl) ?_; (try (case sd341 => (repeat' (first | exact trivial | with_reducible refine zI ?_ ?_ | rfl | exact zN rfl)))))
      (refine H.ts (T := tt) [8] tt_ok (by kernel_rfl) (by kernel_rfl) (by kernel_rfl) (by intro ch a a' w h; obtain ⟨_, _, _, _, _, h, _⟩ := h; cases h) rfl ?sd321 ?_; (try (case sd321 => (repeat' (first | exact trivial | with_reducible refine zI ?_ ?_)))))
      (refine H.store (T := tt) 9 rfl (by kernel_rfl) (by kernel_rfl) tt_ok rfl rfl rfl rfl rfl rfl ?sd342 rfl (by kernel_rfl) ?_; (try (case sd342 => (repeat' (first | exact trivial | with_reducible refine zI ?_ ?_ | rfl | exact zN rfl)))))
      (refine H.ts (T := tt) [10] tt_ok (by kernel_rfl) (by kernel_rfl) (by kernel_rfl) (by intro ch a a' w h; obtain ⟨_, _, _, _, _, h, _⟩ := h; cases h) rfl ?sd322 ?_; (try (case sd322 => (repeat' (first | exact trivial | with_reducible refine zI ?_ ?_)))))
      (refine H.store (T := tt) 11 rfl (by kernel_rfl) (by kernel_rfl) tt_ok rfl rfl rfl rfl rfl rfl ?sd343 rfl (by kernel_rfl) ?_; (try (case sd343 => (repeat' (first | exact trivial | with_reducible refine zI ?_ ?_ | rfl | exact zN rfl)))))
      refine H.done (by kernel_rfl) ?_
      refine rowsEq ((81, .blk b8 56 ({ actB C Q k with kind := K, cl := x.cl, q := x.q, tag := x.tag } : ActD).cells) :: (80, .blk b4 56 (default : ActD).cells) :: rjR b xw xm xt r) rfl ?_
      exact fun a' w h => ⟨⟨{ actB C Q k with kind := K, cl := x.cl, q := x.q, tag := x.tag }, { nD with cl := hxm.1, q := hxm.2.1, tag := (⟨by omega, by omega⟩ : -0 ≤ x.tag ∧ x.tag ≤ 10 * n + 2 + 0) }⟩, h.weakP (by (repeat' (first | exact True.intro | exact Imp.refl _ | refine ⟨?_, ?_⟩))) (by first | (unfold rjR; (repeat (first | exact Sub.refl _ | refine Sub.pick (by first | exact p0 | exact pS p0 | exact pS (pS p0) | exact pS (pS (pS p0)) | exact pS (pS (pS (pS p0))) | exact pS (pS (pS (pS (pS p0))))) ?_))) | (repeat (first | exact Sub.refl _ | refine Sub.pick (by first | exact p0 | exact pS p0 | exact pS (pS p0) | exact pS (pS (pS p0)) | exact pS (pS (pS (pS p0))) | exact pS (pS (pS (pS (pS p0))))) ?_)))⟩
    exact fun a' w h => ⟨⟨{ actB C Q k with kind := K }, nD⟩, h.weakP (by (repeat' (first | exact True.intro | exact Imp.refl _ | refine ⟨?_, ?_⟩))) (by first | (unfold rjR; (repeat (first | exact Sub.refl _ | refine Sub.pick (by first | exact p0 | exact pS p0 | exact pS (pS p0) | exact pS (pS (pS p0)) | exact pS (pS (pS (pS p0))) | exact pS (pS (pS (pS (pS p0))))) ?_))) | (repeat (first | exact Sub.refl _ | refine Sub.pick (by first | exact p0 | exact pS p0 | exact pS (pS p0) | exact pS (pS (pS p0)) | exact pS (pS (pS (pS p0))) | exact pS (pS (pS (pS (pS p0))))) ?_)))⟩
  rintro ⟨a, na⟩
  dsimp only
  ((repeat refine S.seq ?_); refine S.region (L.go (T := tt) tt_ok rfl rfl ?sd283 ?_); (try (case sd283 => (repeat' (first | exact trivial | with_reducible refine zI ?_ ?_ | rfl | exact zN rfl)))); try (refine L.nil ?_))
  (refine L.store (T := tt) tt_ok rfl rfl rfl rfl rfl rfl ?sd293 ?_; (try (case sd293 => (repeat' (first | exact trivial | with_reducible refine zI ?_ ?_ | rfl | exact zN rfl)))))
  refine L.nil ?_
  ((repeat refine S.seq ?_); refine S.ret ?_)
  exact E.ret (T := tt) tt_ok rfl rfl (by (repeat' (first | exact trivial | with_reducible refine zI ?_ ?_ | rfl | exact zN rfl))) (F' := rjR b xw xm xt r) (Imp.refl _) (by unfold rjR; (repeat (first | exact List.nil_sublist _ | refine List.Sublist.cons_cons _ ?_ | refine List.Sublist.cons _ ?_))) ⟨a, rfl, na, rfl⟩
end Go.Proofs.YtfdneepgpekmiaaDoor
