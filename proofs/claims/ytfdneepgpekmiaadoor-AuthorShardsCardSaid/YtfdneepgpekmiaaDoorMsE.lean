/- Texts of this proof, laid together: KeyAut, EqMsgs, EqHelds, EqMarks, ShardC, SpD, SpG, SpM, SpL. -/
import Derived.Test.YtfdneepgpekmiaaDoorMjD
import Derived.Test.YtfdneepgpekmiaaDoorMjC
/- Keys of a map whose keys are a number and a text. -/
namespace Go.Proofs.YtfdneepgpekmiaaDoor.KeyAut
set_option linter.unusedVariables false
set_option linter.unusedSimpArgs false
set_option maxHeartbeats 8000000
open Go.RowKit
open Go.Maps (Keyed)
set_option maxRecDepth 20000

theorem rowName : Nat.blt 83 Tryd.prog.types.size = true := by kernel_rfl
theorem sizeT : ∃ m, Tryd.prog.types.size = m + 1 := by
  have h := of_blt rowName
  generalize Tryd.prog.types.size = n at h ⊢
  exact ⟨n - 1, by omega⟩
theorem kName : Keyed Tryd.prog 83 := Keyed.of_law (deep_law_laid laid (m := 2) (by omega) (of_blt rowName) (by kernel_rfl) (by kernel_rfl))

theorem keyT : Tryd.prog.keyType 83 = true := by kernel_rfl
theorem cellsT : Tryd.prog.cellsOf 83 = 2 := by kernel_rfl
theorem cellsI : Tryd.prog.cellsOf 3 = 1 := by kernel_rfl
theorem cellsS : Tryd.prog.cellsOf 9 = 1 := by kernel_rfl

theorem kName_ok {p : Int} {b : ByteArray} (hp : fitI p) (h : fitS b) : kOf Tryd.prog 83 (nameV p b) = true := by
  have hs : Tryd.prog.underlying 9 = some .string := by kernel_rfl
  have hi : Tryd.prog.underlying 3 = some (.int .i64) := by kernel_rfl
  obtain ⟨l, hu, hfs⟩ := (TOk.told (P := Tryd.prog) (T := tt) tt_ok (t := 83) rfl).struct rfl
  obtain ⟨m, hm⟩ := sizeT
  obtain ⟨fl⟩ := l
  match fl, hfs with
  | [f1, f2], hfs =>
    simp only [fsOk, Bool.and_eq_true, beq_iff_eq, bne_iff_ne, ne_eq] at hfs
    obtain ⟨⟨⟨⟨⟨o1, t1⟩, -⟩, -⟩, n1⟩, ⟨⟨⟨⟨o2, t2⟩, -⟩, -⟩, n2⟩, -⟩ := hfs
    have hwf : (Lit.int .i64 p).wf = true := by
      have := hp.1; have := hp.2
      simp [Lit.wf, IntKind.min, IntKind.max, IntKind.signed, IntKind.bits]
      omega
    have hsz : b.size ≤ maxLen := by unfold fitS at h; simp only [maxLen]; omega
    have hform : (nameV p b).formed Tryd.prog 83 = true := by
      simp [Value.formed, nameV, hu, cellsT]
    simp only [kOf, keyOf, hu, keyT, hform, Bool.and_self, if_true, hm]
    simp [Program.keyLits, hu, nameV, Value.cells, cellsT, n1, n2, o1, t1, o2, t2, cellsI, cellsS, hs, hi, hwf, hsz]

end Go.Proofs.YtfdneepgpekmiaaDoor.KeyAut

/- slices.Equal, as a contract. -/
namespace Go.Proofs.YtfdneepgpekmiaaDoor
set_option linter.unusedVariables false
set_option linter.unusedSimpArgs false
set_option maxHeartbeats 8000000
open Go.RowKit
set_option maxRecDepth 4000

theorem EqMsgs (l m : List Msg) : PFn Tryd.prog 57 [.lst 5 l.length (gOf Msg.cells l), .lst 5 m.length (gOf Msg.cells m)] (.v (.bool (decide (l = m)))) := by
  refine FnC.intro Tryd.func57 rfl Tryd.ntmps57 rfl ?_; intro off w0
  refine lenAt (sz := 5) (n := l.length) (g := gOf Msg.cells l) 0 rfl fun hn => ?_
  ((repeat refine S.seq ?_); refine S.region (L.go (T := tt) tt_ok rfl rfl ?sd1 ?_); (try (case sd1 => (repeat' (first | exact trivial | with_reducible refine zI ?_ ?_)))); try (refine L.nil ?_))
  ((repeat refine S.seq ?_); refine S.region (L.go (T := tt) tt_ok rfl rfl ?sd2 ?_); (try (case sd2 => (repeat' (first | exact trivial | with_reducible refine zI ?_ ?_)))); try (refine L.nil ?_))
  ((repeat refine S.seq ?_); refine S.cond rfl (fun h0 => ?_) (fun h0 => ?_) <;> (try first | refine S.skip ?_ | refine S.exit ?_))
  · ((repeat refine S.seq ?_); refine S.region (L.go (T := tt) tt_ok rfl rfl ?sd3 ?_); (try (case sd3 => (repeat' (first | exact trivial | with_reducible refine zI ?_ ?_)))); try (refine L.nil ?_))
    ((repeat refine S.seq ?_); refine S.ret ?_)
    refine E.retP (T := tt) tt_ok rfl rfl (by (repeat' (first | exact trivial | with_reducible refine zI ?_ ?_))) (Imp.of_eq ?_)
    have : l ≠ m := fun e => by subst e; simp at h0
    simp [oneOf, this]
  have hl : l.length = m.length := by simp at h0; omega
  ((repeat refine S.seq ?_); refine S.region (L.go (T := tt) tt_ok rfl rfl ?sd4 ?_); (try (case sd4 => (repeat' (first | exact trivial | with_reducible refine zI ?_ ?_)))); try (refine L.nil ?_))
  refine S.block (S.loop (ι := { k : Nat // k ≤ l.length ∧ eqTo l m k = true })
    (fun k => [(13, .v (.int .i64 k.1)), (12, .v (.int .i64 l.length)), (1, .lst 5 m.length (gOf Msg.cells m)), (0, .lst 5 l.length (gOf Msg.cells l))]) (fun _ => []) (fun k => l.length - k.1) ?_ ?_)
  · exact fun a w h => ⟨⟨0, Nat.zero_le _, rfl⟩, h.weak (by (repeat' (first | exact True.intro | exact Imp.refl _ | refine ⟨?_, ?_⟩))) (List.Sublist.refl _)⟩
  rintro ⟨k, hk, hno⟩
  dsimp only
  ((repeat refine S.seq ?_); refine S.region (L.go (T := tt) tt_ok rfl rfl ?sd5 ?_); (try (case sd5 => (repeat' (first | exact trivial | with_reducible refine zI ?_ ?_)))); try (refine L.nil ?_))
  ((repeat refine S.seq ?_); refine S.cond rfl (fun h => ?_) (fun h => ?_) <;> (try first | refine S.skip ?_ | refine S.exit ?_))
  · have h := of_dec h
    repeat refine S.seq ?_
    refine S.block ?_
    ((repeat refine S.seq ?_); refine S.region (L.go (T := tt) tt_ok rfl rfl ?sd6 ?_); (try (case sd6 => (repeat' (first | exact trivial | with_reducible refine zI ?_ ?_)))); try (refine L.nil ?_))
    repeat refine S.seq ?_
    refine S.draw [] mixed ?_
    (refine H.ts (T := tt) [0, 1, 2, 3, 4, 5, 6, 7, 8] tt_ok (by kernel_rfl) (by kernel_rfl) (by kernel_rfl) (by intro ch a a' w h; obtain ⟨_, _, _, _, _, h, _⟩ := h; cases h) rfl ?sd10 ?_; (try (case sd10 => (repeat' (first | exact trivial | with_reducible refine zI ?_ ?_ | rfl | omega)))))
    refine H.done (by kernel_rfl) ?_
    ((repeat refine S.seq ?_); refine S.cond rfl (fun hb => ?_) (fun hb => ?_) <;> (try first | refine S.skip ?_ | refine S.exit ?_))
    · have he : (!decide (l.getD k default = m.getD k default)) = true := (congrArg _ (eqMsg _ _).symm).trans hb
      ((repeat refine S.seq ?_); refine S.region (L.go (T := tt) tt_ok rfl rfl ?sd7 ?_); (try (case sd7 => (repeat' (first | exact trivial | with_reducible refine zI ?_ ?_)))); try (refine L.nil ?_))
      ((repeat refine S.seq ?_); refine S.ret ?_)
      refine E.retP (T := tt) tt_ok rfl rfl (by (repeat' (first | exact trivial | with_reducible refine zI ?_ ?_))) (Imp.of_eq ?_)
      have : l ≠ m := fun e => by subst e; simp at he
      simp [oneOf, this]
    · have he : (!decide (l.getD k default = m.getD k default)) = false := (congrArg _ (eqMsg _ _).symm).trans hb
      ((repeat refine S.seq ?_); refine S.region (L.go (T := tt) tt_ok rfl rfl ?sd8 ?_); (try (case sd8 => (repeat' (first | exact trivial | with_reducible refine zI ?_ ?_ | (unfold fits; omega))))); try (refine L.nil ?_))
      exact fun a w hR => ⟨⟨k + 1, by omega, by rw [eqTo_succ, hno]; simpa using he⟩, by simp only; omega, hR.weak (by (repeat' (first | exact True.intro | exact Imp.refl _ | refine ⟨?_, ?_⟩))) (List.Sublist.refl _)⟩
  · have h := of_dec' h
    have hkn : k = l.length := by omega
    subst hkn
    ((repeat refine S.seq ?_); refine S.region (L.go (T := tt) tt_ok rfl rfl ?sd9 ?_); (try (case sd9 => (repeat' (first | exact trivial | with_reducible refine zI ?_ ?_)))); try (refine L.nil ?_))
    ((repeat refine S.seq ?_); refine S.ret ?_)
    refine E.retP (T := tt) tt_ok rfl rfl (by (repeat' (first | exact trivial | with_reducible refine zI ?_ ?_))) (Imp.of_eq ?_)
    simp [oneOf, eqTo_eq hl hno]

end Go.Proofs.YtfdneepgpekmiaaDoor

/- slices.Equal, as a contract. -/
namespace Go.Proofs.YtfdneepgpekmiaaDoor
set_option linter.unusedVariables false
set_option linter.unusedSimpArgs false
set_option maxHeartbeats 8000000
open Go.RowKit
set_option maxRecDepth 4000

theorem EqHelds (l m : List Held) : PFn Tryd.prog 58 [.lst 6 l.length (gOf Held.cells l), .lst 6 m.length (gOf Held.cells m)] (.v (.bool (decide (l = m)))) := by
  refine FnC.intro Tryd.func58 rfl Tryd.ntmps58 rfl ?_; intro off w0
  refine lenAt (sz := 6) (n := l.length) (g := gOf Held.cells l) 0 rfl fun hn => ?_
  ((repeat refine S.seq ?_); refine S.region (L.go (T := tt) tt_ok rfl rfl ?sd11 ?_); (try (case sd11 => (repeat' (first | exact trivial | with_reducible refine zI ?_ ?_)))); try (refine L.nil ?_))
  ((repeat refine S.seq ?_); refine S.region (L.go (T := tt) tt_ok rfl rfl ?sd12 ?_); (try (case sd12 => (repeat' (first | exact trivial | with_reducible refine zI ?_ ?_)))); try (refine L.nil ?_))
  ((repeat refine S.seq ?_); refine S.cond rfl (fun h0 => ?_) (fun h0 => ?_) <;> (try first | refine S.skip ?_ | refine S.exit ?_))
  · ((repeat refine S.seq ?_); refine S.region (L.go (T := tt) tt_ok rfl rfl ?sd13 ?_); (try (case sd13 => (repeat' (first | exact trivial | with_reducible refine zI ?_ ?_)))); try (refine L.nil ?_))
    ((repeat refine S.seq ?_); refine S.ret ?_)
    refine E.retP (T := tt) tt_ok rfl rfl (by (repeat' (first | exact trivial | with_reducible refine zI ?_ ?_))) (Imp.of_eq ?_)
    have : l ≠ m := fun e => by subst e; simp at h0
    simp [oneOf, this]
  have hl : l.length = m.length := by simp at h0; omega
  ((repeat refine S.seq ?_); refine S.region (L.go (T := tt) tt_ok rfl rfl ?sd14 ?_); (try (case sd14 => (repeat' (first | exact trivial | with_reducible refine zI ?_ ?_)))); try (refine L.nil ?_))
  refine S.block (S.loop (ι := { k : Nat // k ≤ l.length ∧ eqTo l m k = true })
    (fun k => [(13, .v (.int .i64 k.1)), (12, .v (.int .i64 l.length)), (1, .lst 6 m.length (gOf Held.cells m)), (0, .lst 6 l.length (gOf Held.cells l))]) (fun _ => []) (fun k => l.length - k.1) ?_ ?_)
  · exact fun a w h => ⟨⟨0, Nat.zero_le _, rfl⟩, h.weak (by (repeat' (first | exact True.intro | exact Imp.refl _ | refine ⟨?_, ?_⟩))) (List.Sublist.refl _)⟩
  rintro ⟨k, hk, hno⟩
  dsimp only
  ((repeat refine S.seq ?_); refine S.region (L.go (T := tt) tt_ok rfl rfl ?sd15 ?_); (try (case sd15 => (repeat' (first | exact trivial | with_reducible refine zI ?_ ?_)))); try (refine L.nil ?_))
  ((repeat refine S.seq ?_); refine S.cond rfl (fun h => ?_) (fun h => ?_) <;> (try first | refine S.skip ?_ | refine S.exit ?_))
  · have h := of_dec h
    repeat refine S.seq ?_
    refine S.block ?_
    ((repeat refine S.seq ?_); refine S.region (L.go (T := tt) tt_ok rfl rfl ?sd16 ?_); (try (case sd16 => (repeat' (first | exact trivial | with_reducible refine zI ?_ ?_)))); try (refine L.nil ?_))
    repeat refine S.seq ?_
    refine S.draw [] mixed ?_
    (refine H.ts (T := tt) [0, 1, 2, 3, 4, 5, 6, 7, 8] tt_ok (by kernel_rfl) (by kernel_rfl) (by kernel_rfl) (by intro ch a a' w h; obtain ⟨_, _, _, _, _, h, _⟩ := h; cases h) rfl ?sd20 ?_; (try (case sd20 => (repeat' (first | exact trivial | with_reducible refine zI ?_ ?_ | rfl | omega)))))
    refine H.done (by kernel_rfl) ?_
    ((repeat refine S.seq ?_); refine S.cond rfl (fun hb => ?_) (fun hb => ?_) <;> (try first | refine S.skip ?_ | refine S.exit ?_))
    · have he : (!decide (l.getD k default = m.getD k default)) = true := (congrArg _ (eqHeld _ _).symm).trans hb
      ((repeat refine S.seq ?_); refine S.region (L.go (T := tt) tt_ok rfl rfl ?sd17 ?_); (try (case sd17 => (repeat' (first | exact trivial | with_reducible refine zI ?_ ?_)))); try (refine L.nil ?_))
      ((repeat refine S.seq ?_); refine S.ret ?_)
      refine E.retP (T := tt) tt_ok rfl rfl (by (repeat' (first | exact trivial | with_reducible refine zI ?_ ?_))) (Imp.of_eq ?_)
      have : l ≠ m := fun e => by subst e; simp at he
      simp [oneOf, this]
    · have he : (!decide (l.getD k default = m.getD k default)) = false := (congrArg _ (eqHeld _ _).symm).trans hb
      ((repeat refine S.seq ?_); refine S.region (L.go (T := tt) tt_ok rfl rfl ?sd18 ?_); (try (case sd18 => (repeat' (first | exact trivial | with_reducible refine zI ?_ ?_ | (unfold fits; omega))))); try (refine L.nil ?_))
      exact fun a w hR => ⟨⟨k + 1, by omega, by rw [eqTo_succ, hno]; simpa using he⟩, by simp only; omega, hR.weak (by (repeat' (first | exact True.intro | exact Imp.refl _ | refine ⟨?_, ?_⟩))) (List.Sublist.refl _)⟩
  · have h := of_dec' h
    have hkn : k = l.length := by omega
    subst hkn
    ((repeat refine S.seq ?_); refine S.region (L.go (T := tt) tt_ok rfl rfl ?sd19 ?_); (try (case sd19 => (repeat' (first | exact trivial | with_reducible refine zI ?_ ?_)))); try (refine L.nil ?_))
    ((repeat refine S.seq ?_); refine S.ret ?_)
    refine E.retP (T := tt) tt_ok rfl rfl (by (repeat' (first | exact trivial | with_reducible refine zI ?_ ?_))) (Imp.of_eq ?_)
    simp [oneOf, eqTo_eq hl hno]

end Go.Proofs.YtfdneepgpekmiaaDoor

/- slices.Equal, as a contract. -/
namespace Go.Proofs.YtfdneepgpekmiaaDoor
set_option linter.unusedVariables false
set_option linter.unusedSimpArgs false
set_option maxHeartbeats 8000000
open Go.RowKit
set_option maxRecDepth 4000

theorem EqMarks (l m : List Mark) : PFn Tryd.prog 59 [.lst 3 l.length (gOf Mark.cells l), .lst 3 m.length (gOf Mark.cells m)] (.v (.bool (decide (l = m)))) := by
  refine FnC.intro Tryd.func59 rfl Tryd.ntmps59 rfl ?_; intro off w0
  refine lenAt (sz := 3) (n := l.length) (g := gOf Mark.cells l) 0 rfl fun hn => ?_
  ((repeat refine S.seq ?_); refine S.region (L.go (T := tt) tt_ok rfl rfl ?sd21 ?_); (try (case sd21 => (repeat' (first | exact trivial | with_reducible refine zI ?_ ?_)))); try (refine L.nil ?_))
  ((repeat refine S.seq ?_); refine S.region (L.go (T := tt) tt_ok rfl rfl ?sd22 ?_); (try (case sd22 => (repeat' (first | exact trivial | with_reducible refine zI ?_ ?_)))); try (refine L.nil ?_))
  ((repeat refine S.seq ?_); refine S.cond rfl (fun h0 => ?_) (fun h0 => ?_) <;> (try first | refine S.skip ?_ | refine S.exit ?_))
  · ((repeat refine S.seq ?_); refine S.region (L.go (T := tt) tt_ok rfl rfl ?sd23 ?_); (try (case sd23 => (repeat' (first | exact trivial | with_reducible refine zI ?_ ?_)))); try (refine L.nil ?_))
    ((repeat refine S.seq ?_); refine S.ret ?_)
    refine E.retP (T := tt) tt_ok rfl rfl (by (repeat' (first | exact trivial | with_reducible refine zI ?_ ?_))) (Imp.of_eq ?_)
    have : l ≠ m := fun e => by subst e; simp at h0
    simp [oneOf, this]
  have hl : l.length = m.length := by simp at h0; omega
  ((repeat refine S.seq ?_); refine S.region (L.go (T := tt) tt_ok rfl rfl ?sd24 ?_); (try (case sd24 => (repeat' (first | exact trivial | with_reducible refine zI ?_ ?_)))); try (refine L.nil ?_))
  refine S.block (S.loop (ι := { k : Nat // k ≤ l.length ∧ eqTo l m k = true })
    (fun k => [(13, .v (.int .i64 k.1)), (12, .v (.int .i64 l.length)), (1, .lst 3 m.length (gOf Mark.cells m)), (0, .lst 3 l.length (gOf Mark.cells l))]) (fun _ => []) (fun k => l.length - k.1) ?_ ?_)
  · exact fun a w h => ⟨⟨0, Nat.zero_le _, rfl⟩, h.weak (by (repeat' (first | exact True.intro | exact Imp.refl _ | refine ⟨?_, ?_⟩))) (List.Sublist.refl _)⟩
  rintro ⟨k, hk, hno⟩
  dsimp only
  ((repeat refine S.seq ?_); refine S.region (L.go (T := tt) tt_ok rfl rfl ?sd25 ?_); (try (case sd25 => (repeat' (first | exact trivial | with_reducible refine zI ?_ ?_)))); try (refine L.nil ?_))
  ((repeat refine S.seq ?_); refine S.cond rfl (fun h => ?_) (fun h => ?_) <;> (try first | refine S.skip ?_ | refine S.exit ?_))
  · have h := of_dec h
    repeat refine S.seq ?_
    refine S.block ?_
    ((repeat refine S.seq ?_); refine S.region (L.go (T := tt) tt_ok rfl rfl ?sd26 ?_); (try (case sd26 => (repeat' (first | exact trivial | with_reducible refine zI ?_ ?_)))); try (refine L.nil ?_))
    repeat refine S.seq ?_
    refine S.draw [] mixed ?_
    (refine H.ts (T := tt) [0, 1, 2, 3, 4, 5, 6, 7, 8] tt_ok (by kernel_rfl) (by kernel_rfl) (by kernel_rfl) (by intro ch a a' w h; obtain ⟨_, _, _, _, _, h, _⟩ := h; cases h) rfl ?sd30 ?_; (try (case sd30 => (repeat' (first | exact trivial | with_reducible refine zI ?_ ?_ | rfl | omega)))))
    refine H.done (by kernel_rfl) ?_
    ((repeat refine S.seq ?_); refine S.cond rfl (fun hb => ?_) (fun hb => ?_) <;> (try first | refine S.skip ?_ | refine S.exit ?_))
    · have he : (!decide (l.getD k default = m.getD k default)) = true := (congrArg _ (eqMark _ _).symm).trans hb
      ((repeat refine S.seq ?_); refine S.region (L.go (T := tt) tt_ok rfl rfl ?sd27 ?_); (try (case sd27 => (repeat' (first | exact trivial | with_reducible refine zI ?_ ?_)))); try (refine L.nil ?_))
      ((repeat refine S.seq ?_); refine S.ret ?_)
      refine E.retP (T := tt) tt_ok rfl rfl (by (repeat' (first | exact trivial | with_reducible refine zI ?_ ?_))) (Imp.of_eq ?_)
      have : l ≠ m := fun e => by subst e; simp at he
      simp [oneOf, this]
    · have he : (!decide (l.getD k default = m.getD k default)) = false := (congrArg _ (eqMark _ _).symm).trans hb
      ((repeat refine S.seq ?_); refine S.region (L.go (T := tt) tt_ok rfl rfl ?sd28 ?_); (try (case sd28 => (repeat' (first | exact trivial | with_reducible refine zI ?_ ?_ | (unfold fits; omega))))); try (refine L.nil ?_))
      exact fun a w hR => ⟨⟨k + 1, by omega, by rw [eqTo_succ, hno]; simpa using he⟩, by simp only; omega, hR.weak (by (repeat' (first | exact True.intro | exact Imp.refl _ | refine ⟨?_, ?_⟩))) (List.Sublist.refl _)⟩
  · have h := of_dec' h
    have hkn : k = l.length := by omega
    subst hkn
    ((repeat refine S.seq ?_); refine S.region (L.go (T := tt) tt_ok rfl rfl ?sd29 ?_); (try (case sd29 => (repeat' (first | exact trivial | with_reducible refine zI ?_ ?_)))); try (refine L.nil ?_))
    ((repeat refine S.seq ?_); refine S.ret ?_)
    refine E.retP (T := tt) tt_ok rfl rfl (by (repeat' (first | exact trivial | with_reducible refine zI ?_ ?_))) (Imp.of_eq ?_)
    simp [oneOf, eqTo_eq hl hno]

end Go.Proofs.YtfdneepgpekmiaaDoor

/- Which shards may be. -/
namespace Go.Proofs.YtfdneepgpekmiaaDoor
set_option linter.unusedVariables false
set_option linter.unusedSimpArgs false
set_option maxHeartbeats 8000000
open Go.RowKit
open Go.Maps (Keyed)
set_option maxRecDepth 4000

def Msg.mark (m : Msg) : Mark := ⟨m.pub, m.key, m.seq⟩
def keysM (l : List Held) : List (Value × AV) := (l.map fun h => (Value.string h.m.key, AV.v (.bool true))).reverse
def hasKey (l : List Held) (key : ByteArray) : Bool := l.any fun h => h.m.key == key
theorem mget_keys (key : ByteArray) : ∀ (r : List Held), mget (r.map fun h => (Value.string h.m.key, AV.v (.bool true))) (.string key) = if hasKey r key then some (.v (.bool true)) else none
  | [] => rfl
  | h :: r => by
    rw [List.map_cons, hasKey, List.any_cons]
    by_cases e : h.m.key = key
    · rw [e, mget_cons_same]; simp
    · rw [mget_cons_other _ _ (by simpa using e), mget_keys key r, hasKey]
      simp [e]
theorem look_keys (l : List Held) (key : ByteArray) : mlook (keysM l) (.string key) (.bool false) = .v (.bool (hasKey l key)) := by
  unfold mlook keysM
  rw [← List.map_reverse, mget_keys]
  have : hasKey l.reverse key = hasKey l key := by simp [hasKey]
  rw [this]
  cases hasKey l key <;> rfl
theorem keysM_succ {l : List Held} {k : Nat} (h : k < l.length) : keysM (l.take (k + 1)) = (Value.string (l.getD k default).m.key, AV.v (.bool true)) :: keysM (l.take k) := by
  have : l[k]? = some l[k] := List.getElem?_eq_getElem h
  rw [keysM, List.take_add_one, this, List.getD_eq_getElem?_getD, this]
  simp only [Option.toList_some, Option.getD_some, List.map_append, List.map_cons, List.map_nil, List.reverse_append]
  rfl

def tagTo (l : List Held) (k : Nat) : Int := if k = 0 then 0 else (l.getD (k - 1) default).tag
def heldMarks (l : List Held) : List Mark := l.map fun h => h.m.mark
theorem heldMarks_succ {l : List Held} {k : Nat} (h : k < l.length) : marksM (heldMarks (l.take (k + 1))) = markM (l.getD k default).m.mark :: marksM (heldMarks (l.take k)) := by
  have : l[k]? = some l[k] := List.getElem?_eq_getElem h
  rw [heldMarks, heldMarks, List.take_add_one, this, List.getD_eq_getElem?_getD, this]
  simp only [marksM, Option.toList_some, Option.getD_some, List.map_append, List.map_cons, List.map_nil, List.reverse_append]
  rfl

/-- A held one that may be, behind the others. -/
def heldE (s : Shard) (k : Nat) : Bool :=
  let h := s.held.getD k default
  !(decide (h.tag ≤ tagTo s.held k) || decide (h.tag ≥ s.next) || hasKey (s.held.take k) h.m.key || !mayMsg h.m || decide (lastSeq s.marks h.m.pub h.m.key < h.m.seq))
def heldTo (s : Shard) (k : Nat) : Bool := (List.range k).all (heldE s)
theorem heldTo_succ (s : Shard) (k : Nat) : heldTo s (k + 1) = (heldTo s k && heldE s k) := by simp [heldTo, List.range_succ]
theorem heldTo_all {s : Shard} {n k : Nat} (h : heldTo s n = true) (hk : k < n) : heldE s k = true := List.all_eq_true.1 h k (by simpa using hk)
theorem heldE_may {s : Shard} {k : Nat} (h : heldE s k = true) : mayMsg (s.held.getD k default).m = true := by
  unfold heldE at h
  simp only [Bool.not_eq_true', Bool.or_eq_false_iff, Bool.not_eq_false'] at h
  exact h.1.2
def readyE (s : Shard) (k : Nat) : Bool :=
  let m := s.ready.getD k default
  !(!mayMsg m || decide (lastSeq s.marks m.pub m.key < m.seq) || decide (lastSeq (heldMarks s.held ++ (s.ready.take k).map Msg.mark) m.pub m.key ≥ m.seq))
def readyTo (s : Shard) (k : Nat) : Bool := (List.range k).all (readyE s)
theorem readyTo_succ (s : Shard) (k : Nat) : readyTo s (k + 1) = (readyTo s k && readyE s k) := by simp [readyTo, List.range_succ]
theorem readyTo_all {s : Shard} {n k : Nat} (h : readyTo s n = true) (hk : k < n) : readyE s k = true := List.all_eq_true.1 h k (by simpa using hk)
theorem readyE_may {s : Shard} {k : Nat} (h : readyE s k = true) : mayMsg (s.ready.getD k default) = true := by
  unfold readyE at h
  simp only [Bool.not_eq_true', Bool.or_eq_false_iff, Bool.not_eq_false'] at h
  exact h.1.1
theorem readyMarks_succ {l : List Msg} {h : List Mark} {k : Nat} (hk : k < l.length) : marksM (h ++ (l.take (k + 1)).map Msg.mark) = markM (l.getD k default).mark :: marksM (h ++ (l.take k).map Msg.mark) := by
  have : l[k]? = some l[k] := List.getElem?_eq_getElem hk
  rw [List.take_add_one, this, List.getD_eq_getElem?_getD, this]
  simp only [marksM, Option.toList_some, Option.getD_some, List.map_append, List.map_cons, List.map_nil, List.reverse_append]
  rfl
def mayShard (s : Shard) : Bool := marksTo s.marks s.marks.length && decide ((s.marks.length : Int) ≤ 64) &&
  !(decide (s.next < 1) || decide (s.next > 1073741824) || decide ((s.ready.length : Int) + s.held.length > 48)) && heldTo s s.held.length && readyTo s s.ready.length

theorem may_p (s : Shard) (h1 : s.ready.length ≤ 1000) (h2 : s.held.length ≤ 1000) (hk : ∀ h ∈ s.held, fitS h.m.key) : PFn Tryd.prog 39 [s.av] (.v (.bool (mayShard s))) := by
  refine FnC.intro Tryd.func39 rfl Tryd.ntmps39 rfl ?_; intro off w0
  repeat refine S.seq ?_
  refine S.region ?_
  refine L.box 1 rfl rfl rfl rfl rfl trivial rfl fun b => ?_
  (refine L.go (T := tt) tt_ok rfl rfl ?sd45 ?_; (try (case sd45 => (repeat' (first | exact trivial | with_reducible refine zI ?_ ?_)))); try (refine L.nil ?_))
  ((repeat refine S.seq ?_); refine S.region (L.go (T := tt) tt_ok rfl rfl ?sd31 ?_); (try (case sd31 => (repeat' (first | exact trivial | with_reducible refine zI ?_ ?_ | rfl)))); try (refine L.nil ?_))
  refine L.call (G := []) (H := [(1, _)]) rfl rfl rfl rfl rfl rfl rfl ⟨trivial, by (repeat' (first | exact trivial | with_reducible refine zI ?_ ?_))⟩ rfl (by exact Imps.refl [marksA s.marks]) (List.Perm.refl _) (marks_p s.marks) ?_
  rintro r F' (⟨hm, b1, rfl, rfl⟩ | ⟨hm, rfl, rfl⟩)
  · (refine L.go (T := tt) tt_ok rfl rfl ?sd46 ?_; (try (case sd46 => (repeat' (first | exact trivial | with_reducible refine zI ?_ ?_)))); try (refine L.nil ?_))
    ((repeat refine S.seq ?_); refine S.region (L.go (T := tt) tt_ok rfl rfl ?sd32 ?_); (try (case sd32 => (repeat' (first | exact trivial | exact zA | with_reducible refine zI ?_ ?_ | exact zB | exact zC | exact zE | (simp; done) | (unfold fits; simp_all; omega))))); try (refine L.nil ?_))
    ((repeat refine S.seq ?_); refine S.cond rfl (fun h0 => ?_) (fun h0 => ?_) <;> (try first | refine S.skip ?_ | refine S.exit ?_))
    · ((repeat refine S.seq ?_); refine S.region (L.go (T := tt) tt_ok rfl rfl ?sd33 ?_); (try (case sd33 => (repeat' (first | exact trivial | with_reducible refine zI ?_ ?_)))); try (refine L.nil ?_))
      ((repeat refine S.seq ?_); refine S.ret ?_)
      refine E.retP (T := tt) tt_ok rfl rfl (by (repeat' (first | exact trivial | with_reducible refine zI ?_ ?_))) (Imp.of_eq ?_)
      have : (decide ((s.marks.length : Int) ≤ 64) && !(decide (s.next < 1) || decide (s.next > 1073741824) || decide ((s.ready.length : Int) + s.held.length > 48))) = false := by
        cases hq : decide ((s.marks.length : Int) ≤ 64) <;> rw [hq] at h0 <;> simp at h0 ⊢ <;> omega
      simp only [oneOf, mayShard]
      rw [Bool.and_assoc (marksTo _ _), this]
      simp
    repeat refine S.seq ?_
    refine S.region (L.makeMap 82 137 rfl rfl rfl rfl fun b2 => ?_)
    (refine L.go (T := tt) tt_ok rfl rfl ?sd47 ?_; (try (case sd47 => (repeat' (first | exact trivial | with_reducible refine zI ?_ ?_)))); try (refine L.nil ?_))
    repeat refine S.seq ?_
    refine S.region (L.makeMap 83 9 rfl rfl rfl rfl fun b3 => ?_)
    (refine L.go (T := tt) tt_ok rfl rfl ?sd48 ?_; (try (case sd48 => (repeat' (first | exact trivial | with_reducible refine zI ?_ ?_)))); try (refine L.nil ?_))
    ((repeat refine S.seq ?_); refine S.region (L.go (T := tt) tt_ok rfl rfl ?sd34 ?_); (try (case sd34 => (repeat' (first | exact trivial | with_reducible refine zI ?_ ?_ | rfl)))); try (refine L.nil ?_))
    repeat refine S.seq ?_
    refine S.block (S.loop (ι := { k : Nat // k ≤ s.held.length ∧ heldTo s k = true })
      (fun k => [(45, .v (.int .i64 k.1)), (44, .v (.int .i64 s.held.length)), (43, helds s.held), (7, .ref 83 (.map (some b3))), (6, .v (.int .i64 (tagTo s.held k.1))), (5, .ref 82 (.map (some b2))), (3, .ref 81 (.map (some b1))), (1, .ptr 1 b 0)])
      (fun k => [(83, .map b3 (kOf Tryd.prog 9) (keysM (s.held.take k.1))), (82, .map b2 (kOf Tryd.prog 137) (marksM (heldMarks (s.held.take k.1)))), (81, .map b1 (kOf Tryd.prog 137) (marksM s.marks)), (1, .blk b 71 s.cells)])
      (fun k => s.held.length - k.1) ?_ ?_)
    · exact fun a w h => ⟨⟨0, Nat.zero_le _, rfl⟩, h.weak (by (repeat' (first | exact True.intro | exact Imp.refl _ | refine ⟨?_, ?_⟩))) (List.Sublist.refl _)⟩
    rintro ⟨k, hk1, hno⟩
    dsimp only
    ((repeat refine S.seq ?_); refine S.region (L.go (T := tt) tt_ok rfl rfl ?sd35 ?_); (try (case sd35 => (repeat' (first | exact trivial | with_reducible refine zI ?_ ?_)))); try (refine L.nil ?_))
    ((repeat refine S.seq ?_); refine S.cond rfl (fun h => ?_) (fun h => ?_) <;> (try first | refine S.skip ?_ | refine S.exit ?_))
    · have h := of_dec h
      have hkey : fitS (s.held.getD k default).m.key := hk _ (by
        have : s.held[k]? = some s.held[k] := List.getElem?_eq_getElem (by omega)
        rw [List.getD_eq_getElem?_getD, this]; exact List.getElem_mem _)
      repeat refine S.seq ?_
      refine S.block ?_
      repeat refine S.seq ?_
      refine S.region (L.run (T := tt) 2 tt_ok rfl rfl (by (repeat' (first | exact trivial | with_reducible refine zI ?_ ?_ | rfl | omega))) ?_)
      refine L.alloc (T := tt) 2 tt_ok rfl rfl rfl rfl rfl fun b4 => ?_
      (refine L.store (T := tt) tt_ok rfl rfl rfl rfl rfl rfl ?sd50 ?_; (try (case sd50 => (repeat' (first | exact trivial | with_reducible refine zI ?_ ?_ | rfl | exact zN rfl)))))
      refine L.nil ?_
      repeat refine S.seq ?_
      refine S.draw [(1, [2]), (6, [2]), (8, [1]), (15, [2]), (16, [83]), (20, [2]), (27, [2]), (29, [81]), (32, [2])] mixed ?_
      (refine H.ts (T := tt) [0, 1, 2, 3, 4, 5, 6, 7, 8, 9, 10, 11, 12, 13, 14, 15] tt_ok (by kernel_rfl) (by kernel_rfl) (by kernel_rfl) (by intro ch a a' w h; obtain ⟨_, _, _, _, _, h, _⟩ := h; cases h) rfl ?sd52 ?_; (try (case sd52 => (repeat' (first | exact trivial | exact zA | with_reducible refine zI ?_ ?_ | exact zB | exact zD | rfl | (simp; done))))))
      refine H.sG (A := .v (.bool (hasKey (s.held.take k) (s.held.getD k default).m.key))) 16 rfl (by kernel_rfl) (by kernel_rfl) (by kernel_rfl) (by kernel_rfl) (by kernel_rfl) (by intro ch a a' w h; obtain ⟨_, _, _, _, _, h, _⟩ := h; cases h) rfl rfl rfl (fun hb => look_sure (T := tt) tt_ok kStr rfl rfl (by kernel_rfl) rfl rfl rfl ?kk1 rfl (fun _ _ => rfl) rfl ?kk2 (look_keys _ _)) ?_
      · exact ⟨hb, hb⟩
      · exact kStr_ok hkey
      (refine H.ts (T := tt) [17, 18, 19, 20] tt_ok (by kernel_rfl) (by kernel_rfl) (by kernel_rfl) (by intro ch a a' w h; obtain ⟨_, _, _, _, _, h, _⟩ := h; cases h) rfl ?sd53 ?_; (try (case sd53 => (repeat' (first | exact trivial | exact zA | with_reducible refine zI ?_ ?_ | exact zB | rfl | exact zN rfl | omega | intro _)))))
      refine H.callG 21 rfl (by kernel_rfl) (by kernel_rfl) rfl rfl rfl rfl rfl rfl rfl (fun hb => ⟨trivial, hb, trivial⟩) rfl (by exact Imps.refl _) (fun _ => mayMsg_p (s.held.getD k default).m) ?_
      (refine H.ts (T := tt) [22, 23, 24, 25, 26, 27, 30, 31, 32] tt_ok (by kernel_rfl) (by kernel_rfl) (by kernel_rfl) (by intro ch a a' w h; obtain ⟨_, _, _, _, _, h, _⟩ := h; cases h) rfl ?sd54 ?_; (try (case sd54 => (repeat' (first | exact trivial | exact zA | with_reducible refine zI ?_ ?_ | exact zB | exact zC | rfl | exact zN rfl | omega | (simp; done) | intro _)))))
      refine H.callG 28 rfl (by kernel_rfl) (by kernel_rfl) rfl rfl rfl rfl rfl rfl rfl (fun hb => ⟨trivial, hb, trivial⟩) rfl (by exact Imps.refl _) (fun _ => of_p (s.held.getD k default).m) ?_
      refine H.sG (A := .v (.int .i64 (lastSeq s.marks (s.held.getD k default).m.pub (s.held.getD k default).m.key))) 29 rfl (by kernel_rfl) (by kernel_rfl) (by kernel_rfl) (by kernel_rfl) (by kernel_rfl) (by intro ch a a' w h; obtain ⟨_, _, _, _, _, h, _⟩ := h; cases h) rfl rfl rfl (fun hb => look_sure (T := tt) tt_ok kName rfl rfl (by kernel_rfl) rfl rfl rfl ⟨hb, hb⟩ rfl (fun _ _ => rfl) rfl ?kk3 (look_marks _ _ _)) ?_
      · have hm : mayMsg (s.held.getD k default).m = true := by
          simp only [Bool.or_eq_false_iff, Bool.not_eq_false'] at hb
          exact hb.2
        have hf := may_fit hm
        exact kName_ok hf.1 hf.2.1
      (refine H.ts (T := tt) [33, 34] tt_ok (by kernel_rfl) (by kernel_rfl) (by kernel_rfl) (by intro ch a a' w h; obtain ⟨_, _, _, _, _, h, _⟩ := h; cases h) rfl ?sd55 ?_; (try (case sd55 => (repeat' (first | exact trivial | with_reducible refine zI ?_ ?_ | exact zB | exact zD)))))
      refine H.done (by kernel_rfl) ?_
      ((repeat refine S.seq ?_); refine S.cond rfl (fun hb => ?_) (fun hb => ?_) <;> (try first | refine S.skip ?_ | refine S.exit ?_))
      · have he : (!heldE s k) = true := by unfold heldE; rw [Bool.not_not]; exact hb
        ((repeat refine S.seq ?_); refine S.region (L.go (T := tt) tt_ok rfl rfl ?sd36 ?_); (try (case sd36 => (repeat' (first | exact trivial | with_reducible refine zI ?_ ?_)))); try (refine L.nil ?_))
        ((repeat refine S.seq ?_); refine S.ret ?_)
        refine E.retP (T := tt) tt_ok rfl rfl (by (repeat' (first | exact trivial | with_reducible refine zI ?_ ?_))) (Imp.of_eq ?_)
        have : heldTo s s.held.length = false := by
          cases hq : heldTo s s.held.length with
          | false => rfl
          | true => rw [heldTo_all hq (by omega)] at he; cases he
        simp [oneOf, mayShard, this]
      · have he : (!heldE s k) = false := by unfold heldE; rw [Bool.not_not]; exact hb
        have hf := may_fit (heldE_may (by simpa using he))
        repeat refine S.seq ?_
        refine S.draw [(3, [2]), (6, [2]), (9, [2]), (12, [2])] mixed ?_
        (refine H.ts (T := tt) [0, 1, 2, 3, 4, 5, 6, 8, 9, 10, 11, 12] tt_ok (by kernel_rfl) (by kernel_rfl) (by kernel_rfl) (by intro ch a a' w h; obtain ⟨_, _, _, _, _, h, _⟩ := h; cases h) rfl ?sd56 ?_; (try (case sd56 => (repeat' (first | exact trivial | with_reducible refine zI ?_ ?_ | rfl | exact zN rfl)))))
        refine H.callP 7 rfl (by kernel_rfl) (by kernel_rfl) rfl rfl rfl rfl rfl rfl rfl ⟨trivial, by (repeat' (first | exact trivial | with_reducible refine zI ?_ ?_))⟩ rfl (by exact Imps.refl _) (of_p (s.held.getD k default).m) ?_
        (refine H.ts (T := tt) [13] tt_ok (by kernel_rfl) (by kernel_rfl) (by kernel_rfl) (by intro ch a a' w h; obtain ⟨_, _, _, _, _, h, _⟩ := h; cases h) rfl ?sd57 ?_; (try (case sd57 => (repeat' (first | exact trivial | with_reducible refine zI ?_ ?_)))))
        refine H.o1 14 rfl (by kernel_rfl) (by kernel_rfl) (O.mapSet (T := tt) tt_ok kStr rfl rfl rfl rfl rfl rfl rfl rfl (by (repeat' (first | exact trivial | with_reducible refine zI ?_ ?_))) rfl rfl (kStr_ok hkey)) (.inl (by kernel_rfl)) (by kernel_rfl) fun _ => ?_
        refine H.o1 15 rfl (by kernel_rfl) (by kernel_rfl) (O.mapSet (T := tt) tt_ok kName rfl rfl rfl rfl rfl rfl rfl rfl (by (repeat' (first | exact trivial | with_reducible refine zI ?_ ?_))) rfl rfl (kName_ok hf.1 hf.2.1)) (.inl (by kernel_rfl)) (by kernel_rfl) fun _ => ?_
        refine H.done (by kernel_rfl) ?_
        ((repeat refine S.seq ?_); refine S.region (L.go (T := tt) tt_ok rfl rfl ?sd37 ?_); (try (case sd37 => (repeat' (first | exact trivial | with_reducible refine zI ?_ ?_ | (unfold fits; omega))))); try (refine L.nil ?_))
        intro a w hR
        refine ⟨⟨k + 1, by omega, by rw [heldTo_succ, hno]; simpa using he⟩, by simp only; omega, ?_⟩
        dsimp only
        rw [keysM_succ (by omega), heldMarks_succ (by omega)]
        exact hR.weak (by (repeat' (first | exact True.intro | exact Imp.refl _ | refine ⟨?_, ?_⟩))) (by (repeat (first | exact List.nil_sublist _ | refine List.Sublist.cons_cons _ ?_ | refine List.Sublist.cons _ ?_)))
    · have h := of_dec' h
      have hkn : k = s.held.length := by omega
      subst hkn
      rw [List.take_length]
      ((repeat refine S.seq ?_); refine S.region (L.go (T := tt) tt_ok rfl rfl ?sd38 ?_); (try (case sd38 => (repeat' (first | exact trivial | with_reducible refine zI ?_ ?_ | rfl)))); try (refine L.nil ?_))
      repeat refine S.seq ?_
      refine S.block (S.loop (ι := { k : Nat // k ≤ s.ready.length ∧ readyTo s k = true })
        (fun k => [(101, .v (.int .i64 k.1)), (100, .v (.int .i64 s.ready.length)), (99, msgs s.ready), (5, .ref 82 (.map (some b2))), (3, .ref 81 (.map (some b1))), (1, .ptr 1 b 0)])
        (fun k => [(82, .map b2 (kOf Tryd.prog 137) (marksM (heldMarks s.held ++ (s.ready.take k.1).map Msg.mark))), (81, .map b1 (kOf Tryd.prog 137) (marksM s.marks)), (1, .blk b 71 s.cells)])
        (fun k => s.ready.length - k.1) ?_ ?_)
      · intro a w h
        refine ⟨⟨0, Nat.zero_le _, rfl⟩, ?_⟩
        dsimp only
        rw [show heldMarks s.held ++ (s.ready.take 0).map Msg.mark = heldMarks s.held by simp]
        exact h.weak (by (repeat' (first | exact True.intro | exact Imp.refl _ | refine ⟨?_, ?_⟩))) (by (repeat (first | exact List.nil_sublist _ | refine List.Sublist.cons_cons _ ?_ | refine List.Sublist.cons _ ?_)))
      rintro ⟨k, hk1, hnr⟩
      dsimp only
      ((repeat refine S.seq ?_); refine S.region (L.go (T := tt) tt_ok rfl rfl ?sd39 ?_); (try (case sd39 => (repeat' (first | exact trivial | with_reducible refine zI ?_ ?_)))); try (refine L.nil ?_))
      ((repeat refine S.seq ?_); refine S.cond rfl (fun h => ?_) (fun h => ?_) <;> (try first | refine S.skip ?_ | refine S.exit ?_))
      · have h := of_dec h
        repeat refine S.seq ?_
        refine S.block ?_
        repeat refine S.seq ?_
        refine S.region (L.run (T := tt) 2 tt_ok rfl rfl (by (repeat' (first | exact trivial | with_reducible refine zI ?_ ?_ | rfl | omega))) ?_)
        refine L.alloc (T := tt) 3 tt_ok rfl rfl rfl rfl rfl fun b4 => ?_
        (refine L.store (T := tt) tt_ok rfl rfl rfl rfl rfl rfl ?sd51 ?_; (try (case sd51 => (repeat' (first | exact trivial | with_reducible refine zI ?_ ?_ | rfl | exact zN rfl)))))
        refine L.nil ?_
        repeat refine S.seq ?_
        refine S.draw [(0, [3]), (5, [3]), (7, [81]), (9, [3]), (14, [3]), (16, [82]), (18, [3])] mixed ?_
        (refine H.ts (T := tt) [0] tt_ok (by kernel_rfl) (by kernel_rfl) (by kernel_rfl) (by intro ch a a' w h; obtain ⟨_, _, _, _, _, h, _⟩ := h; cases h) rfl ?sd58 ?_; (try (case sd58 => (repeat' (first | exact trivial | with_reducible refine zI ?_ ?_ | rfl | exact zN rfl)))))
        refine H.callP 1 rfl (by kernel_rfl) (by kernel_rfl) rfl rfl rfl rfl rfl rfl rfl ⟨trivial, by (repeat' (first | exact trivial | with_reducible refine zI ?_ ?_))⟩ rfl (by exact Imps.refl _) (mayMsg_p (s.ready.getD k default)) ?_
        (refine H.ts (T := tt) [2, 3, 4, 5, 8, 9] tt_ok (by kernel_rfl) (by kernel_rfl) (by kernel_rfl) (by intro ch a a' w h; obtain ⟨_, _, _, _, _, h, _⟩ := h; cases h) rfl ?sd59 ?_; (try (case sd59 => (repeat' (first | exact trivial | exact zA | with_reducible refine zI ?_ ?_ | rfl | exact zN rfl | (simp; done) | intro _)))))
        refine H.callG 6 rfl (by kernel_rfl) (by kernel_rfl) rfl rfl rfl rfl rfl rfl rfl (fun hb => ⟨trivial, hb, trivial⟩) rfl (by exact Imps.refl _) (fun _ => of_p (s.ready.getD k default)) ?_
        refine H.sG (A := .v (.int .i64 (lastSeq s.marks (s.ready.getD k default).pub (s.ready.getD k default).key))) 7 rfl (by kernel_rfl) (by kernel_rfl) (by kernel_rfl) (by kernel_rfl) (by kernel_rfl) (by intro ch a a' w h; obtain ⟨_, _, _, _, _, h, _⟩ := h; cases h) rfl rfl rfl (fun hb => look_sure (T := tt) tt_ok kName rfl rfl (by kernel_rfl) rfl rfl rfl ⟨hb, hb⟩ rfl (fun _ _ => rfl) rfl ?kk4 (look_marks _ _ _)) ?_
        · have hf := may_fit (show mayMsg (s.ready.getD k default) = true by simpa using hb)
          exact kName_ok hf.1 hf.2.1
        (refine H.ts (T := tt) [10, 11, 12, 13, 14, 17, 18] tt_ok (by kernel_rfl) (by kernel_rfl) (by kernel_rfl) (by intro ch a a' w h; obtain ⟨_, _, _, _, _, h, _⟩ := h; cases h) rfl ?sd60 ?_; (try (case sd60 => (repeat' (first | exact trivial | exact zA | with_reducible refine zI ?_ ?_ | exact zB | exact zD | rfl | exact zN rfl | (simp; done) | intro _)))))
        refine H.callG 15 rfl (by kernel_rfl) (by kernel_rfl) rfl rfl rfl rfl rfl rfl rfl (fun hb => ⟨trivial, hb, trivial⟩) rfl (by exact Imps.refl _) (fun _ => of_p (s.ready.getD k default)) ?_
        refine H.sG (A := .v (.int .i64 (lastSeq (heldMarks s.held ++ (s.ready.take k).map Msg.mark) (s.ready.getD k default).pub (s.ready.getD k default).key))) 16 rfl (by kernel_rfl) (by kernel_rfl) (by kernel_rfl) (by kernel_rfl) (by kernel_rfl) (by intro ch a a' w h; obtain ⟨_, _, _, _, _, h, _⟩ := h; cases h) rfl rfl rfl (fun hb => look_sure (T := tt) tt_ok kName rfl rfl (by kernel_rfl) rfl rfl rfl ⟨hb, hb⟩ rfl (fun _ _ => rfl) rfl ?kk5 (look_marks _ _ _)) ?_
        · have hm : mayMsg (s.ready.getD k default) = true := by
            simp only [Bool.or_eq_false_iff, Bool.not_eq_false'] at hb
            exact hb.1
          have hf := may_fit hm
          exact kName_ok hf.1 hf.2.1
        (refine H.ts (T := tt) [19, 20] tt_ok (by kernel_rfl) (by kernel_rfl) (by kernel_rfl) (by intro ch a a' w h; obtain ⟨_, _, _, _, _, h, _⟩ := h; cases h) rfl ?sd61 ?_; (try (case sd61 => (repeat' (first | exact trivial | with_reducible refine zI ?_ ?_ | exact zB | exact zD)))))
        refine H.done (by kernel_rfl) ?_
        ((repeat refine S.seq ?_); refine S.cond rfl (fun hb => ?_) (fun hb => ?_) <;> (try first | refine S.skip ?_ | refine S.exit ?_))
        · have he : (!readyE s k) = true := by unfold readyE; rw [Bool.not_not]; exact hb
          ((repeat refine S.seq ?_); refine S.region (L.go (T := tt) tt_ok rfl rfl ?sd40 ?_); (try (case sd40 => (repeat' (first | exact trivial | with_reducible refine zI ?_ ?_)))); try (refine L.nil ?_))
          ((repeat refine S.seq ?_); refine S.ret ?_)
          refine E.retP (T := tt) tt_ok rfl rfl (by (repeat' (first | exact trivial | with_reducible refine zI ?_ ?_))) (Imp.of_eq ?_)
          have : readyTo s s.ready.length = false := by
            cases hq : readyTo s s.ready.length with
            | false => rfl
            | true => rw [readyTo_all hq (by omega)] at he; cases he
          simp [oneOf, mayShard, this]
        · have he : (!readyE s k) = false := by unfold readyE; rw [Bool.not_not]; exact hb
          have hf := may_fit (readyE_may (by simpa using he))
          repeat refine S.seq ?_
          refine S.draw [(1, [3]), (4, [3])] mixed ?_
          (refine H.ts (T := tt) [0, 1, 3, 4] tt_ok (by kernel_rfl) (by kernel_rfl) (by kernel_rfl) (by intro ch a a' w h; obtain ⟨_, _, _, _, _, h, _⟩ := h; cases h) rfl ?sd62 ?_; (try (case sd62 => (repeat' (first | exact trivial | with_reducible refine zI ?_ ?_ | rfl | exact zN rfl)))))
          refine H.callP 2 rfl (by kernel_rfl) (by kernel_rfl) rfl rfl rfl rfl rfl rfl rfl ⟨trivial, by (repeat' (first | exact trivial | with_reducible refine zI ?_ ?_))⟩ rfl (by exact Imps.refl _) (of_p (s.ready.getD k default)) ?_
          refine H.o1 5 rfl (by kernel_rfl) (by kernel_rfl) (O.mapSet (T := tt) tt_ok kName rfl rfl rfl rfl rfl rfl rfl rfl (by (repeat' (first | exact trivial | with_reducible refine zI ?_ ?_))) rfl rfl (kName_ok hf.1 hf.2.1)) (.inl (by kernel_rfl)) (by kernel_rfl) fun _ => ?_
          refine H.done (by kernel_rfl) ?_
          ((repeat refine S.seq ?_); refine S.region (L.go (T := tt) tt_ok rfl rfl ?sd41 ?_); (try (case sd41 => (repeat' (first | exact trivial | with_reducible refine zI ?_ ?_ | (unfold fits; omega))))); try (refine L.nil ?_))
          intro a w hR
          refine ⟨⟨k + 1, by omega, by rw [readyTo_succ, hnr]; simpa using he⟩, by simp only; omega, ?_⟩
          dsimp only
          rw [readyMarks_succ (by omega)]
          exact hR.weak (by (repeat' (first | exact True.intro | exact Imp.refl _ | refine ⟨?_, ?_⟩))) (by (repeat (first | exact List.nil_sublist _ | refine List.Sublist.cons_cons _ ?_ | refine List.Sublist.cons _ ?_)))
      · have h := of_dec' h
        have hkn : k = s.ready.length := by omega
        subst hkn
        ((repeat refine S.seq ?_); refine S.region (L.go (T := tt) tt_ok rfl rfl ?sd42 ?_); (try (case sd42 => (repeat' (first | exact trivial | with_reducible refine zI ?_ ?_)))); try (refine L.nil ?_))
        ((repeat refine S.seq ?_); refine S.ret ?_)
        refine E.retP (T := tt) tt_ok rfl rfl (by (repeat' (first | exact trivial | with_reducible refine zI ?_ ?_))) (Imp.of_eq ?_)
        have h0' : decide ((s.marks.length : Int) ≤ 64) = true ∧ (decide (s.next < 1) || decide (s.next > 1073741824) || decide ((s.ready.length : Int) + s.held.length > 48)) = false := by
          cases hq : decide ((s.marks.length : Int) ≤ 64) <;> rw [hq] at h0 <;> simp at h0 ⊢ <;> omega
        simp only [oneOf, mayShard, hm, hno, hnr, h0'.1, h0'.2]
        rfl
  · (refine L.go (T := tt) tt_ok rfl rfl ?sd49 ?_; (try (case sd49 => (repeat' (first | exact trivial | with_reducible refine zI ?_ ?_)))); try (refine L.nil ?_))
    ((repeat refine S.seq ?_); refine S.region (L.go (T := tt) tt_ok rfl rfl ?sd43 ?_); (try (case sd43 => (repeat' (first | exact trivial | exact zA | with_reducible refine zI ?_ ?_ | exact zB | exact zC | exact zE | (simp; done))))); try (refine L.nil ?_))
    ((repeat refine S.seq ?_); refine S.cond rfl (fun h0 => ?_) (fun h0 => ?_) <;> (try first | refine S.skip ?_ | refine S.exit ?_))
    · ((repeat refine S.seq ?_); refine S.region (L.go (T := tt) tt_ok rfl rfl ?sd44 ?_); (try (case sd44 => (repeat' (first | exact trivial | with_reducible refine zI ?_ ?_)))); try (refine L.nil ?_))
      ((repeat refine S.seq ?_); refine S.ret ?_)
      refine E.retP (T := tt) tt_ok rfl rfl (by (repeat' (first | exact trivial | with_reducible refine zI ?_ ?_))) (Imp.of_eq ?_)
      simp [oneOf, mayShard, hm]
    · cases h0

end Go.Proofs.YtfdneepgpekmiaaDoor

/- Shards frozen and thawed. -/
namespace Go.Proofs.YtfdneepgpekmiaaDoor
set_option linter.unusedVariables false
set_option linter.unusedSimpArgs false
set_option maxHeartbeats 8000000
open Go.RowKit
set_option maxRecDepth 4000

/-- A shard whose lengths are small, and whose texts fit. -/
structure Shard.small (s : Shard) : Prop where
  ready : s.ready.length ≤ 1000
  held : s.held.length ≤ 1000
  keys : ∀ h ∈ s.held, fitS h.m.key

theorem may_marks {s : Shard} (h : mayShard s = true) : s.marks.length ≤ 64 := by
  simp only [mayShard, Bool.and_eq_true, decide_eq_true_eq] at h
  have := h.1.1.1.2
  omega

end Go.Proofs.YtfdneepgpekmiaaDoor

/- Same, and Put. -/
namespace Go.Proofs.YtfdneepgpekmiaaDoor
set_option linter.unusedVariables false
set_option linter.unusedSimpArgs false
set_option maxHeartbeats 8000000
open Go.RowKit
set_option maxRecDepth 4000

def same (a b : Shard) : Bool := a.frozen == b.frozen && a.next == b.next && decide (a.ready = b.ready) && decide (a.held = b.held) && decide (a.marks = b.marks)
theorem same_eq (a b : Shard) : same a b = decide (a = b) := by
  rw [Bool.eq_iff_iff]
  cases a; cases b
  simp [same, and_assoc]

theorem same_p (a b : Shard) : PFn Tryd.prog 37 [a.av, b.av] (.v (.bool (same a b))) := by
  refine FnC.intro Tryd.func37 rfl Tryd.ntmps37 rfl ?_; intro off w0
  repeat refine S.seq ?_
  refine S.region ?_
  refine L.box 1 rfl rfl rfl rfl rfl trivial rfl fun b1 => ?_
  refine L.box 2 rfl rfl rfl rfl rfl trivial rfl fun b2 => ?_
  (refine L.go (T := tt) tt_ok rfl rfl ?sd83 ?_; (try (case sd83 => (repeat' ((first | first | exact trivial | exact zA | with_reducible refine zI ?_ ?_ | exact zB | exact zC | exact zD | exact zE | rfl | exact zN rfl | omega | assumption | (simp; done) | (simp [splice]; done) | (simp; omega) | (unfold fits; omega) | (unfold fits; simp_all; omega) | (simp_all; omega) | (simp_all; done) | intro _ | exact zI ?_ ?_ | intro _))))); try (refine L.nil ?_))
  ((repeat refine S.seq ?_); refine S.region (L.go (T := tt) tt_ok rfl rfl ?sd63 ?_); (try (case sd63 => (repeat' ((first | first | exact trivial | exact zA | with_reducible refine zI ?_ ?_ | exact zB | exact zC | exact zD | exact zE | rfl | exact zN rfl | omega | assumption | (simp; done) | (simp [splice]; done) | (simp; omega) | (unfold fits; omega) | (unfold fits; simp_all; omega) | (simp_all; omega) | (simp_all; done) | intro _ | exact zI ?_ ?_ | intro _))))); try (refine L.nil ?_))
  refine L.callG rfl rfl rfl rfl rfl rfl rfl (fun hb => ⟨trivial, hb, hb, trivial⟩) rfl (by exact Imps.refl [msgs a.ready, msgs b.ready]) (fun _ => EqMsgs a.ready b.ready) ?_
  (refine L.go (T := tt) tt_ok rfl rfl ?sd84 ?_; (try (case sd84 => (repeat' ((first | first | exact trivial | exact zA | with_reducible refine zI ?_ ?_ | exact zB | exact zC | exact zD | exact zE | rfl | exact zN rfl | omega | assumption | (simp; done) | (simp [splice]; done) | (simp; omega) | (unfold fits; omega) | (unfold fits; simp_all; omega) | (simp_all; omega) | (simp_all; done) | intro _ | exact zI ?_ ?_ | intro _))))); try (refine L.nil ?_))
  refine L.callG rfl rfl rfl rfl rfl rfl rfl (fun hb => ⟨trivial, hb, hb, trivial⟩) rfl (by exact Imps.refl [helds a.held, helds b.held]) (fun _ => EqHelds a.held b.held) ?_
  (refine L.go (T := tt) tt_ok rfl rfl ?sd85 ?_; (try (case sd85 => (repeat' ((first | first | exact trivial | exact zA | with_reducible refine zI ?_ ?_ | exact zB | exact zC | exact zD | exact zE | rfl | exact zN rfl | omega | assumption | (simp; done) | (simp [splice]; done) | (simp; omega) | (unfold fits; omega) | (unfold fits; simp_all; omega) | (simp_all; omega) | (simp_all; done) | intro _ | exact zI ?_ ?_ | intro _))))); try (refine L.nil ?_))
  refine L.callG rfl rfl rfl rfl rfl rfl rfl (fun hb => ⟨trivial, hb, hb, trivial⟩) rfl (by exact Imps.refl [marksA a.marks, marksA b.marks]) (fun _ => EqMarks a.marks b.marks) ?_
  (refine L.go (T := tt) tt_ok rfl rfl ?sd86 ?_; (try (case sd86 => (repeat' ((first | first | exact trivial | exact zA | with_reducible refine zI ?_ ?_ | exact zB | exact zC | exact zD | exact zE | rfl | exact zN rfl | omega | assumption | (simp; done) | (simp [splice]; done) | (simp; omega) | (unfold fits; omega) | (unfold fits; simp_all; omega) | (simp_all; omega) | (simp_all; done) | intro _ | exact zI ?_ ?_ | intro _))))); try (refine L.nil ?_))
  ((repeat refine S.seq ?_); refine S.ret ?_)
  exact E.retP (T := tt) tt_ok rfl rfl (by (repeat' ((first | first | exact trivial | exact zA | with_reducible refine zI ?_ ?_ | exact zB | exact zC | exact zD | exact zE | rfl | exact zN rfl | omega | assumption | (simp; done) | (simp [splice]; done) | (simp; omega) | (unfold fits; omega) | (unfold fits; simp_all; omega) | (simp_all; omega) | (simp_all; done) | intro _ | exact zI ?_ ?_ | intro _)))) (Imp.refl _)

/-- 12.2: what Put answers. -/
def putE (s : Shard) (l : List Msg) : Int :=
  let first := l.getD 0 default
  let last := l.getD ((l.length : Int) - 1).toNat default
  let n := lastOf s.marks first.pub first.key
  if !mayShard s || !mayRow l then 1 else if decide (n ≥ last.seq) then 8 else if decide (n ≥ first.seq) then 1 else if s.frozen then 6
  else if decide ((s.ready.length : Int) + s.held.length + l.length > 48) || (decide (markAt s.marks first.pub first.key < 0) && (s.marks.length : Int) == 64) then 4 else 0
def putS (s : Shard) (l : List Msg) : Shard :=
  let first := l.getD 0 default
  let last := l.getD ((l.length : Int) - 1).toNat default
  { s with ready := s.ready ++ l, marks := if markAt s.marks first.pub first.key ≥ 0 then s.marks.modify (markAt s.marks first.pub first.key).toNat (fun m => { m with seq := last.seq }) else s.marks ++ [⟨last.pub, last.key, last.seq⟩] }

theorem imp_app {α : Type} [Inhabited α] (f : α → List AV) (l m : List α) (sz : Nat) : Imp (.lst sz (l.length + m.length) (joinG l.length (gOf f l) (gOf f m))) (.lst sz (l ++ m).length (gOf f (l ++ m))) :=
  Imp.lst (by simp) fun i _ => by
    unfold joinG gOf
    rw [List.getD_eq_getElem?_getD, List.getD_eq_getElem?_getD, List.getD_eq_getElem?_getD, List.getElem?_append]
    split <;> rfl
theorem imp_app1 {α : Type} [Inhabited α] (f : α → List AV) (l : List α) (m : α) (sz : Nat) {g : Nat → List AV} (hg : g 0 = f m) : Imp (.lst sz (l.length + 1) (joinG l.length (gOf f l) g)) (.lst sz (l ++ [m]).length (gOf f (l ++ [m]))) :=
  Imp.lst (by simp) fun i hi => by
    unfold joinG gOf
    rw [List.getD_eq_getElem?_getD, List.getD_eq_getElem?_getD, List.getElem?_append]
    split
    · rfl
    · have : i - l.length = 0 := by omega
      rw [this, hg]; rfl
theorem imp_mod (l : List Mark) (k : Nat) (q : Int) (hk : k < l.length) : Imp (.lst 3 l.length (fun i => if i = k then splice (gOf Mark.cells l k) 2 [.v (.int .i64 q)] else gOf Mark.cells l i)) (.lst 3 (l.modify k (fun m => { m with seq := q })).length (gOf Mark.cells (l.modify k (fun m => { m with seq := q })))) :=
  Imp.lst (by simp) fun i hi => by
    unfold gOf
    simp only [List.getD_eq_getElem?_getD, List.getElem?_modify]
    by_cases h : i = k
    · subst h
      rw [if_pos rfl, List.getElem?_eq_getElem hk]
      simp
      rfl
    · rw [if_neg h]
      have h' : ¬ k = i := fun e => h e.symm
      cases l[i]? <;> simp [h']

theorem put_p (s : Shard) (l : List Msg) (hs : s.small) : PFn Tryd.prog 36 [s.av, msgs l] (.tup [(if putE s l = 0 then putS s l else s).av, .v (.int .i64 (putE s l))]) := by
  have ⟨h1, h2, hk⟩ := hs
  refine FnC.intro Tryd.func36 rfl Tryd.ntmps36 rfl ?_; intro off w0
  repeat refine S.seq ?_
  refine S.region ?_
  refine L.box 1 rfl rfl rfl rfl rfl trivial rfl fun b => ?_
  refine L.alloc (T := tt) 2 tt_ok rfl rfl rfl rfl rfl fun b2 => ?_
  (refine L.go (T := tt) tt_ok rfl rfl ?sd87 ?_; (try (case sd87 => (repeat' ((first | first | exact trivial | exact zA | with_reducible refine zI ?_ ?_ | exact zB | exact zC | exact zD | exact zE | rfl | exact zN rfl | omega | assumption | (simp; done) | (simp [splice]; done) | (simp; omega) | (unfold fits; omega) | (unfold fits; simp_all; omega) | (simp_all; omega) | (simp_all; done) | intro _ | exact zI ?_ ?_ | intro _))))); try (refine L.nil ?_))
  ((repeat refine S.seq ?_); refine S.region (L.go (T := tt) tt_ok rfl rfl ?sd64 ?_); (try (case sd64 => (repeat' ((first | first | exact trivial | exact zA | with_reducible refine zI ?_ ?_ | exact zB | exact zC | exact zD | exact zE | rfl | exact zN rfl | omega | assumption | (simp; done) | (simp [splice]; done) | (simp; omega) | (unfold fits; omega) | (unfold fits; simp_all; omega) | (simp_all; omega) | (simp_all; done) | intro _ | exact zI ?_ ?_ | intro _))))); try (refine L.nil ?_))
  refine L.callP rfl rfl rfl rfl rfl rfl rfl ⟨trivial, by (repeat' ((first | first | exact trivial | exact zA | with_reducible refine zI ?_ ?_ | exact zB | exact zC | exact zD | exact zE | rfl | exact zN rfl | omega | assumption | (simp; done) | (simp [splice]; done) | (simp; omega) | (unfold fits; omega) | (unfold fits; simp_all; omega) | (simp_all; omega) | (simp_all; done) | intro _ | exact zI ?_ ?_ | intro _)))⟩ rfl (by exact Imps.refl [s.av]) (may_p s h1 h2 hk) ?_
  (refine L.go (T := tt) tt_ok rfl rfl ?sd88 ?_; (try (case sd88 => (repeat' ((first | first | exact trivial | exact zA | with_reducible refine zI ?_ ?_ | exact zB | exact zC | exact zD | exact zE | rfl | exact zN rfl | omega | assumption | (simp; done) | (simp [splice]; done) | (simp; omega) | (unfold fits; omega) | (unfold fits; simp_all; omega) | (simp_all; omega) | (simp_all; done) | intro _ | exact zI ?_ ?_ | intro _))))); try (refine L.nil ?_))
  refine L.callG rfl rfl rfl rfl rfl rfl rfl (fun hb => ⟨trivial, hb, trivial⟩) rfl (by exact Imps.refl [msgs l]) (fun _ => row_p l) ?_
  (refine L.go (T := tt) tt_ok rfl rfl ?sd89 ?_; (try (case sd89 => (repeat' ((first | first | exact trivial | exact zA | with_reducible refine zI ?_ ?_ | exact zB | exact zC | exact zD | exact zE | rfl | exact zN rfl | omega | assumption | (simp; done) | (simp [splice]; done) | (simp; omega) | (unfold fits; omega) | (unfold fits; simp_all; omega) | (simp_all; omega) | (simp_all; done) | intro _ | exact zI ?_ ?_ | intro _))))); try (refine L.nil ?_))
  ((repeat refine S.seq ?_); refine S.cond rfl (fun h0 => ?_) (fun h0 => ?_) <;> (try first | refine S.skip ?_ | refine S.exit ?_))
  · ((repeat refine S.seq ?_); refine S.region (L.go (T := tt) tt_ok rfl rfl ?sd65 ?_); (try (case sd65 => (repeat' ((first | first | exact trivial | exact zA | with_reducible refine zI ?_ ?_ | exact zB | exact zC | exact zD | exact zE | rfl | exact zN rfl | omega | assumption | (simp; done) | (simp [splice]; done) | (simp; omega) | (unfold fits; omega) | (unfold fits; simp_all; omega) | (simp_all; omega) | (simp_all; done) | intro _ | exact zI ?_ ?_ | intro _))))); try (refine L.nil ?_))
    (refine L.store (T := tt) tt_ok rfl rfl rfl rfl rfl rfl ?sd101 ?_; (try (case sd101 => (repeat' ((first | first | exact trivial | exact zA | with_reducible refine zI ?_ ?_ | exact zB | exact zC | exact zD | exact zE | rfl | exact zN rfl | omega | assumption | (simp; done) | (simp [splice]; done) | (simp; omega) | (unfold fits; omega) | (unfold fits; simp_all; omega) | (simp_all; omega) | (simp_all; done) | intro _ | exact zI ?_ ?_ | intro _))))))
    (refine L.go (T := tt) tt_ok rfl rfl ?sd90 ?_; (try (case sd90 => (repeat' ((first | first | exact trivial | exact zA | with_reducible refine zI ?_ ?_ | exact zB | exact zC | exact zD | exact zE | rfl | exact zN rfl | omega | assumption | (simp; done) | (simp [splice]; done) | (simp; omega) | (unfold fits; omega) | (unfold fits; simp_all; omega) | (simp_all; omega) | (simp_all; done) | intro _ | exact zI ?_ ?_ | intro _))))); try (refine L.nil ?_))
    ((repeat refine S.seq ?_); refine S.ret ?_)
    have : putE s l = 1 := by rw [putE]; exact if_pos h0
    refine E.retP (T := tt) tt_ok rfl rfl (by (repeat' ((first | first | exact trivial | exact zA | with_reducible refine zI ?_ ?_ | exact zB | exact zC | exact zD | exact zE | rfl | exact zN rfl | omega | assumption | (simp; done) | (simp [splice]; done) | (simp; omega) | (unfold fits; omega) | (unfold fits; simp_all; omega) | (simp_all; omega) | (simp_all; done) | intro _ | exact zI ?_ ?_ | intro _)))) (Imp.of_eq ?_)
    rw [this]
    rfl
  have hm : mayShard s = true := by simp only [Bool.or_eq_false_iff, Bool.not_eq_false'] at h0; exact h0.1
  have hr : mayRow l = true := by simp only [Bool.or_eq_false_iff, Bool.not_eq_false'] at h0; exact h0.2
  have hlen : 1 ≤ l.length ∧ l.length ≤ 8 := by
    simp only [mayRow, Bool.and_eq_true, Bool.not_eq_true', Bool.or_eq_false_iff, decide_eq_false_iff_not] at hr
    omega
  repeat refine S.seq ?_
  refine S.cut (ι := Nat × Nat) (fun i => [(7, .ptr 4 i.2 0), (6, .ptr 3 i.1 0), (4, .ptr 2 b2 0), (2, .ptr 1 b 0), (1, msgs l)])
    (fun i => [(4, .blk i.2 42 (l.getD ((l.length : Int) - 1).toNat default).cells), (3, .blk i.1 42 (l.getD 0 default).cells), (2, .blk b2 71 [.v (.bool false), .v (.int .i64 0), .v (.slice none 0 0), .v (.slice none 0 0), .v (.slice none 0 0)]), (1, .blk b 71 s.cells)]) ?_ ?_
  · refine S.draw [] mixed ?_
    (refine H.ts (T := tt) [0, 1, 2, 3, 4, 5, 6, 7, 8] tt_ok (by kernel_rfl) (by kernel_rfl) (by kernel_rfl) (by intro ch a a' w h; obtain ⟨_, _, _, _, _, h, _⟩ := h; cases h) rfl ?sd112 ?_; (try (case sd112 => (repeat' ((first | first | exact trivial | exact zA | with_reducible refine zI ?_ ?_ | exact zB | exact zC | exact zD | exact zE | rfl | exact zN rfl | omega | assumption | (simp; done) | (simp [splice]; done) | (simp; omega) | (unfold fits; omega) | (unfold fits; simp_all; omega) | (simp_all; omega) | (simp_all; done) | intro _ | exact zI ?_ ?_ | intro _))))))
    refine H.o2 9 10 rfl rfl (by kernel_rfl) (by kernel_rfl) (O.alloc (T := tt) 3 tt_ok rfl rfl rfl rfl rfl) (O.alloc (T := tt) 4 tt_ok rfl rfl rfl rfl rfl) (.inr rfl) (.inr rfl) rfl rfl (fun b3 => ?_) (fun b4 => ?_)
    · refine H.o1 10 rfl (by kernel_rfl) (by kernel_rfl) (O.alloc (T := tt) 4 tt_ok rfl rfl rfl rfl rfl) (.inr rfl) rfl fun b4 => ?_
      (refine H.store (T := tt) 11 rfl (by kernel_rfl) (by kernel_rfl) tt_ok rfl rfl rfl rfl rfl rfl ?sd113 rfl (by kernel_rfl) ?_; (try (case sd113 => (repeat' ((first | first | exact trivial | exact zA | with_reducible refine zI ?_ ?_ | exact zB | exact zC | exact zD | exact zE | rfl | exact zN rfl | omega | assumption | (simp; done) | (simp [splice]; done) | (simp; omega) | (unfold fits; omega) | (unfold fits; simp_all; omega) | (simp_all; omega) | (simp_all; done) | intro _ | exact zI ?_ ?_ | intro _))))))
      (refine H.store (T := tt) 12 rfl (by kernel_rfl) (by kernel_rfl) tt_ok rfl rfl rfl rfl rfl rfl ?sd114 rfl (by kernel_rfl) ?_; (try (case sd114 => (repeat' ((first | first | exact trivial | exact zA | with_reducible refine zI ?_ ?_ | exact zB | exact zC | exact zD | exact zE | rfl | exact zN rfl | omega | assumption | (simp; done) | (simp [splice]; done) | (simp; omega) | (unfold fits; omega) | (unfold fits; simp_all; omega) | (simp_all; omega) | (simp_all; done) | intro _ | exact zI ?_ ?_ | intro _))))))
      refine H.done (by kernel_rfl) ?_
      exact fun a w hR => ⟨(b3, b4), hR.weak (by (repeat' (first | exact True.intro | exact Imp.refl _ | refine ⟨?_, ?_⟩))) (by (repeat (first | exact List.nil_sublist _ | refine List.Sublist.cons_cons _ ?_ | refine List.Sublist.cons _ ?_)))⟩
    · refine H.o1 9 rfl (by kernel_rfl) (by kernel_rfl) (O.alloc (T := tt) 3 tt_ok rfl rfl rfl rfl rfl) (.inr rfl) rfl fun b3 => ?_
      (refine H.store (T := tt) 11 rfl (by kernel_rfl) (by kernel_rfl) tt_ok rfl rfl rfl rfl rfl rfl ?sd115 rfl (by kernel_rfl) ?_; (try (case sd115 => (repeat' ((first | first | exact trivial | exact zA | with_reducible refine zI ?_ ?_ | exact zB | exact zC | exact zD | exact zE | rfl | exact zN rfl | omega | assumption | (simp; done) | (simp [splice]; done) | (simp; omega) | (unfold fits; omega) | (unfold fits; simp_all; omega) | (simp_all; omega) | (simp_all; done) | intro _ | exact zI ?_ ?_ | intro _))))))
      (refine H.store (T := tt) 12 rfl (by kernel_rfl) (by kernel_rfl) tt_ok rfl rfl rfl rfl rfl rfl ?sd116 rfl (by kernel_rfl) ?_; (try (case sd116 => (repeat' ((first | first | exact trivial | exact zA | with_reducible refine zI ?_ ?_ | exact zB | exact zC | exact zD | exact zE | rfl | exact zN rfl | omega | assumption | (simp; done) | (simp [splice]; done) | (simp; omega) | (unfold fits; omega) | (unfold fits; simp_all; omega) | (simp_all; omega) | (simp_all; done) | intro _ | exact zI ?_ ?_ | intro _))))))
      refine H.done (by kernel_rfl) ?_
      exact fun a w hR => ⟨(b3, b4), (hR.perm (List.Perm.swap _ _ _)).weak (by (repeat' (first | exact True.intro | exact Imp.refl _ | refine ⟨?_, ?_⟩))) (by (repeat (first | exact List.nil_sublist _ | refine List.Sublist.cons_cons _ ?_ | refine List.Sublist.cons _ ?_)))⟩
  rintro ⟨b3, b4⟩
  dsimp only
  ((repeat refine S.seq ?_); refine S.region (L.go (T := tt) tt_ok rfl rfl ?sd66 ?_); (try (case sd66 => (repeat' ((first | first | exact trivial | exact zA | with_reducible refine zI ?_ ?_ | exact zB | exact zC | exact zD | exact zE | rfl | exact zN rfl | omega | assumption | (simp; done) | (simp [splice]; done) | (simp; omega) | (unfold fits; omega) | (unfold fits; simp_all; omega) | (simp_all; omega) | (simp_all; done) | intro _ | exact zI ?_ ?_ | intro _))))); try (refine L.nil ?_))
  refine L.callP rfl rfl rfl rfl rfl rfl rfl ⟨trivial, by (repeat' ((first | first | exact trivial | exact zA | with_reducible refine zI ?_ ?_ | exact zB | exact zC | exact zD | exact zE | rfl | exact zN rfl | omega | assumption | (simp; done) | (simp [splice]; done) | (simp; omega) | (unfold fits; omega) | (unfold fits; simp_all; omega) | (simp_all; omega) | (simp_all; done) | intro _ | exact zI ?_ ?_ | intro _)))⟩ rfl (by exact Imps.refl _) (mark_p s (l.getD 0 default).pub (l.getD 0 default).key) ?_
  (refine L.go (T := tt) tt_ok rfl rfl ?sd91 ?_; (try (case sd91 => (repeat' ((first | first | exact trivial | exact zA | with_reducible refine zI ?_ ?_ | exact zB | exact zC | exact zD | exact zE | rfl | exact zN rfl | omega | assumption | (simp; done) | (simp [splice]; done) | (simp; omega) | (unfold fits; omega) | (unfold fits; simp_all; omega) | (simp_all; omega) | (simp_all; done) | intro _ | exact zI ?_ ?_ | intro _))))); try (refine L.nil ?_))
  ((repeat refine S.seq ?_); refine S.region (L.go (T := tt) tt_ok rfl rfl ?sd67 ?_); (try (case sd67 => (repeat' ((first | first | exact trivial | exact zA | with_reducible refine zI ?_ ?_ | exact zB | exact zC | exact zD | exact zE | rfl | exact zN rfl | omega | assumption | (simp; done) | (simp [splice]; done) | (simp; omega) | (unfold fits; omega) | (unfold fits; simp_all; omega) | (simp_all; omega) | (simp_all; done) | intro _ | exact zI ?_ ?_ | intro _))))); try (refine L.nil ?_))
  refine L.callP rfl rfl rfl rfl rfl rfl rfl ⟨trivial, by (repeat' ((first | first | exact trivial | exact zA | with_reducible refine zI ?_ ?_ | exact zB | exact zC | exact zD | exact zE | rfl | exact zN rfl | omega | assumption | (simp; done) | (simp [splice]; done) | (simp; omega) | (unfold fits; omega) | (unfold fits; simp_all; omega) | (simp_all; omega) | (simp_all; done) | intro _ | exact zI ?_ ?_ | intro _)))⟩ rfl (by exact Imps.refl _) (last_p s (l.getD 0 default).pub (l.getD 0 default).key) ?_
  (refine L.go (T := tt) tt_ok rfl rfl ?sd92 ?_; (try (case sd92 => (repeat' ((first | first | exact trivial | exact zA | with_reducible refine zI ?_ ?_ | exact zB | exact zC | exact zD | exact zE | rfl | exact zN rfl | omega | assumption | (simp; done) | (simp [splice]; done) | (simp; omega) | (unfold fits; omega) | (unfold fits; simp_all; omega) | (simp_all; omega) | (simp_all; done) | intro _ | exact zI ?_ ?_ | intro _))))); try (refine L.nil ?_))
  repeat refine S.seq ?_
  refine S.block ?_
  ((repeat refine S.seq ?_); refine S.region (L.go (T := tt) tt_ok rfl rfl ?sd68 ?_); (try (case sd68 => (repeat' ((first | first | exact trivial | exact zA | with_reducible refine zI ?_ ?_ | exact zB | exact zC | exact zD | exact zE | rfl | exact zN rfl | omega | assumption | (simp; done) | (simp [splice]; done) | (simp; omega) | (unfold fits; omega) | (unfold fits; simp_all; omega) | (simp_all; omega) | (simp_all; done) | intro _ | exact zI ?_ ?_ | intro _))))); try (refine L.nil ?_))
  ((repeat refine S.seq ?_); refine S.cond rfl (fun h3 => ?_) (fun h3 => ?_) <;> (try first | refine S.skip ?_ | refine S.exit ?_))
  · ((repeat refine S.seq ?_); refine S.region (L.go (T := tt) tt_ok rfl rfl ?sd69 ?_); (try (case sd69 => (repeat' ((first | first | exact trivial | exact zA | with_reducible refine zI ?_ ?_ | exact zB | exact zC | exact zD | exact zE | rfl | exact zN rfl | omega | assumption | (simp; done) | (simp [splice]; done) | (simp; omega) | (unfold fits; omega) | (unfold fits; simp_all; omega) | (simp_all; omega) | (simp_all; done) | intro _ | exact zI ?_ ?_ | intro _))))); try (refine L.nil ?_))
    (refine L.store (T := tt) tt_ok rfl rfl rfl rfl rfl rfl ?sd102 ?_; (try (case sd102 => (repeat' ((first | first | exact trivial | exact zA | with_reducible refine zI ?_ ?_ | exact zB | exact zC | exact zD | exact zE | rfl | exact zN rfl | omega | assumption | (simp; done) | (simp [splice]; done) | (simp; omega) | (unfold fits; omega) | (unfold fits; simp_all; omega) | (simp_all; omega) | (simp_all; done) | intro _ | exact zI ?_ ?_ | intro _))))))
    (refine L.go (T := tt) tt_ok rfl rfl ?sd93 ?_; (try (case sd93 => (repeat' ((first | first | exact trivial | exact zA | with_reducible refine zI ?_ ?_ | exact zB | exact zC | exact zD | exact zE | rfl | exact zN rfl | omega | assumption | (simp; done) | (simp [splice]; done) | (simp; omega) | (unfold fits; omega) | (unfold fits; simp_all; omega) | (simp_all; omega) | (simp_all; done) | intro _ | exact zI ?_ ?_ | intro _))))); try (refine L.nil ?_))
    ((repeat refine S.seq ?_); refine S.ret ?_)
    have : putE s l = 8 := by
      rw [putE]
      exact (if_neg (by simp [hm, hr])).trans (if_pos h3)
    refine E.retP (T := tt) tt_ok rfl rfl (by (repeat' ((first | first | exact trivial | exact zA | with_reducible refine zI ?_ ?_ | exact zB | exact zC | exact zD | exact zE | rfl | exact zN rfl | omega | assumption | (simp; done) | (simp [splice]; done) | (simp; omega) | (unfold fits; omega) | (unfold fits; simp_all; omega) | (simp_all; omega) | (simp_all; done) | intro _ | exact zI ?_ ?_ | intro _)))) (Imp.of_eq ?_)
    rw [this]
    rfl
  ((repeat refine S.seq ?_); refine S.region (L.go (T := tt) tt_ok rfl rfl ?sd70 ?_); (try (case sd70 => (repeat' ((first | first | exact trivial | exact zA | with_reducible refine zI ?_ ?_ | exact zB | exact zC | exact zD | exact zE | rfl | exact zN rfl | omega | assumption | (simp; done) | (simp [splice]; done) | (simp; omega) | (unfold fits; omega) | (unfold fits; simp_all; omega) | (simp_all; omega) | (simp_all; done) | intro _ | exact zI ?_ ?_ | intro _))))); try (refine L.nil ?_))
  ((repeat refine S.seq ?_); refine S.cond rfl (fun h4 => ?_) (fun h4 => ?_) <;> (try first | refine S.skip ?_ | refine S.exit ?_))
  · ((repeat refine S.seq ?_); refine S.region (L.go (T := tt) tt_ok rfl rfl ?sd71 ?_); (try (case sd71 => (repeat' ((first | first | exact trivial | exact zA | with_reducible refine zI ?_ ?_ | exact zB | exact zC | exact zD | exact zE | rfl | exact zN rfl | omega | assumption | (simp; done) | (simp [splice]; done) | (simp; omega) | (unfold fits; omega) | (unfold fits; simp_all; omega) | (simp_all; omega) | (simp_all; done) | intro _ | exact zI ?_ ?_ | intro _))))); try (refine L.nil ?_))
    (refine L.store (T := tt) tt_ok rfl rfl rfl rfl rfl rfl ?sd103 ?_; (try (case sd103 => (repeat' ((first | first | exact trivial | exact zA | with_reducible refine zI ?_ ?_ | exact zB | exact zC | exact zD | exact zE | rfl | exact zN rfl | omega | assumption | (simp; done) | (simp [splice]; done) | (simp; omega) | (unfold fits; omega) | (unfold fits; simp_all; omega) | (simp_all; omega) | (simp_all; done) | intro _ | exact zI ?_ ?_ | intro _))))))
    (refine L.go (T := tt) tt_ok rfl rfl ?sd94 ?_; (try (case sd94 => (repeat' ((first | first | exact trivial | exact zA | with_reducible refine zI ?_ ?_ | exact zB | exact zC | exact zD | exact zE | rfl | exact zN rfl | omega | assumption | (simp; done) | (simp [splice]; done) | (simp; omega) | (unfold fits; omega) | (unfold fits; simp_all; omega) | (simp_all; omega) | (simp_all; done) | intro _ | exact zI ?_ ?_ | intro _))))); try (refine L.nil ?_))
    ((repeat refine S.seq ?_); refine S.ret ?_)
    have : putE s l = 1 := by
      rw [putE]
      exact (if_neg (by simp [hm, hr])).trans ((if_neg (by rw [h3]; simp)).trans (if_pos h4))
    refine E.retP (T := tt) tt_ok rfl rfl (by (repeat' ((first | first | exact trivial | exact zA | with_reducible refine zI ?_ ?_ | exact zB | exact zC | exact zD | exact zE | rfl | exact zN rfl | omega | assumption | (simp; done) | (simp [splice]; done) | (simp; omega) | (unfold fits; omega) | (unfold fits; simp_all; omega) | (simp_all; omega) | (simp_all; done) | intro _ | exact zI ?_ ?_ | intro _)))) (Imp.of_eq ?_)
    rw [this]
    rfl
  ((repeat refine S.seq ?_); refine S.region (L.go (T := tt) tt_ok rfl rfl ?sd72 ?_); (try (case sd72 => (repeat' ((first | first | exact trivial | exact zA | with_reducible refine zI ?_ ?_ | exact zB | exact zC | exact zD | exact zE | rfl | exact zN rfl | omega | assumption | (simp; done) | (simp [splice]; done) | (simp; omega) | (unfold fits; omega) | (unfold fits; simp_all; omega) | (simp_all; omega) | (simp_all; done) | intro _ | exact zI ?_ ?_ | intro _))))); try (refine L.nil ?_))
  ((repeat refine S.seq ?_); refine S.cond rfl (fun h5 => ?_) (fun h5 => ?_) <;> (try first | refine S.skip ?_ | refine S.exit ?_))
  · ((repeat refine S.seq ?_); refine S.region (L.go (T := tt) tt_ok rfl rfl ?sd73 ?_); (try (case sd73 => (repeat' ((first | first | exact trivial | exact zA | with_reducible refine zI ?_ ?_ | exact zB | exact zC | exact zD | exact zE | rfl | exact zN rfl | omega | assumption | (simp; done) | (simp [splice]; done) | (simp; omega) | (unfold fits; omega) | (unfold fits; simp_all; omega) | (simp_all; omega) | (simp_all; done) | intro _ | exact zI ?_ ?_ | intro _))))); try (refine L.nil ?_))
    (refine L.store (T := tt) tt_ok rfl rfl rfl rfl rfl rfl ?sd104 ?_; (try (case sd104 => (repeat' ((first | first | exact trivial | exact zA | with_reducible refine zI ?_ ?_ | exact zB | exact zC | exact zD | exact zE | rfl | exact zN rfl | omega | assumption | (simp; done) | (simp [splice]; done) | (simp; omega) | (unfold fits; omega) | (unfold fits; simp_all; omega) | (simp_all; omega) | (simp_all; done) | intro _ | exact zI ?_ ?_ | intro _))))))
    (refine L.go (T := tt) tt_ok rfl rfl ?sd95 ?_; (try (case sd95 => (repeat' ((first | first | exact trivial | exact zA | with_reducible refine zI ?_ ?_ | exact zB | exact zC | exact zD | exact zE | rfl | exact zN rfl | omega | assumption | (simp; done) | (simp [splice]; done) | (simp; omega) | (unfold fits; omega) | (unfold fits; simp_all; omega) | (simp_all; omega) | (simp_all; done) | intro _ | exact zI ?_ ?_ | intro _))))); try (refine L.nil ?_))
    ((repeat refine S.seq ?_); refine S.ret ?_)
    have : putE s l = 6 := by
      rw [putE]
      exact (if_neg (by simp [hm, hr])).trans ((if_neg (by rw [h3]; simp)).trans ((if_neg (by rw [h4]; simp)).trans (if_pos h5)))
    refine E.retP (T := tt) tt_ok rfl rfl (by (repeat' ((first | first | exact trivial | exact zA | with_reducible refine zI ?_ ?_ | exact zB | exact zC | exact zD | exact zE | rfl | exact zN rfl | omega | assumption | (simp; done) | (simp [splice]; done) | (simp; omega) | (unfold fits; omega) | (unfold fits; simp_all; omega) | (simp_all; omega) | (simp_all; done) | intro _ | exact zI ?_ ?_ | intro _)))) (Imp.of_eq ?_)
    rw [this]
    rfl
  ((repeat refine S.seq ?_); refine S.region (L.go (T := tt) tt_ok rfl rfl ?sd74 ?_); (try (case sd74 => (repeat' ((first | first | exact trivial | exact zA | with_reducible refine zI ?_ ?_ | exact zB | exact zC | exact zD | exact zE | rfl | exact zN rfl | omega | assumption | (simp; done) | (simp [splice]; done) | (simp; omega) | (unfold fits; omega) | (unfold fits; simp_all; omega) | (simp_all; omega) | (simp_all; done) | intro _ | exact zI ?_ ?_ | intro _))))); try (refine L.nil ?_))
  ((repeat refine S.seq ?_); refine S.cond rfl (fun h6 => ?_) (fun h6 => ?_) <;> (try first | refine S.skip ?_ | refine S.exit ?_))
  · ((repeat refine S.seq ?_); refine S.region (L.go (T := tt) tt_ok rfl rfl ?sd75 ?_); (try (case sd75 => (repeat' ((first | first | exact trivial | exact zA | with_reducible refine zI ?_ ?_ | exact zB | exact zC | exact zD | exact zE | rfl | exact zN rfl | omega | assumption | (simp; done) | (simp [splice]; done) | (simp; omega) | (unfold fits; omega) | (unfold fits; simp_all; omega) | (simp_all; omega) | (simp_all; done) | intro _ | exact zI ?_ ?_ | intro _))))); try (refine L.nil ?_))
    (refine L.store (T := tt) tt_ok rfl rfl rfl rfl rfl rfl ?sd105 ?_; (try (case sd105 => (repeat' ((first | first | exact trivial | exact zA | with_reducible refine zI ?_ ?_ | exact zB | exact zC | exact zD | exact zE | rfl | exact zN rfl | omega | assumption | (simp; done) | (simp [splice]; done) | (simp; omega) | (unfold fits; omega) | (unfold fits; simp_all; omega) | (simp_all; omega) | (simp_all; done) | intro _ | exact zI ?_ ?_ | intro _))))))
    (refine L.go (T := tt) tt_ok rfl rfl ?sd96 ?_; (try (case sd96 => (repeat' ((first | first | exact trivial | exact zA | with_reducible refine zI ?_ ?_ | exact zB | exact zC | exact zD | exact zE | rfl | exact zN rfl | omega | assumption | (simp; done) | (simp [splice]; done) | (simp; omega) | (unfold fits; omega) | (unfold fits; simp_all; omega) | (simp_all; omega) | (simp_all; done) | intro _ | exact zI ?_ ?_ | intro _))))); try (refine L.nil ?_))
    ((repeat refine S.seq ?_); refine S.ret ?_)
    have : putE s l = 4 := by
      rw [putE]
      exact (if_neg (by simp [hm, hr])).trans ((if_neg (by rw [h3]; simp)).trans ((if_neg (by rw [h4]; simp)).trans ((if_neg (by rw [h5]; simp)).trans (if_pos h6))))
    refine E.retP (T := tt) tt_ok rfl rfl (by (repeat' ((first | first | exact trivial | exact zA | with_reducible refine zI ?_ ?_ | exact zB | exact zC | exact zD | exact zE | rfl | exact zN rfl | omega | assumption | (simp; done) | (simp [splice]; done) | (simp; omega) | (unfold fits; omega) | (unfold fits; simp_all; omega) | (simp_all; omega) | (simp_all; done) | intro _ | exact zI ?_ ?_ | intro _)))) (Imp.of_eq ?_)
    rw [this]
    rfl
  have hE : putE s l = 0 := by
    rw [putE]
    exact (if_neg (by simp [hm, hr])).trans ((if_neg (by rw [h3]; simp)).trans ((if_neg (by rw [h4]; simp)).trans ((if_neg (by rw [h5]; simp)).trans (if_neg (by rw [h6]; simp)))))
  have hml := may_marks hm
  have hat := markAt_lt s.marks (l.getD 0 default).pub (l.getD 0 default).key
  ((repeat refine S.seq ?_); refine S.region (L.go (T := tt) tt_ok rfl rfl ?sd76 ?_); (try (case sd76 => (repeat' ((first | first | exact trivial | exact zA | with_reducible refine zI ?_ ?_ | exact zB | exact zC | exact zD | exact zE | rfl | exact zN rfl | omega | assumption | (simp; done) | (simp [splice]; done) | (simp; omega) | (unfold fits; omega) | (unfold fits; simp_all; omega) | (simp_all; omega) | (simp_all; done) | intro _ | exact zI ?_ ?_ | intro _))))); try (refine L.nil ?_))
  refine L.call (G := []) (H := [(4, _), (3, _), (2, _), (1, _)]) rfl rfl rfl rfl rfl rfl rfl ⟨trivial, by (repeat' ((first | first | exact trivial | exact zA | with_reducible refine zI ?_ ?_ | exact zB | exact zC | exact zD | exact zE | rfl | exact zN rfl | omega | assumption | (simp; done) | (simp [splice]; done) | (simp; omega) | (unfold fits; omega) | (unfold fits; simp_all; omega) | (simp_all; omega) | (simp_all; done) | intro _ | exact zI ?_ ?_ | intro _)))⟩ rfl (by exact Imps.refl [s.av]) (List.Perm.refl _) (own_p s h1 h2 (by omega)) ?_
  rintro r F' ⟨x, y, z, rfl, rfl⟩
  (refine L.store (T := tt) tt_ok rfl rfl rfl rfl rfl rfl ?sd106 ?_; (try (case sd106 => (repeat' ((first | first | exact trivial | exact zA | with_reducible refine zI ?_ ?_ | exact zB | exact zC | exact zD | exact zE | rfl | exact zN rfl | omega | assumption | (simp; done) | (simp [splice]; done) | (simp; omega) | (unfold fits; omega) | (unfold fits; simp_all; omega) | (simp_all; omega) | (simp_all; done) | intro _ | exact zI ?_ ?_ | intro _))))))
  refine L.nil ?_
  ((repeat refine S.seq ?_); refine S.region (L.go (T := tt) tt_ok rfl rfl ?sd77 ?_); (try (case sd77 => (repeat' ((first | first | exact trivial | exact zA | with_reducible refine zI ?_ ?_ | exact zB | exact zC | exact zD | exact zE | rfl | exact zN rfl | omega | assumption | (simp; done) | (simp [splice]; done) | (simp; omega) | (unfold fits; omega) | (unfold fits; simp_all; omega) | (simp_all; omega) | (simp_all; done) | intro _ | exact zI ?_ ?_ | intro _))))); try (refine L.nil ?_))
  refine L.append (T := tt) tt_ok rfl rfl rfl rfl rfl rfl rfl rfl rfl rfl (by (repeat' ((first | first | exact trivial | exact zA | with_reducible refine zI ?_ ?_ | exact zB | exact zC | exact zD | exact zE | rfl | exact zN rfl | omega | assumption | (simp; done) | (simp [splice]; done) | (simp; omega) | (unfold fits; omega) | (unfold fits; simp_all; omega) | (simp_all; omega) | (simp_all; done) | intro _ | exact zI ?_ ?_ | intro _)))) ⟨rfl, by decide, by decide⟩ (by simp; omega) fun x1 => ?_
  (refine L.go (T := tt) tt_ok rfl rfl ?sd97 ?_; (try (case sd97 => (repeat' ((first | first | exact trivial | exact zA | with_reducible refine zI ?_ ?_ | exact zB | exact zC | exact zD | exact zE | rfl | exact zN rfl | omega | assumption | (simp; done) | (simp [splice]; done) | (simp; omega) | (unfold fits; omega) | (unfold fits; simp_all; omega) | (simp_all; omega) | (simp_all; done) | intro _ | exact zI ?_ ?_ | intro _))))); try (refine L.nil ?_))
  (refine L.store (T := tt) tt_ok rfl rfl rfl rfl rfl rfl ?sd107 ?_; (try (case sd107 => (repeat' ((first | first | exact trivial | exact zA | with_reducible refine zI ?_ ?_ | exact zB | exact zC | exact zD | exact zE | rfl | exact zN rfl | omega | assumption | (simp; done) | (simp [splice]; done) | (simp; omega) | (unfold fits; omega) | (unfold fits; simp_all; omega) | (simp_all; omega) | (simp_all; done) | intro _ | exact zI ?_ ?_ | intro _))))))
  refine L.nil ?_
  ((repeat refine S.seq ?_); refine S.region (L.go (T := tt) tt_ok rfl rfl ?sd78 ?_); (try (case sd78 => (repeat' ((first | first | exact trivial | exact zA | with_reducible refine zI ?_ ?_ | exact zB | exact zC | exact zD | exact zE | rfl | exact zN rfl | omega | assumption | (simp; done) | (simp [splice]; done) | (simp; omega) | (unfold fits; omega) | (unfold fits; simp_all; omega) | (simp_all; omega) | (simp_all; done) | intro _ | exact zI ?_ ?_ | intro _))))); try (refine L.nil ?_))
  ((repeat refine S.seq ?_); refine S.cond rfl (fun h7 => ?_) (fun h7 => ?_) <;> (try first | refine S.skip ?_ | refine S.exit ?_))
  · have h7' := of_dec h7
    ((repeat refine S.seq ?_); refine S.region (L.go (T := tt) tt_ok rfl rfl ?sd79 ?_); (try (case sd79 => (repeat' ((first | first | exact trivial | exact zA | with_reducible refine zI ?_ ?_ | exact zB | exact zC | exact zD | exact zE | rfl | exact zN rfl | omega | assumption | (simp; done) | (simp [splice]; done) | (simp; omega) | (unfold fits; omega) | (unfold fits; simp_all; omega) | (simp_all; omega) | (simp_all; done) | intro _ | exact zI ?_ ?_ | intro _))))); try (refine L.nil ?_))
    (refine L.store (T := tt) tt_ok rfl rfl rfl rfl rfl rfl ?sd108 ?_; (try (case sd108 => (repeat' ((first | first | exact trivial | exact zA | with_reducible refine zI ?_ ?_ | exact zB | exact zC | exact zD | exact zE | rfl | exact zN rfl | omega | assumption | (simp; done) | (simp [splice]; done) | (simp; omega) | (unfold fits; omega) | (unfold fits; simp_all; omega) | (simp_all; omega) | (simp_all; done) | intro _ | exact zI ?_ ?_ | intro _))))))
    refine L.nil ?_
    ((repeat refine S.seq ?_); refine S.region (L.go (T := tt) tt_ok rfl rfl ?sd80 ?_); (try (case sd80 => (repeat' ((first | first | exact trivial | exact zA | with_reducible refine zI ?_ ?_ | exact zB | exact zC | exact zD | exact zE | rfl | exact zN rfl | omega | assumption | (simp; done) | (simp [splice]; done) | (simp; omega) | (unfold fits; omega) | (unfold fits; simp_all; omega) | (simp_all; omega) | (simp_all; done) | intro _ | exact zI ?_ ?_ | intro _))))); try (refine L.nil ?_))
    (refine L.store (T := tt) tt_ok rfl rfl rfl rfl rfl rfl ?sd109 ?_; (try (case sd109 => (repeat' ((first | first | exact trivial | exact zA | with_reducible refine zI ?_ ?_ | exact zB | exact zC | exact zD | exact zE | rfl | exact zN rfl | omega | assumption | (simp; done) | (simp [splice]; done) | (simp; omega) | (unfold fits; omega) | (unfold fits; simp_all; omega) | (simp_all; omega) | (simp_all; done) | intro _ | exact zI ?_ ?_ | intro _))))))
    (refine L.go (T := tt) tt_ok rfl rfl ?sd98 ?_; (try (case sd98 => (repeat' ((first | first | exact trivial | exact zA | with_reducible refine zI ?_ ?_ | exact zB | exact zC | exact zD | exact zE | rfl | exact zN rfl | omega | assumption | (simp; done) | (simp [splice]; done) | (simp; omega) | (unfold fits; omega) | (unfold fits; simp_all; omega) | (simp_all; omega) | (simp_all; done) | intro _ | exact zI ?_ ?_ | intro _))))); try (refine L.nil ?_))
    ((repeat refine S.seq ?_); refine S.ret ?_)
    refine freezeCell 2 2 91 rfl rfl rfl rfl (freezeCell 2 3 92 rfl rfl rfl rfl (freezeCell 2 4 93 rfl rfl rfl rfl ?_))
    refine E.retP (T := tt) tt_ok rfl rfl (by (repeat' ((first | first | exact trivial | exact zA | with_reducible refine zI ?_ ?_ | exact zB | exact zC | exact zD | exact zE | rfl | exact zN rfl | omega | assumption | (simp; done) | (simp [splice]; done) | (simp; omega) | (unfold fits; omega) | (unfold fits; simp_all; omega) | (simp_all; omega) | (simp_all; done) | intro _ | exact zI ?_ ?_ | intro _)))) ?_
    rw [hE, if_pos rfl, putS, if_pos h7']
    exact Imp.tup ⟨Imp.agg ⟨Imp.refl _, Imp.refl _, imp_app _ _ _ _, Imp.refl _, imp_mod _ _ _ (by omega), trivial⟩, Imp.refl _, trivial⟩
  · have h7' := of_dec' h7
    ((repeat refine S.seq ?_); refine S.region (L.go (T := tt) tt_ok rfl rfl ?sd81 ?_); (try (case sd81 => (repeat' ((first | first | exact trivial | exact zA | with_reducible refine zI ?_ ?_ | exact zB | exact zC | exact zD | exact zE | rfl | exact zN rfl | omega | assumption | (simp; done) | (simp [splice]; done) | (simp; omega) | (unfold fits; omega) | (unfold fits; simp_all; omega) | (simp_all; omega) | (simp_all; done) | intro _ | exact zI ?_ ?_ | intro _))))); try (refine L.nil ?_))
    refine L.buildSlice (T := tt) 5 tt_ok rfl rfl rfl rfl rfl rfl (by decide) (by decide) rfl rfl (by (repeat' ((first | first | exact trivial | exact zA | with_reducible refine zI ?_ ?_ | exact zB | exact zC | exact zD | exact zE | rfl | exact zN rfl | omega | assumption | (simp; done) | (simp [splice]; done) | (simp; omega) | (unfold fits; omega) | (unfold fits; simp_all; omega) | (simp_all; omega) | (simp_all; done) | intro _ | exact zI ?_ ?_ | intro _)))) fun x5 => ?_
    refine L.append (T := tt) tt_ok rfl rfl rfl rfl rfl rfl rfl rfl rfl rfl (by (repeat' ((first | first | exact trivial | exact zA | with_reducible refine zI ?_ ?_ | exact zB | exact zC | exact zD | exact zE | rfl | exact zN rfl | omega | assumption | (simp; done) | (simp [splice]; done) | (simp; omega) | (unfold fits; omega) | (unfold fits; simp_all; omega) | (simp_all; omega) | (simp_all; done) | intro _ | exact zI ?_ ?_ | intro _)))) ⟨rfl, by decide, by decide⟩ (by simp; omega) fun x2 => ?_
    (refine L.go (T := tt) tt_ok rfl rfl ?sd99 ?_; (try (case sd99 => (repeat' ((first | first | exact trivial | exact zA | with_reducible refine zI ?_ ?_ | exact zB | exact zC | exact zD | exact zE | rfl | exact zN rfl | omega | assumption | (simp; done) | (simp [splice]; done) | (simp; omega) | (unfold fits; omega) | (unfold fits; simp_all; omega) | (simp_all; omega) | (simp_all; done) | intro _ | exact zI ?_ ?_ | intro _))))); try (refine L.nil ?_))
    (refine L.store (T := tt) tt_ok rfl rfl rfl rfl rfl rfl ?sd110 ?_; (try (case sd110 => (repeat' ((first | first | exact trivial | exact zA | with_reducible refine zI ?_ ?_ | exact zB | exact zC | exact zD | exact zE | rfl | exact zN rfl | omega | assumption | (simp; done) | (simp [splice]; done) | (simp; omega) | (unfold fits; omega) | (unfold fits; simp_all; omega) | (simp_all; omega) | (simp_all; done) | intro _ | exact zI ?_ ?_ | intro _))))))
    refine L.nil ?_
    ((repeat refine S.seq ?_); refine S.region (L.go (T := tt) tt_ok rfl rfl ?sd82 ?_); (try (case sd82 => (repeat' ((first | first | exact trivial | exact zA | with_reducible refine zI ?_ ?_ | exact zB | exact zC | exact zD | exact zE | rfl | exact zN rfl | omega | assumption | (simp; done) | (simp [splice]; done) | (simp; omega) | (unfold fits; omega) | (unfold fits; simp_all; omega) | (simp_all; omega) | (simp_all; done) | intro _ | exact zI ?_ ?_ | intro _))))); try (refine L.nil ?_))
    (refine L.store (T := tt) tt_ok rfl rfl rfl rfl rfl rfl ?sd111 ?_; (try (case sd111 => (repeat' ((first | first | exact trivial | exact zA | with_reducible refine zI ?_ ?_ | exact zB | exact zC | exact zD | exact zE | rfl | exact zN rfl | omega | assumption | (simp; done) | (simp [splice]; done) | (simp; omega) | (unfold fits; omega) | (unfold fits; simp_all; omega) | (simp_all; omega) | (simp_all; done) | intro _ | exact zI ?_ ?_ | intro _))))))
    (refine L.go (T := tt) tt_ok rfl rfl ?sd100 ?_; (try (case sd100 => (repeat' ((first | first | exact trivial | exact zA | with_reducible refine zI ?_ ?_ | exact zB | exact zC | exact zD | exact zE | rfl | exact zN rfl | omega | assumption | (simp; done) | (simp [splice]; done) | (simp; omega) | (unfold fits; omega) | (unfold fits; simp_all; omega) | (simp_all; omega) | (simp_all; done) | intro _ | exact zI ?_ ?_ | intro _))))); try (refine L.nil ?_))
    ((repeat refine S.seq ?_); refine S.ret ?_)
    refine freezeCell 2 2 91 rfl rfl rfl rfl (freezeCell 2 3 92 rfl rfl rfl rfl (freezeCell 2 4 93 rfl rfl rfl rfl ?_))
    refine E.retP (T := tt) tt_ok rfl rfl (by (repeat' ((first | first | exact trivial | exact zA | with_reducible refine zI ?_ ?_ | exact zB | exact zC | exact zD | exact zE | rfl | exact zN rfl | omega | assumption | (simp; done) | (simp [splice]; done) | (simp; omega) | (unfold fits; omega) | (unfold fits; simp_all; omega) | (simp_all; omega) | (simp_all; done) | intro _ | exact zI ?_ ?_ | intro _)))) ?_
    rw [hE, if_pos rfl, putS, if_neg h7']
    exact Imp.tup ⟨Imp.agg ⟨Imp.refl _, Imp.refl _, imp_app _ _ _ _, Imp.refl _, imp_app1 _ _ _ _ rfl, trivial⟩, Imp.refl _, trivial⟩

end Go.Proofs.YtfdneepgpekmiaaDoor

/- Which shards may be, in plain words. -/
namespace Go.Proofs.YtfdneepgpekmiaaDoor
set_option linter.unusedVariables false
set_option linter.unusedSimpArgs false
set_option maxHeartbeats 8000000
open Go.RowKit

theorem mem_take {α : Type} {l : List α} {k : Nat} {x : α} (h : x ∈ l.take k) : ∃ j, ∃ hj : j < l.length, j < k ∧ l[j] = x := by
  obtain ⟨j, hj, rfl⟩ := List.getElem_of_mem h
  rw [List.length_take] at hj
  exact ⟨j, by omega, by omega, by simp⟩
theorem take_mem {α : Type} {l : List α} {k j : Nat} (hj : j < l.length) (hk : j < k) : l[j] ∈ l.take k := by
  have h : j < (l.take k).length := by rw [List.length_take]; omega
  have := List.getElem_mem h
  simpa using this

/-- One publisher's, of one key. -/
def nm (m : Mark) (p : Int) (k : ByteArray) : Prop := m.pub = p ∧ m.key = k
theorem nm_b (m : Mark) (p : Int) (k : ByteArray) : ((m.pub == p && m.key == k) = true) ↔ nm m p k := by simp [nm]
instance (m : Mark) (p : Int) (k : ByteArray) : Decidable (nm m p k) := by unfold nm; infer_instance

theorem lastSeq_nil (p : Int) (k : ByteArray) : lastSeq [] p k = 0 := rfl
theorem lastSeq_snoc (l : List Mark) (x : Mark) (p : Int) (k : ByteArray) : lastSeq (l ++ [x]) p k = if nm x p k then x.seq else lastSeq l p k := by
  unfold lastSeq
  rw [List.reverse_append, List.reverse_singleton, List.singleton_append, List.find?_cons]
  by_cases h : nm x p k
  · rw [(nm_b x p k).2 h, if_pos h]
  · rw [Bool.eq_false_iff.2 fun e => h ((nm_b x p k).1 e), if_neg h]
theorem snoc_ind {α : Type} {P : List α → Prop} (h0 : P []) (h1 : ∀ l x, P l → P (l ++ [x])) (l : List α) : P l := by
  have : ∀ r : List α, P r.reverse := fun r => by
    induction r with
    | nil => exact h0
    | cons x r ih => rw [List.reverse_cons]; exact h1 _ _ ih
  simpa using this l.reverse
theorem lastSeq_cases (l : List Mark) (p : Int) (k : ByteArray) : (lastSeq l p k = 0 ∧ ∀ m ∈ l, ¬ nm m p k) ∨ ∃ m ∈ l, nm m p k ∧ lastSeq l p k = m.seq := by
  induction l using snoc_ind with
  | h0 => exact .inl ⟨rfl, by simp⟩
  | h1 l x ih =>
    rw [lastSeq_snoc]
    by_cases h : nm x p k
    · rw [if_pos h]; exact .inr ⟨x, by simp, h, rfl⟩
    · rw [if_neg h]
      rcases ih with ⟨h1, h2⟩ | ⟨m, h1, h2, h3⟩
      · refine .inl ⟨h1, fun m hm => ?_⟩
        rcases List.mem_append.1 hm with hm | hm
        · exact h2 m hm
        · rw [List.mem_singleton.1 hm]; exact h
      · exact .inr ⟨m, by simp [h1], h2, h3⟩

/-- Of one name the numbers rise. -/
def inc (a b : Mark) : Prop := a.pub = b.pub → a.key = b.key → a.seq < b.seq
theorem inc_le {l : List Mark} (hi : l.Pairwise inc) {m : Mark} (hm : m ∈ l) {p : Int} {k : ByteArray} (hn : nm m p k) : m.seq ≤ lastSeq l p k := by
  induction l using snoc_ind with
  | h0 => cases hm
  | h1 l x ih =>
    obtain ⟨h1, -, h3⟩ := List.pairwise_append.1 hi
    rw [lastSeq_snoc]
    rcases List.mem_append.1 hm with hm | hm
    · by_cases h : nm x p k
      · rw [if_pos h]
        exact Int.le_of_lt (h3 m hm x (by simp) (hn.1.trans h.1.symm) (hn.2.trans h.2.symm))
      · rw [if_neg h]; exact ih h1 hm
    · rw [List.mem_singleton.1 hm] at hn ⊢
      rw [if_pos hn]; exact Int.le_refl _
theorem inc_lt {l : List Mark} (hi : l.Pairwise inc) {x : Int} (hx : 1 ≤ x) (p : Int) (k : ByteArray) : lastSeq l p k < x ↔ ∀ m ∈ l, nm m p k → m.seq < x := by
  constructor
  · intro h m hm hn
    have := inc_le hi hm hn
    omega
  · intro h
    rcases lastSeq_cases l p k with ⟨h1, -⟩ | ⟨m, h1, h2, h3⟩
    · omega
    · rw [h3]; exact h m h1 h2
/-- No two of one name. -/
def apart (a b : Mark) : Prop := ¬ nm a b.pub b.key
theorem apart_inc {l : List Mark} (h : l.Pairwise apart) : l.Pairwise inc := h.imp fun {a b} h e1 e2 => absurd ⟨e1, e2⟩ h
theorem apart_seq {l : List Mark} (h : l.Pairwise apart) {m : Mark} (hm : m ∈ l) : lastSeq l m.pub m.key = m.seq := by
  rcases lastSeq_cases l m.pub m.key with ⟨-, h2⟩ | ⟨m', h1, h2, h3⟩
  · exact absurd ⟨rfl, rfl⟩ (h2 m hm)
  · rw [h3]
    obtain ⟨i, hi, rfl⟩ := List.getElem_of_mem hm
    obtain ⟨j, hj, rfl⟩ := List.getElem_of_mem h1
    have hp := List.pairwise_iff_getElem.1 h
    rcases Nat.lt_trichotomy i j with h | h | h
    · exact absurd ⟨h2.1.symm, h2.2.symm⟩ (hp i j hi hj h)
    · subst h; rfl
    · exact absurd h2 (hp j i hj hi h)

theorem pos_seq {l : List Mark} (h : ∀ m ∈ l, mayMsg (markMsg m) = true) (p : Int) (k : ByteArray) : ¬ lastSeq l p k > 0 ↔ ∀ m ∈ l, ¬ nm m p k := by
  rcases lastSeq_cases l p k with ⟨h1, h2⟩ | ⟨m, h1, h2, h3⟩
  · exact ⟨fun _ => h2, fun _ => by omega⟩
  · have := mayMsg_le (h m h1)
    have e : (markMsg m).seq = m.seq := rfl
    exact ⟨fun h => by omega, fun h => absurd h2 (h m h1)⟩

theorem marks_iff (l : List Mark) : marksTo l l.length = true ↔ (∀ m ∈ l, mayMsg (markMsg m) = true) ∧ l.Pairwise apart := by
  have key : ∀ n, n ≤ l.length → (marksTo l n = true ↔ (∀ m ∈ l.take n, mayMsg (markMsg m) = true) ∧ (l.take n).Pairwise apart) := by
    intro n
    induction n with
    | zero => intro _; simp [marksTo]
    | succ n ih =>
      intro hn
      have hlt : n < l.length := by omega
      rw [marksTo_succ, Bool.and_eq_true, ih (by omega), List.take_add_one, List.getElem?_eq_getElem hlt]
      simp only [Option.toList_some, List.pairwise_append, List.mem_append, List.mem_singleton, marksE, Bool.and_eq_true, Bool.not_eq_true', decide_eq_false_iff_not, getD_get hlt]
      constructor
      · rintro ⟨⟨h1, h2⟩, h3, h4⟩
        rw [pos_seq h1] at h4
        exact ⟨fun m hm => hm.elim (h1 m) fun e => e ▸ h3, h2, by simp, fun a ha b hb => by subst hb; exact h4 a ha⟩
      · rintro ⟨h1, h2, -, h4⟩
        have h1' : ∀ m ∈ l.take n, mayMsg (markMsg m) = true := fun m hm => h1 m (.inl hm)
        exact ⟨⟨h1', h2⟩, h1 _ (.inr rfl), (pos_seq h1' _ _).2 fun m hm => h4 m hm _ rfl⟩
  have := key l.length (Nat.le_refl _)
  rwa [List.take_length] at this

/-- 12.1, in words. -/
structure May (s : Shard) : Prop where
  marks : ∀ m ∈ s.marks, mayMsg (markMsg m) = true
  apart : s.marks.Pairwise apart
  few : s.marks.length ≤ 64
  next : 1 ≤ s.next ∧ s.next ≤ 1073741824
  all : s.ready.length + s.held.length ≤ 48
  held : ∀ h ∈ s.held, 1 ≤ h.tag ∧ h.tag < s.next ∧ mayMsg h.m = true ∧ h.m.seq ≤ lastSeq s.marks h.m.pub h.m.key
  tags : s.held.Pairwise fun a b => a.tag < b.tag
  keys : s.held.Pairwise fun a b => a.m.key ≠ b.m.key
  ready : ∀ m ∈ s.ready, mayMsg m = true ∧ m.seq ≤ lastSeq s.marks m.pub m.key
  inc : (heldMarks s.held ++ s.ready.map Msg.mark).Pairwise inc

theorem hasKey_iff (l : List Held) (k : ByteArray) : hasKey l k = false ↔ ∀ h ∈ l, h.m.key ≠ k := by
  simp [hasKey]

theorem held_iff (s : Shard) : heldTo s s.held.length = true ↔ (∀ h ∈ s.held, 1 ≤ h.tag ∧ h.tag < s.next ∧ mayMsg h.m = true ∧ h.m.seq ≤ lastSeq s.marks h.m.pub h.m.key) ∧ (s.held.Pairwise fun a b => a.tag < b.tag) ∧ (s.held.Pairwise fun a b => a.m.key ≠ b.m.key) := by
  have key : ∀ n, n ≤ s.held.length → (heldTo s n = true ↔ (∀ h ∈ s.held.take n, 1 ≤ h.tag ∧ h.tag < s.next ∧ mayMsg h.m = true ∧ h.m.seq ≤ lastSeq s.marks h.m.pub h.m.key) ∧ ((s.held.take n).Pairwise fun a b => a.tag < b.tag) ∧ ((s.held.take n).Pairwise fun a b => a.m.key ≠ b.m.key)) := by
    intro n
    induction n with
    | zero => intro _; simp [heldTo]
    | succ n ih =>
      intro hn
      have hlt : n < s.held.length := by omega
      rw [heldTo_succ, Bool.and_eq_true, ih (by omega), List.take_add_one, List.getElem?_eq_getElem hlt]
      simp only [Option.toList_some, List.pairwise_append, List.mem_append, List.mem_singleton, heldE, Bool.and_eq_true, Bool.not_eq_true', Bool.or_eq_false_iff, decide_eq_false_iff_not, Bool.not_eq_false', getD_get hlt, hasKey_iff]
      have htag : (∀ h ∈ s.held.take n, 1 ≤ h.tag) → ((s.held.take n).Pairwise fun a b => a.tag < b.tag) → (¬ s.held[n].tag ≤ tagTo s.held n ↔ 1 ≤ s.held[n].tag ∧ ∀ h ∈ s.held.take n, h.tag < s.held[n].tag) := by
        intro h1 h2
        unfold tagTo
        by_cases h0 : n = 0
        · subst h0; simp; omega
        · rw [if_neg h0, getD_get (by omega)]
          have hm := take_mem (l := s.held) (j := n - 1) (k := n) (by omega) (by omega)
          constructor
          · intro h
            have h4 := h1 _ hm
            refine ⟨by omega, fun x hx => ?_⟩
            obtain ⟨j, hj, hjn, rfl⟩ := mem_take hx
            rcases Nat.lt_or_ge j (n - 1) with hj' | hj'
            · have := List.pairwise_iff_getElem.1 h2 j (n - 1) (by rw [List.length_take]; omega) (by rw [List.length_take]; omega) hj'
              simp only [List.getElem_take] at this
              omega
            · have e : j = n - 1 := by omega
              subst e; omega
          · rintro ⟨h, h'⟩
            have := h' _ hm
            omega
      constructor
      · rintro ⟨⟨h1, h2, h3⟩, ⟨⟨⟨h4, h5⟩, h6⟩, h7⟩, h8⟩
        obtain ⟨h9, h10⟩ := (htag (fun h hh => (h1 h hh).1) h2).1 h4
        exact ⟨fun h hh => hh.elim (h1 h) fun e => by subst e; exact ⟨h9, by omega, h7, by omega⟩, ⟨h2, by simp, fun a ha b hb => by subst hb; exact h10 a ha⟩, h3, by simp, fun a ha b hb => by subst hb; exact h6 a ha⟩
      · rintro ⟨h1, ⟨h2, -, h3⟩, h4, -, h5⟩
        have h6 := h1 _ (.inr rfl)
        exact ⟨⟨fun h hh => h1 h (.inl hh), h2, h4⟩, ⟨⟨⟨(htag (fun h hh => (h1 h (.inl hh)).1) h2).2 ⟨h6.1, fun h hh => h3 h hh _ rfl⟩, by omega⟩, fun h hh => h5 h hh _ rfl⟩, h6.2.2.1⟩, by omega⟩
  have := key s.held.length (Nat.le_refl _)
  rwa [List.take_length] at this

theorem ready_iff (s : Shard) (hh : (heldMarks s.held).Pairwise inc) : readyTo s s.ready.length = true ↔ (∀ m ∈ s.ready, mayMsg m = true ∧ m.seq ≤ lastSeq s.marks m.pub m.key) ∧ (heldMarks s.held ++ s.ready.map Msg.mark).Pairwise inc := by
  have key : ∀ n, n ≤ s.ready.length → (readyTo s n = true ↔ (∀ m ∈ s.ready.take n, mayMsg m = true ∧ m.seq ≤ lastSeq s.marks m.pub m.key) ∧ (heldMarks s.held ++ (s.ready.take n).map Msg.mark).Pairwise inc) := by
    intro n
    induction n with
    | zero => intro _; simp [readyTo, hh]
    | succ n ih =>
      intro hn
      have hlt : n < s.ready.length := by omega
      rw [readyTo_succ, Bool.and_eq_true, ih (by omega), List.take_add_one, List.getElem?_eq_getElem hlt]
      simp only [Option.toList_some, List.map_append, List.map_cons, List.map_nil, ← List.append_assoc]
      rw [List.pairwise_append (l₂ := [Msg.mark s.ready[n]])]
      simp only [List.mem_append, List.mem_singleton, readyE, Bool.and_eq_true, Bool.not_eq_true', Bool.or_eq_false_iff, decide_eq_false_iff_not, Bool.not_eq_false', getD_get hlt]
      constructor
      · rintro ⟨⟨h1, h2⟩, ⟨h3, h4⟩, h5⟩
        have hx := mayMsg_le h3
        have h6 := (inc_lt h2 hx.1 s.ready[n].pub s.ready[n].key).1 (by omega)
        exact ⟨fun m hm => hm.elim (h1 m) fun e => by subst e; exact ⟨h3, by omega⟩, h2, by simp, fun a ha b hb e1 e2 => by subst hb; exact h6 a (List.mem_append.2 ha) ⟨e1, e2⟩⟩
      · rintro ⟨h1, h2, -, h3⟩
        have h4 := h1 _ (.inr rfl)
        have hx := mayMsg_le h4.1
        have h6 := (inc_lt h2 hx.1 s.ready[n].pub s.ready[n].key).2 fun m hm hn => h3 m (List.mem_append.1 hm) _ rfl hn.1 hn.2
        exact ⟨⟨fun m hm => h1 m (.inl hm), h2⟩, ⟨h4.1, by omega⟩, by omega⟩
  have := key s.ready.length (Nat.le_refl _)
  rwa [List.take_length] at this

theorem heldMarks_apart {l : List Held} (h : l.Pairwise fun a b => a.m.key ≠ b.m.key) : (heldMarks l).Pairwise apart := by
  unfold heldMarks
  rw [List.pairwise_map]
  exact h.imp fun {a b} h e => h e.2

theorem may_iff (s : Shard) : mayShard s = true ↔ May s := by
  unfold mayShard
  simp only [Bool.and_eq_true, decide_eq_true_eq, Bool.not_eq_true', Bool.or_eq_false_iff, decide_eq_false_iff_not, marks_iff, held_iff]
  constructor
  · rintro ⟨⟨⟨⟨⟨h1, h2⟩, h3⟩, ⟨⟨h4, h5⟩, h6⟩⟩, h7, h8, h9⟩, h10⟩
    rw [ready_iff s (apart_inc (heldMarks_apart h9))] at h10
    exact ⟨h1, h2, by omega, by omega, by omega, h7, h8, h9, h10.1, h10.2⟩
  · rintro ⟨h1, h2, h3, h4, h5, h7, h8, h9, h10, h11⟩
    exact ⟨⟨⟨⟨⟨h1, h2⟩, by omega⟩, ⟨⟨by omega, by omega⟩, by omega⟩⟩, h7, h8, h9⟩, (ready_iff s (apart_inc (heldMarks_apart h9))).2 ⟨h10, h11⟩⟩

end Go.Proofs.YtfdneepgpekmiaaDoor

/- What the shard's calls keep. -/
namespace Go.Proofs.YtfdneepgpekmiaaDoor
set_option linter.unusedVariables false
set_option linter.unusedSimpArgs false
set_option maxHeartbeats 8000000
open Go.RowKit

theorem markAt_cases (l : List Mark) (p : Int) (k : ByteArray) : (markAt l p k = -1 ∧ ∀ m ∈ l, ¬ nm m p k) ∨ ∃ i, ∃ hi : i < l.length, markAt l p k = i ∧ nm l[i] p k := by
  unfold markAt
  rcases pidx_cases (fun i => let m := l.getD i default; m.pub == p && m.key == k) l.length with ⟨h, hno⟩ | ⟨i, hi, hp, -, h⟩
  · refine .inl ⟨h, fun m hm hn => ?_⟩
    obtain ⟨j, hj, rfl⟩ := List.getElem_of_mem hm
    have := hno j hj
    simp only [getD_get hj] at this
    rw [(nm_b _ _ _).2 hn] at this
    cases this
  · refine .inr ⟨i, hi, h, ?_⟩
    simp only [getD_get hi] at hp
    exact (nm_b _ _ _).1 hp
theorem last_none {l : List Mark} {p : Int} {k : ByteArray} (h : ∀ m ∈ l, ¬ nm m p k) : lastSeq l p k = 0 := by
  rcases lastSeq_cases l p k with ⟨h1, -⟩ | ⟨m, h1, h2, -⟩
  · exact h1
  · exact absurd h2 (h m h1)
theorem last_mem {l : List Mark} (ha : l.Pairwise apart) {m : Mark} (hm : m ∈ l) {p : Int} {k : ByteArray} (hn : nm m p k) : lastSeq l p k = m.seq := by
  rw [← hn.1, ← hn.2]; exact apart_seq ha hm
theorem lastOf_eq {l : List Mark} (ha : l.Pairwise apart) (p : Int) (k : ByteArray) : lastOf l p k = lastSeq l p k := by
  unfold lastOf
  rcases markAt_cases l p k with ⟨h, hno⟩ | ⟨i, hi, h, hn⟩
  · rw [h, if_pos (by decide), last_none hno]
  · rw [h, if_neg (by omega), Int.toNat_natCast, getD_get hi, last_mem ha (List.getElem_mem hi) hn]

/-- The marks behind a batch. -/
def putM (l : List Mark) (x : Mark) : List Mark := if markAt l x.pub x.key ≥ 0 then l.modify (markAt l x.pub x.key).toNat (fun m => { m with seq := x.seq }) else l ++ [x]
theorem putM_cases (l : List Mark) (x : Mark) : ((∀ m ∈ l, ¬ nm m x.pub x.key) ∧ markAt l x.pub x.key = -1 ∧ putM l x = l ++ [x]) ∨ ∃ i, ∃ hi : i < l.length, nm l[i] x.pub x.key ∧ markAt l x.pub x.key = i ∧ putM l x = l.set i x := by
  unfold putM
  rcases markAt_cases l x.pub x.key with ⟨h, hno⟩ | ⟨i, hi, h, hn⟩
  · exact .inl ⟨hno, h, by rw [h, if_neg (by decide)]⟩
  · refine .inr ⟨i, hi, hn, h, ?_⟩
    rw [h, if_pos (by omega), Int.toNat_natCast]
    apply List.ext_getElem?
    intro j
    rw [List.getElem?_modify, List.getElem?_set]
    by_cases e : i = j
    · subst e
      obtain ⟨n1, n2⟩ := hn
      simp [hi, n1, n2]
    · rw [if_neg e]; cases l[j]? <;> simp [e]
theorem putM_apart {l : List Mark} (ha : l.Pairwise apart) (x : Mark) : (putM l x).Pairwise apart := by
  rcases putM_cases l x with ⟨hno, -, e⟩ | ⟨i, hi, hn, -, e⟩
  · rw [e, List.pairwise_append]
    exact ⟨ha, by simp, fun a h b hb => by rw [List.mem_singleton.1 hb]; exact hno a h⟩
  · rw [e, List.pairwise_iff_getElem]
    intro a b h1 h2 hab
    have h := List.pairwise_iff_getElem.1 ha
    simp only [List.length_set] at h1 h2
    rw [List.getElem_set, List.getElem_set]
    split
    · rename_i e1; subst e1
      rw [if_neg (by omega)]
      exact fun h' => h i b h1 h2 hab ⟨hn.1.trans h'.1, hn.2.trans h'.2⟩
    · split
      · rename_i e2; subst e2
        exact fun h' => h a i h1 h2 hab ⟨h'.1.trans hn.1.symm, h'.2.trans hn.2.symm⟩
      · exact h a b h1 h2 hab
theorem putM_mem {l : List Mark} {x m : Mark} (h : m ∈ putM l x) : m ∈ l ∨ m = x := by
  rcases putM_cases l x with ⟨-, -, e⟩ | ⟨i, hi, -, -, e⟩
  · rw [e] at h; simpa using h
  · rw [e] at h; exact (List.mem_or_eq_of_mem_set h)
theorem putM_last {l : List Mark} (ha : l.Pairwise apart) (x : Mark) (p : Int) (k : ByteArray) : lastSeq (putM l x) p k = if nm x p k then x.seq else lastSeq l p k := by
  rcases putM_cases l x with ⟨hno, -, e⟩ | ⟨i, hi, hn, -, e⟩
  · rw [e, lastSeq_snoc]
  · have hp := putM_apart ha x
    rw [e] at hp ⊢
    split
    · rename_i h
      exact last_mem hp (List.mem_set hi x) h
    · rename_i h
      rcases lastSeq_cases l p k with ⟨h1, h2⟩ | ⟨m, h1, h2, h3⟩
      · rw [h1]
        refine last_none fun m hm => ?_
        rcases List.mem_or_eq_of_mem_set hm with h3 | h3
        · exact h2 m h3
        · rw [h3]; exact h
      · rw [h3]
        obtain ⟨j, hj, rfl⟩ := List.getElem_of_mem h1
        refine last_mem hp ?_ h2
        rw [List.mem_iff_getElem]
        refine ⟨j, by simpa using hj, ?_⟩
        rw [List.getElem_set, if_neg]
        rintro rfl
        exact h ⟨hn.1.symm.trans h2.1, hn.2.symm.trans h2.2⟩
theorem putM_len (l : List Mark) (x : Mark) : (putM l x).length = l.length + (if markAt l x.pub x.key < 0 then 1 else 0) := by
  rcases putM_cases l x with ⟨-, h, e⟩ | ⟨i, hi, -, h, e⟩
  · rw [e, h, if_pos (by decide)]; simp
  · rw [e, h, if_neg (by omega)]; simp

/-- A batch: one publisher, one key, numbers in a row. -/
theorem row_seq {l : List Msg} (h : mayRow l = true) : ∀ i (hi : i < l.length), mayMsg l[i] = true ∧ l[i].again = false ∧ l[i].pub = (l.getD 0 default).pub ∧ l[i].key = (l.getD 0 default).key ∧ l[i].seq = (l.getD 0 default).seq + i := by
  have hr := (Bool.and_eq_true_iff.1 h).2
  intro i
  induction i with
  | zero =>
    intro hi
    have := rowTo_at hr hi
    rw [getD_get hi] at this ⊢
    exact ⟨this.1, this.2.1, rfl, rfl, by simp⟩
  | succ i ih =>
    intro hi
    have h1 := ih (by omega)
    have h2 := rowTo_at hr hi
    rw [getD_get hi] at h2
    obtain ⟨g1, g2, g3, g4⟩ := h2
    simp only [Bool.and_eq_true, beq_iff_eq] at g3
    simp only [Nat.add_sub_cancel, getD_get (show i < l.length by omega), Bool.or_eq_true, beq_iff_eq] at g4
    refine ⟨g1, g2, g3.1, g3.2, ?_⟩
    have := g4.resolve_left (by omega)
    omega
theorem row_len {l : List Msg} (h : mayRow l = true) : 1 ≤ l.length ∧ l.length ≤ 8 := by
  have := (Bool.and_eq_true_iff.1 h).1
  simp only [Bool.not_eq_true', Bool.or_eq_false_iff, decide_eq_false_iff_not] at this
  omega
def lastMsg (l : List Msg) : Msg := l.getD ((l.length : Int) - 1).toNat default
theorem lastMsg_eq {l : List Msg} (h : mayRow l = true) : mayMsg (lastMsg l) = true ∧ (lastMsg l).pub = (l.getD 0 default).pub ∧ (lastMsg l).key = (l.getD 0 default).key ∧ (lastMsg l).seq = (l.getD 0 default).seq + l.length - 1 := by
  have hl := row_len h
  have e : ((l.length : Int) - 1).toNat = l.length - 1 := by omega
  obtain ⟨g1, g2, g3, g4, g5⟩ := row_seq h (l.length - 1) (by omega)
  unfold lastMsg
  rw [e, getD_get (show l.length - 1 < l.length by omega)]
  exact ⟨g1, g3, g4, by omega⟩

structure PutOk (s : Shard) (l : List Msg) : Prop where
  may : mayShard s = true
  row : mayRow l = true
  new : lastOf s.marks (l.getD 0 default).pub (l.getD 0 default).key < (l.getD 0 default).seq
  open' : s.frozen = false
  all : s.ready.length + s.held.length + l.length ≤ 48
  few : ¬ (markAt s.marks (l.getD 0 default).pub (l.getD 0 default).key < 0 ∧ s.marks.length = 64)
theorem putE_zero {s : Shard} {l : List Msg} (h : putE s l = 0) : PutOk s l := by
  unfold putE at h
  dsimp only at h
  split at h
  · cases h
  split at h
  · cases h
  split at h
  · cases h
  split at h
  · cases h
  split at h
  · cases h
  rename_i h1 h2 h3 h4 h5
  simp only [Bool.or_eq_true, Bool.not_eq_true', not_or, Bool.not_eq_false] at h1
  simp only [decide_eq_true_eq] at h2 h3
  simp only [Bool.or_eq_true, decide_eq_true_eq, Bool.and_eq_true, beq_iff_eq, not_or] at h5
  exact ⟨h1.1, h1.2, by omega, by simpa using h4, by omega, by omega⟩

theorem putS_marks {s : Shard} {l : List Msg} (h : mayRow l = true) : (putS s l).marks = putM s.marks ⟨(lastMsg l).pub, (lastMsg l).key, (lastMsg l).seq⟩ := by
  have he := lastMsg_eq h
  unfold putS putM
  dsimp only
  rw [he.2.1, he.2.2.1]
  split <;> simp only [lastMsg] at he ⊢
  rw [he.2.1, he.2.2.1]

theorem may_put {s : Shard} {l : List Msg} (h : PutOk s l) : May (putS s l) := by
  have m := (may_iff s).1 h.may
  have hs := row_seq h.row
  have hl := row_len h.row
  obtain ⟨e1, e2, e3, e4⟩ := lastMsg_eq h.row
  have hnew := h.new
  rw [lastOf_eq m.apart] at hnew
  have hm := putS_marks (s := s) h.row
  have hlast : ∀ p k, lastSeq (putS s l).marks p k = if nm ⟨(lastMsg l).pub, (lastMsg l).key, (lastMsg l).seq⟩ p k then (lastMsg l).seq else lastSeq s.marks p k := fun p k => by rw [hm, putM_last m.apart]
  have hge : ∀ p k, lastSeq s.marks p k ≤ lastSeq (putS s l).marks p k := fun p k => by
    rw [hlast]
    split
    · rename_i hn
      rw [← hn.1, ← hn.2]
      simp only [e2, e3]
      omega
    · exact Int.le_refl _
  refine ⟨fun x hx => ?_, ?_, ?_, m.next, ?_, fun x hx => ?_, m.tags, m.keys, fun x hx => ?_, ?_⟩
  · rw [hm] at hx
    rcases putM_mem hx with hx | rfl
    · exact m.marks x hx
    · unfold mayMsg at e1 ⊢
      simp only [Bool.and_eq_true] at e1 ⊢
      exact ⟨e1.1, rfl⟩
  · rw [hm]; exact putM_apart m.apart _
  · rw [hm, putM_len]
    have := h.few
    have := m.few
    simp only [e2, e3]
    split <;> omega
  · have := h.all
    simp only [putS, List.length_append]
    omega
  · have := m.held x hx
    exact ⟨this.1, this.2.1, this.2.2.1, Int.le_trans this.2.2.2 (hge _ _)⟩
  · simp only [putS, List.mem_append] at hx
    rcases hx with hx | hx
    · have := m.ready x hx
      exact ⟨this.1, Int.le_trans this.2 (hge _ _)⟩
    · obtain ⟨i, hi, rfl⟩ := List.getElem_of_mem hx
      obtain ⟨g1, g2, g3, g4, g5⟩ := hs i hi
      refine ⟨g1, ?_⟩
      rw [hlast, if_pos ⟨e2.trans g3.symm, e3.trans g4.symm⟩]
      omega
  · show (heldMarks s.held ++ (s.ready ++ l).map Msg.mark).Pairwise inc
    rw [List.map_append, ← List.append_assoc, List.pairwise_append]
    refine ⟨m.inc, ?_, fun a ha b hb p1 p2 => ?_⟩
    · rw [List.pairwise_map, List.pairwise_iff_getElem]
      intro i j hi hj hij _ _
      have := (hs i hi).2.2.2.2
      have := (hs j hj).2.2.2.2
      simp only [Msg.mark]
      omega
    · obtain ⟨b', hb', rfl⟩ := List.mem_map.1 hb
      obtain ⟨i, hi, rfl⟩ := List.getElem_of_mem hb'
      obtain ⟨g1, g2, g3, g4, g5⟩ := hs i hi
      have hle : a.seq ≤ lastSeq s.marks a.pub a.key := by
        rcases List.mem_append.1 ha with ha | ha
        · obtain ⟨x, hx, rfl⟩ := List.mem_map.1 ha
          exact (m.held x hx).2.2.2
        · obtain ⟨x, hx, rfl⟩ := List.mem_map.1 ha
          exact (m.ready x hx).2
      simp only [Msg.mark] at p1 p2 ⊢
      rw [p1, p2, g3, g4] at hle
      omega

theorem may_new : May ⟨false, 1, [], [], []⟩ := ⟨by simp, by simp, by simp, by simp, by simp, by simp, by simp, by simp, by simp, by simp [heldMarks]⟩
theorem May.small {s : Shard} (m : May s) : s.small := ⟨by have := m.all; omega, by have := m.all; omega, fun h hh => (may_fit (m.held h hh).2.2.1).2.1⟩
theorem markAt_neg {l : List Mark} {p : Int} {k : ByteArray} : markAt l p k < 0 ↔ ∀ m ∈ l, ¬ nm m p k := by
  rcases markAt_cases l p k with ⟨h, hno⟩ | ⟨i, hi, h, hn⟩
  · exact ⟨fun _ => hno, fun _ => by omega⟩
  · exact ⟨fun h' => by omega, fun h' => absurd hn (h' _ (List.getElem_mem hi))⟩

theorem putE_val {s : Shard} {l : List Msg} (m : May s) (hr : mayRow l = true) (hn : lastSeq s.marks (l.getD 0 default).pub (l.getD 0 default).key < (l.getD 0 default).seq) (ho : s.frozen = false) :
    putE s l = if s.ready.length + s.held.length + l.length > 48 ∨ ((∀ m ∈ s.marks, ¬ nm m (l.getD 0 default).pub (l.getD 0 default).key) ∧ s.marks.length = 64) then 4 else 0 := by
  have hl := row_len hr
  obtain ⟨e1, e2, e3, e4⟩ := lastMsg_eq hr
  unfold lastMsg at e4
  unfold putE
  dsimp only
  rw [lastOf_eq m.apart, (may_iff s).2 m, hr, ho]
  rw [if_neg (by simp), if_neg (by simp only [decide_eq_true_eq, ge_iff_le]; omega), if_neg (by simp only [decide_eq_true_eq, ge_iff_le]; omega), if_neg (by simp)]
  congr 1
  simp only [Bool.or_eq_true, decide_eq_true_eq, Bool.and_eq_true, beq_iff_eq, markAt_neg, eq_iff_iff]
  constructor
  · rintro (h | h)
    · exact .inl (by omega)
    · exact .inr ⟨h.1, by omega⟩
  · rintro (h | h)
    · exact .inl (by omega)
    · exact .inr ⟨h.1, by omega⟩

end Go.Proofs.YtfdneepgpekmiaaDoor
