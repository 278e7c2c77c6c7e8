/- The row of DeskWords. -/
import Derived.Test.YtbogfmgfafdjiaaGreatDoorRows
import Derived.Test.YtbogfmgfafdjiaaGreatDoorMuF
import Derived.Test.YtbogfmgfafdjiaaGreatDoorMuB
import Derived.Test.YtbogfmgfafdjiaaGreatDoorMuE
import Derived.WalkKit
import Derived.ProofKit
import Derived.OpenShut
import Derived.ShutString
import Derived.ChangeOld
import Derived.Below
import Derived.SizedLaws
import Derived.Lay
import Derived.MakeChecks
import Derived.LaidMore
import Derived.Stop.Joined
import Derived.SevenTiedAt
import Derived.Test.YtbogfmgfafdjiaaGreatDoorCards
import Derived.Test.YtbogfmgfafdjiaaGreatDoorTie
namespace Go.Proofs.YtbogfmgfafdjiaaGreatDoor.deskWords
open Go.ChangeShapes Go.WideShapes Go.ChangeAt Go.RowKit
open Go.ChangeMaps (open_string shut_string)
set_option linter.unusedVariables false
theorem own : ownKnob Tryz.prog.godebug = none := by kernel_rfl
/-- What the listed variables hold. -/
def laidL : List (String × DataW Unit) := [("math/bits.deBruijn32tab", Rows.laid_math_bits_deBruijn32tab), ("math/bits.deBruijn64tab", Rows.laid_math_bits_deBruijn64tab), ("internal/strconv.uint64pow10", Rows.laid_internal_strconv_uint64pow10), ("unicode/utf8.acceptRanges", Rows.laid_unicode_utf8_acceptRanges), ("strconv.ErrRange", Rows.laid_strconv_ErrRange), ("strconv.ErrSyntax", Rows.laid_strconv_ErrSyntax), ("unicode/utf8.first", Rows.laid_unicode_utf8_first)]
set_option maxRecDepth 100000 in
theorem lifted (os : Os) (started : os.Started) (H : Type) (enc : TypeId × Value → H) :
    ReturnsInHanded {} Tryz.checked os 4 .any (fun w args => (Rows.deskWordsSpec.pre enc Tryz.prog Tryz.f4 [] false w args ∧ laidMetH Tryz.prog laidL w) ∧ sizedMet enc Tryz.prog Tryz.f4 (OpenSpec.ofChange Rows.deskWordsSpec) false w args) (Rows.deskWordsSpec.post enc Tryz.prog Tryz.f4 false true false false) := by
  refine returnsInHanded_of_change_and (C := Tryz.checked) (X := fun w _ => laidMetH Tryz.prog laidL w) (fun _ _ _ hh h => h.of_heap hh) own started (by kernel_rfl) Tryz.func4
    (ChangeSpec.witness_shaped (enc := enc) (C := Tryz.checked) (os := os) (X := fun w _ => laidMetH Tryz.prog laidL w) false (World.laidAll Tryz.prog os laidL) #[.int .i64 0] 8 (World.laidAll_os _ _ _) (World.shaped_of_ZipB (by kernel_rfl) (by kernel_rfl)) (by kernel_rfl) (by kernel_rfl) (by kernel_rfl) (by rw [MakeChecks.laidMetH_plain _ _ _ (by kernel_rfl)]; exact laidMet_laidAll _ (by kernel_rfl) (by kernel_rfl))) ?_
  intro W base args ds gs before hval0 hW hcnd hsz0 hL _
  have hsz : (DataW.weightsEach Tryz.prog (Tryz.f4.params.toList ++ Rows.deskWordsSpec.plain.varTypes Tryz.prog) (ds ++ gs)).all (· ≤ reachBytes) = true := hsz0
  have hval : ∀ (j : Nat) t v, Tryz.f4.params[j]? = some t → args[j]? = some v → Value.okWide Tryz.prog W .any base t v := hval0
  have hW' := hW
  obtain ⟨p, q, hA0, hV, rfl, hfz, hnd⟩ := hW
  have hA : DataW.TrodAll enc Tryz.prog W 0 (fun _ => true) true Tryz.f4.params.toList args.toList ds p := hA0
  rw [Tryz.params4] at hA hval hsz
  obtain ⟨v0, vs0, d0, ds0, p0, q0, hargs, rfl, rfl, h0, r0⟩ := trodAll_cons hA
  obtain ⟨rfl, rfl, rfl⟩ := trodAll_nil r0
  obtain rfl : args = #[v0] := by cases args; simp_all
  obtain ⟨rfl, rfl⟩ := trodVars_none hV
  obtain ⟨a0, rfl, rfl, rfl, w0⟩ := open_int Tryz.underlying3 (hval 0 3 v0 rfl rfl) h0
  refine ((PFn.row (deskWords_p a0) (vs := [.int .i64 a0]) ⟨.v _, trivial⟩)).mono fun e W' ⟨he, bel⟩ => ?_
  subst he
  exact ⟨_, rfl, _, _, _, [], _, [], hW', trodAll_mk1 (shut_bool Tryz.underlying4 _), (trodAll_cons_mk (shut_int Tryz.underlying3 w0) trodAll_mk0), rfl, bel.frame _, fun h => by cases h⟩
theorem bI {a b : Bool} (h : a = true) (k : b = true) : (a && b) = true := by rw [h, k]; rfl
set_option maxHeartbeats 8000000 in
theorem joined_f : joinedFacts Tryz.pinned.checked.prog 4 Tryz.f4 Rows.deskWordsSpec Rows.deskWordsRow = true := by
  unfold joinedFacts
  repeat' (with_reducible refine bI ?_ ?_)
  all_goals (as_aux_lemma => kernel_rfl)
theorem named_f : Tryz.pinned.checked.prog.funcNamed Rows.deskWordsRow.func = some 4 := by kernel_rfl
theorem over : Rows.deskWordsRow.holds Tryz.pinned (OpenSpec.ofChange Rows.deskWordsSpec) :=
  OpenClaim.holds_of_wide 4 Tryz.f4 rfl rfl rfl rfl rfl rfl rfl ⟨rfl, rfl, rfl, rfl, rfl⟩ rfl rfl rfl rfl rfl named_f Tryz.func4 joined_f
    (of_decide_eq_true (by kernel_rfl)) (by unfold Func.isWrapper; first | (rw [if_pos (by decide +kernel)]; kernel_rfl) | (rw [if_neg (by decide +kernel)]; exact ⟨rfl, rfl⟩))
    (fun os started H enc _ => lifted os started H enc)
theorem nogo : Tryz.pinned.checked.prog.funcs.any Func.goes = false := by kernel_rfl
theorem goes_false {P : Program} (h : P.funcs.any Func.goes = false) (f : FuncId) : P.goes f = false := by
  unfold Program.goes
  rw [h, Bool.and_false, Bool.or_false, List.any_eq_false]
  intro g _
  cases hg : P.funcs[g]? with
  | none => decide
  | some fn =>
    rw [Array.any_eq_false] at h
    obtain ⟨hi, rfl⟩ := Array.getElem?_eq_some_iff.1 hg
    exact h g hi
theorem goes_f : false = Rows.deskWordsRow.goesBy Tryz.pinned.checked.prog := by
  have h1 : ∀ (P : Program) (x : Option FuncId), x = some 4 → P.goes 4 = false → false = (x.any P.goes || false) := fun P x hx hg => by
    subst hx
    rw [Option.any_some, hg]
    rfl
  have h2 : ∀ (c : OpenClaim) (P : Program), c.start = .entering → c.goesBy P = ((P.funcNamed c.func).any P.goes || false) := fun c P hs => by
    unfold OpenClaim.goesBy Program.goesAt Program.goesFrom
    rw [hs]
  exact (h1 Tryz.pinned.checked.prog _ named_f (goes_false (P := Tryz.pinned.checked.prog) nogo 4)).trans (h2 Rows.deskWordsRow Tryz.pinned.checked.prog rfl).symm
theorem main_f : Tryz.pinned.checked.prog.mainIs = some (true, "b92231399eebe8a09d20187b74b7e0e4b93e6481acfac078302c7b5f51f78605".toList) := by kernel_rfl
theorem looks_f : true = Tryz.pinned.checked.prog.looks [] := by kernel_rfl
theorem proved : Rows.DeskWordsCardSaid :=
  Claim7.holds_tied_plain_at .later [] [.data, .data, .data, .data, .sentinel, .sentinel, .pinned] true (true, "b92231399eebe8a09d20187b74b7e0e4b93e6481acfac078302c7b5f51f78605") true
    over (fun _ h => by cases h) (by kernel_rfl) (fun _ h => by cases h) deskWords_row_tie rfl ⟨rfl, rfl⟩ main_f rfl
    (fun f fn hf hfn => by
      obtain rfl : f = 4 := Option.some.inj (named_f.symm.trans hf) |>.symm
      obtain rfl : fn = Tryz.f4 := (Option.some.inj (Tryz.func4.symm.trans hfn)).symm
      exact ⟨looks_f, fun j t ht => by
        rw [Tryz.params4] at ht
        have hm : t ∈ [3] := by simpa using Array.mem_of_getElem? ht
        have hall : ([3].all fun u => !Tryz.prog.wantsStandIn u) = true := by kernel_rfl
        exact (show Tryz.prog.wantsStandIn t = false by simpa using List.all_eq_true.1 hall t hm)⟩)
    goes_f
#print axioms proved
end Go.Proofs.YtbogfmgfafdjiaaGreatDoor.deskWords
namespace Go.Proofs.YtbogfmgfafdjiaaGreatDoor
/-- The row, under a short name, for the claim. -/
theorem deskWords_holds : Rows.DeskWordsCardSaid := deskWords.proved
end Go.Proofs.YtbogfmgfafdjiaaGreatDoor
