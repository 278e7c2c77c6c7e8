/-
  No cell of these rows narrows 'for every input' (looked for: loops, veiled, ifaces, maps, wideKeys, modest, calm, conditions, laid).
  DERIVED. THE GIVEN ROWS OF THIS SEAT. 2 by the template 'for every input the law returns true; each argument reads behind the call as it read before'; 0 by the template 'total and deterministic' (their statements: YtlbbcjlhnjnkeaaTotals.lean).
  GIVEN WITH THE SEED: the statements are not yours to turn. If you find one false, say at which input.
  Laid BY PROGRAM, IN A SANDBOX (cutbox-rows.mjs): the forced cells as the released guide's own fill.sh prints them over the translation cbfba4f002f580d1… (all of the seat's roots in one cut). By AI agents, Wed Nov 11 2026. No macro, syntax, notation, axiom, sorry.
-/
import Derived.Test.YtlbbcjlhnjnkeaaChecked
import GoSem.Claim
import GoSem.ClaimJoined
import GoSem.ClaimMapViews
import Derived.JoinedTies
import Derived.KernelRfl
namespace Go.Proofs.Ytlbbcjlhnjnkeaa
/- THE CELL 'sum', in the pinned program and in every row, IS THE sha256 OF THE DUMP (.gsa) THAT YtlbbcjlhnjnkeaaProg.lean LOADS. Nothing in Lean hashes anything: it is a label: what it is worth is what the hold of that sum in a sandbox is worth. -/
noncomputable def Try.pinned : Pinned := { name := "ytlbbcjlhnjnkeaa", sum := "cbfba4f002f580d159ccd6c899457c77644da6296f0341f372874e25c749c2f2", checked := Try.checked }
namespace Rows
def none {H : Type} : Left H := { results := [], args := [] }

/-- 'carrefourlaw14.SlipOpens': WHATEVER THE INPUT: true; the input reads as it did. -/
def slipOpensSpec : ChangeSpec := { name := "slipOpens", fn := fun _ => fun
  | [d1, d2] => { results := [.lit (.bool true)], args := [d1, d2] }
  | _ => none }
def slipOpensRow : OpenClaim := { program := "ytlbbcjlhnjnkeaa", sum := "cbfba4f002f580d159ccd6c899457c77644da6296f0341f372874e25c749c2f2", func := "carrefour/carrefourlaw14.SlipOpens", spec := "slipOpens", inPlace := ["slices.overlaps[carrefour/api.Msg]"], unfollowed := true, recurses := true, plainKeys := false, apart := false }
def SlipOpensSaid : Prop := slipOpensRow.holds Try.pinned (OpenSpec.ofChange slipOpensSpec)

/-- ITS FALSE NEIGHBOUR: 'it returns false'. Refute it at one input. -/
def slipOpensWrong : ChangeSpec := { name := "slipOpens", fn := fun _ => fun
  | [d1, d2] => { results := [.lit (.bool false)], args := [d1, d2] }
  | _ => none }
def SlipOpensWrongFalsely : Prop := slipOpensRow.holds Try.pinned (OpenSpec.ofChange slipOpensWrong)

/-- 'carrefourlaw14.SlipStates': WHATEVER THE INPUT: true; the input reads as it did. -/
def slipStatesSpec : ChangeSpec := { name := "slipStates", fn := fun _ => fun
  | [d1, d2] => { results := [.lit (.bool true)], args := [d1, d2] }
  | _ => none }
def slipStatesRow : OpenClaim := { program := "ytlbbcjlhnjnkeaa", sum := "cbfba4f002f580d159ccd6c899457c77644da6296f0341f372874e25c749c2f2", func := "carrefour/carrefourlaw14.SlipStates", spec := "slipStates", inPlace := ["slices.overlaps[carrefour/api.Msg]"], unfollowed := true, recurses := true, plainKeys := false, apart := false }
def SlipStatesSaid : Prop := slipStatesRow.holds Try.pinned (OpenSpec.ofChange slipStatesSpec)

/-- ITS FALSE NEIGHBOUR: 'it returns false'. Refute it at one input. -/
def slipStatesWrong : ChangeSpec := { name := "slipStates", fn := fun _ => fun
  | [d1, d2] => { results := [.lit (.bool false)], args := [d1, d2] }
  | _ => none }
def SlipStatesWrongFalsely : Prop := slipStatesRow.holds Try.pinned (OpenSpec.ofChange slipStatesWrong)

/- THE SECOND FORM. 'bulk': how many values and letters a reading holds, each counted each time it is reached (what is shared counts as often as it is met; a slice's spare places count too). A statement '..UptoSaid' is the law's where the arguments, and the package variables that the reading takes, are together of bulk at most 1048576: NARROWER than '..Said'. Prove '..Said' where nothing that the law and all that it calls make is longer than what came in: it says more and counts as full. Else prove '..UptoSaid'. A law counts once. -/
mutual
def uptoBulk {H : Type} : DataW H → Nat
  | .lit (.string bytes) => bytes.length + 1
  | .lit _ => 1
  | .nil => 1
  | .ptr d => uptoBulk d + 1
  | .slice elems spare => uptoBulkAll elems + uptoBulkAll spare + 1
  | .agg parts => uptoBulkAll parts + 1
  | .iface _ d => uptoBulk d + 1
  | .map entries => uptoBulkEntries entries + 1
  | .held _ => 1
def uptoBulkAll {H : Type} : List (DataW H) → Nat
  | [] => 0
  | d :: r => uptoBulk d + uptoBulkAll r
def uptoBulkEntries {H : Type} : List (Lit × DataW H) → Nat
  | [] => 0
  | x :: r => uptoBulkEntry x + uptoBulkEntries r
def uptoBulkEntry {H : Type} : Lit × DataW H → Nat
  | (.string bytes, d) => bytes.length + uptoBulk d + 1
  | (_, d) => uptoBulk d + 1
 end
def uptoSmall : (H : Type) → List (DataW H) → Bool := fun _ ds => decide (uptoBulkAll ds ≤ 1048576)
def OpenSpec.upto (s : _root_.Go.ChangeSpec) : _root_.Go.OpenSpec := { _root_.Go.OpenSpec.ofChange s with cond := some uptoSmall }

/-- 'carrefourlaw14.SlipOpens', WHERE WHAT IT READS IS OF BULK AT MOST 1048576: true; the input reads as it did. -/
def slipOpensUptoRow : OpenClaim := { program := "ytlbbcjlhnjnkeaa", sum := "cbfba4f002f580d159ccd6c899457c77644da6296f0341f372874e25c749c2f2", func := "carrefour/carrefourlaw14.SlipOpens", spec := "slipOpens", inPlace := ["slices.overlaps[carrefour/api.Msg]"], unfollowed := true, recurses := true, plainKeys := false, apart := false, narrowed := true }
def SlipOpensUptoSaid : Prop := slipOpensUptoRow.holds Try.pinned (OpenSpec.upto slipOpensSpec)

/-- 'carrefourlaw14.SlipStates', WHERE WHAT IT READS IS OF BULK AT MOST 1048576: true; the input reads as it did. -/
def slipStatesUptoRow : OpenClaim := { program := "ytlbbcjlhnjnkeaa", sum := "cbfba4f002f580d159ccd6c899457c77644da6296f0341f372874e25c749c2f2", func := "carrefour/carrefourlaw14.SlipStates", spec := "slipStates", inPlace := ["slices.overlaps[carrefour/api.Msg]"], unfollowed := true, recurses := true, plainKeys := false, apart := false, narrowed := true }
def SlipStatesUptoSaid : Prop := slipStatesUptoRow.holds Try.pinned (OpenSpec.upto slipStatesSpec)

end Rows
end Go.Proofs.Ytlbbcjlhnjnkeaa
