/-
  No cell of these rows narrows 'for every input' (looked for: loops, veiled, ifaces, maps, wideKeys, modest, calm, conditions, laid).
  DERIVED. THE GIVEN ROWS OF THIS SEAT. 6 by the template 'for every input the law returns true; each argument reads behind the call as it read before'; 0 by the template 'total and deterministic' (their statements: YtglmdoghknpgkaaTotals.lean).
  GIVEN WITH THE SEED: the statements are not yours to turn. If you find one false, say at which input.
  Laid BY PROGRAM, IN A SANDBOX (cutbox-rows.mjs): the forced cells as the released guide's own fill.sh prints them over the translation e0d1355179c46516… (all of the seat's roots in one cut). By AI agents, Wed Nov 11 2026. No macro, syntax, notation, axiom, sorry.
-/
import Derived.Test.YtglmdoghknpgkaaChecked
import GoSem.Claim
import GoSem.ClaimJoined
import GoSem.ClaimMapViews
import Derived.JoinedTies
import Derived.KernelRfl
namespace Go.Proofs.Ytglmdoghknpgkaa
/- THE CELL 'sum', in the pinned program and in every row, IS THE sha256 OF THE DUMP (.gsa) THAT YtglmdoghknpgkaaProg.lean LOADS. Nothing in Lean hashes anything: it is a label: what it is worth is what the hold of that sum in a sandbox is worth. -/
noncomputable def Try.pinned : Pinned := { name := "ytglmdoghknpgkaa", sum := "e0d1355179c465165b4f7edc92080cf4c07c4d25cb75cfef2bba6eccd86c9464", checked := Try.checked }
namespace Rows
def none {H : Type} : Left H := { results := [], args := [] }

/-- 'carrefourlaw19.PacePlays': WHATEVER THE INPUT: true; the input reads as it did. -/
def pacePlaysSpec : ChangeSpec := { name := "pacePlays", fn := fun _ => fun
  | [d1, d2] => { results := [.lit (.bool true)], args := [d1, d2] }
  | _ => none }
def pacePlaysRow : OpenClaim := { program := "ytglmdoghknpgkaa", sum := "e0d1355179c465165b4f7edc92080cf4c07c4d25cb75cfef2bba6eccd86c9464", func := "carrefour/carrefourlaw19.PacePlays", spec := "pacePlays", inPlace := ["slices.overlaps[int]"], unfollowed := true, recurses := true, apart := false }
def PacePlaysSaid : Prop := pacePlaysRow.holds Try.pinned (OpenSpec.ofChange pacePlaysSpec)

/-- ITS FALSE NEIGHBOUR: 'it returns false'. Refute it at one input. -/
def pacePlaysWrong : ChangeSpec := { name := "pacePlays", fn := fun _ => fun
  | [d1, d2] => { results := [.lit (.bool false)], args := [d1, d2] }
  | _ => none }
def PacePlaysWrongFalsely : Prop := pacePlaysRow.holds Try.pinned (OpenSpec.ofChange pacePlaysWrong)

/-- 'carrefourlaw19.PaceFresh': WHATEVER THE INPUT: true; the input reads as it did. -/
def paceFreshSpec : ChangeSpec := { name := "paceFresh", fn := fun _ => fun
  | [d1, d2] => { results := [.lit (.bool true)], args := [d1, d2] }
  | _ => none }
def paceFreshRow : OpenClaim := { program := "ytglmdoghknpgkaa", sum := "e0d1355179c465165b4f7edc92080cf4c07c4d25cb75cfef2bba6eccd86c9464", func := "carrefour/carrefourlaw19.PaceFresh", spec := "paceFresh", inPlace := ["slices.overlaps[int]"], unfollowed := true, recurses := true, apart := false }
def PaceFreshSaid : Prop := paceFreshRow.holds Try.pinned (OpenSpec.ofChange paceFreshSpec)

/-- ITS FALSE NEIGHBOUR: 'it returns false'. Refute it at one input. -/
def paceFreshWrong : ChangeSpec := { name := "paceFresh", fn := fun _ => fun
  | [d1, d2] => { results := [.lit (.bool false)], args := [d1, d2] }
  | _ => none }
def PaceFreshWrongFalsely : Prop := paceFreshRow.holds Try.pinned (OpenSpec.ofChange paceFreshWrong)

/-- 'carrefourlaw19.PaceOnce': WHATEVER THE INPUT: true; the input reads as it did. -/
def paceOnceSpec : ChangeSpec := { name := "paceOnce", fn := fun _ => fun
  | [d1, d2] => { results := [.lit (.bool true)], args := [d1, d2] }
  | _ => none }
def paceOnceRow : OpenClaim := { program := "ytglmdoghknpgkaa", sum := "e0d1355179c465165b4f7edc92080cf4c07c4d25cb75cfef2bba6eccd86c9464", func := "carrefour/carrefourlaw19.PaceOnce", spec := "paceOnce", inPlace := ["slices.overlaps[int]"], unfollowed := true, recurses := true, apart := false }
def PaceOnceSaid : Prop := paceOnceRow.holds Try.pinned (OpenSpec.ofChange paceOnceSpec)

/-- ITS FALSE NEIGHBOUR: 'it returns false'. Refute it at one input. -/
def paceOnceWrong : ChangeSpec := { name := "paceOnce", fn := fun _ => fun
  | [d1, d2] => { results := [.lit (.bool false)], args := [d1, d2] }
  | _ => none }
def PaceOnceWrongFalsely : Prop := paceOnceRow.holds Try.pinned (OpenSpec.ofChange paceOnceWrong)

/-- 'carrefourlaw19.PaceWaits': WHATEVER THE INPUT: true; the input reads as it did. -/
def paceWaitsSpec : ChangeSpec := { name := "paceWaits", fn := fun _ => fun
  | [d] => { results := [.lit (.bool true)], args := [d] }
  | _ => none }
def paceWaitsRow : OpenClaim := { program := "ytglmdoghknpgkaa", sum := "e0d1355179c465165b4f7edc92080cf4c07c4d25cb75cfef2bba6eccd86c9464", func := "carrefour/carrefourlaw19.PaceWaits", spec := "paceWaits", inPlace := ["slices.overlaps[int]"], unfollowed := true, recurses := true, apart := false }
def PaceWaitsSaid : Prop := paceWaitsRow.holds Try.pinned (OpenSpec.ofChange paceWaitsSpec)

/-- ITS FALSE NEIGHBOUR: 'it returns false'. Refute it at one input. -/
def paceWaitsWrong : ChangeSpec := { name := "paceWaits", fn := fun _ => fun
  | [d] => { results := [.lit (.bool false)], args := [d] }
  | _ => none }
def PaceWaitsWrongFalsely : Prop := paceWaitsRow.holds Try.pinned (OpenSpec.ofChange paceWaitsWrong)

/-- 'carrefourlaw19.PaceMany': WHATEVER THE INPUT: true; the input reads as it did. -/
def paceManySpec : ChangeSpec := { name := "paceMany", fn := fun _ => fun
  | [d1, d2] => { results := [.lit (.bool true)], args := [d1, d2] }
  | _ => none }
def paceManyRow : OpenClaim := { program := "ytglmdoghknpgkaa", sum := "e0d1355179c465165b4f7edc92080cf4c07c4d25cb75cfef2bba6eccd86c9464", func := "carrefour/carrefourlaw19.PaceMany", spec := "paceMany", inPlace := ["slices.overlaps[int]"], unfollowed := true, recurses := true, apart := false }
def PaceManySaid : Prop := paceManyRow.holds Try.pinned (OpenSpec.ofChange paceManySpec)

/-- ITS FALSE NEIGHBOUR: 'it returns false'. Refute it at one input. -/
def paceManyWrong : ChangeSpec := { name := "paceMany", fn := fun _ => fun
  | [d1, d2] => { results := [.lit (.bool false)], args := [d1, d2] }
  | _ => none }
def PaceManyWrongFalsely : Prop := paceManyRow.holds Try.pinned (OpenSpec.ofChange paceManyWrong)

/-- 'carrefourlaw19.PaceGaps': WHATEVER THE INPUT: true; the input reads as it did. -/
def paceGapsSpec : ChangeSpec := { name := "paceGaps", fn := fun _ => fun
  | [d] => { results := [.lit (.bool true)], args := [d] }
  | _ => none }
def paceGapsRow : OpenClaim := { program := "ytglmdoghknpgkaa", sum := "e0d1355179c465165b4f7edc92080cf4c07c4d25cb75cfef2bba6eccd86c9464", func := "carrefour/carrefourlaw19.PaceGaps", spec := "paceGaps", inPlace := ["slices.overlaps[int]"], unfollowed := true, recurses := true, apart := false }
def PaceGapsSaid : Prop := paceGapsRow.holds Try.pinned (OpenSpec.ofChange paceGapsSpec)

/-- ITS FALSE NEIGHBOUR: 'it returns false'. Refute it at one input. -/
def paceGapsWrong : ChangeSpec := { name := "paceGaps", fn := fun _ => fun
  | [d] => { results := [.lit (.bool false)], args := [d] }
  | _ => none }
def PaceGapsWrongFalsely : Prop := paceGapsRow.holds Try.pinned (OpenSpec.ofChange paceGapsWrong)

/- THE SECOND FORM. 'bulk': how many values and letters a reading holds, each counted each time it is reached (what is shared counts as often as it is met; a slice's spare places count too). A statement '..UptoSaid' is the law's where the arguments, and the package variables that the reading takes, are together of bulk at most 1048576: NARROWER than '..Said'. Prove '..Said' where nothing that the law and all that it calls make is longer than what came in: it says more and counts as full. Else prove '..UptoSaid'. A law counts once. -/
mutual
def uptoBulk {H : Type} : DataW H → Nat
  | .lit (.string bytes) => bytes.length + 1
  | .lit _ => 1
  | .nil => 1
  | .ptr d => uptoBulk d + 1
  | .slice elems spare => uptoBulkAll elems + uptoBulkAll spare + 1
  | .agg parts => uptoBulkAll parts + 1
  | .iface _ d => uptoBulk d + 1
  | .map entries => uptoBulkEntries entries + 1
  | .held _ => 1
def uptoBulkAll {H : Type} : List (DataW H) → Nat
  | [] => 0
  | d :: r => uptoBulk d + uptoBulkAll r
def uptoBulkEntries {H : Type} : List (Lit × DataW H) → Nat
  | [] => 0
  | x :: r => uptoBulkEntry x + uptoBulkEntries r
def uptoBulkEntry {H : Type} : Lit × DataW H → Nat
  | (.string bytes, d) => bytes.length + uptoBulk d + 1
  | (_, d) => uptoBulk d + 1
 end
def uptoSmall : (H : Type) → List (DataW H) → Bool := fun _ ds => decide (uptoBulkAll ds ≤ 1048576)
def OpenSpec.upto (s : _root_.Go.ChangeSpec) : _root_.Go.OpenSpec := { _root_.Go.OpenSpec.ofChange s with cond := some uptoSmall }

/-- 'carrefourlaw19.PacePlays', WHERE WHAT IT READS IS OF BULK AT MOST 1048576: true; the input reads as it did. -/
def pacePlaysUptoRow : OpenClaim := { program := "ytglmdoghknpgkaa", sum := "e0d1355179c465165b4f7edc92080cf4c07c4d25cb75cfef2bba6eccd86c9464", func := "carrefour/carrefourlaw19.PacePlays", spec := "pacePlays", inPlace := ["slices.overlaps[int]"], unfollowed := true, recurses := true, apart := false, narrowed := true }
def PacePlaysUptoSaid : Prop := pacePlaysUptoRow.holds Try.pinned (OpenSpec.upto pacePlaysSpec)

/-- 'carrefourlaw19.PaceFresh', WHERE WHAT IT READS IS OF BULK AT MOST 1048576: true; the input reads as it did. -/
def paceFreshUptoRow : OpenClaim := { program := "ytglmdoghknpgkaa", sum := "e0d1355179c465165b4f7edc92080cf4c07c4d25cb75cfef2bba6eccd86c9464", func := "carrefour/carrefourlaw19.PaceFresh", spec := "paceFresh", inPlace := ["slices.overlaps[int]"], unfollowed := true, recurses := true, apart := false, narrowed := true }
def PaceFreshUptoSaid : Prop := paceFreshUptoRow.holds Try.pinned (OpenSpec.upto paceFreshSpec)

/-- 'carrefourlaw19.PaceOnce', WHERE WHAT IT READS IS OF BULK AT MOST 1048576: true; the input reads as it did. -/
def paceOnceUptoRow : OpenClaim := { program := "ytglmdoghknpgkaa", sum := "e0d1355179c465165b4f7edc92080cf4c07c4d25cb75cfef2bba6eccd86c9464", func := "carrefour/carrefourlaw19.PaceOnce", spec := "paceOnce", inPlace := ["slices.overlaps[int]"], unfollowed := true, recurses := true, apart := false, narrowed := true }
def PaceOnceUptoSaid : Prop := paceOnceUptoRow.holds Try.pinned (OpenSpec.upto paceOnceSpec)

/-- 'carrefourlaw19.PaceWaits', WHERE WHAT IT READS IS OF BULK AT MOST 1048576: true; the input reads as it did. -/
def paceWaitsUptoRow : OpenClaim := { program := "ytglmdoghknpgkaa", sum := "e0d1355179c465165b4f7edc92080cf4c07c4d25cb75cfef2bba6eccd86c9464", func := "carrefour/carrefourlaw19.PaceWaits", spec := "paceWaits", inPlace := ["slices.overlaps[int]"], unfollowed := true, recurses := true, apart := false, narrowed := true }
def PaceWaitsUptoSaid : Prop := paceWaitsUptoRow.holds Try.pinned (OpenSpec.upto paceWaitsSpec)

/-- 'carrefourlaw19.PaceMany', WHERE WHAT IT READS IS OF BULK AT MOST 1048576: true; the input reads as it did. -/
def paceManyUptoRow : OpenClaim := { program := "ytglmdoghknpgkaa", sum := "e0d1355179c465165b4f7edc92080cf4c07c4d25cb75cfef2bba6eccd86c9464", func := "carrefour/carrefourlaw19.PaceMany", spec := "paceMany", inPlace := ["slices.overlaps[int]"], unfollowed := true, recurses := true, apart := false, narrowed := true }
def PaceManyUptoSaid : Prop := paceManyUptoRow.holds Try.pinned (OpenSpec.upto paceManySpec)

/-- 'carrefourlaw19.PaceGaps', WHERE WHAT IT READS IS OF BULK AT MOST 1048576: true; the input reads as it did. -/
def paceGapsUptoRow : OpenClaim := { program := "ytglmdoghknpgkaa", sum := "e0d1355179c465165b4f7edc92080cf4c07c4d25cb75cfef2bba6eccd86c9464", func := "carrefour/carrefourlaw19.PaceGaps", spec := "paceGaps", inPlace := ["slices.overlaps[int]"], unfollowed := true, recurses := true, apart := false, narrowed := true }
def PaceGapsUptoSaid : Prop := paceGapsUptoRow.holds Try.pinned (OpenSpec.upto paceGapsSpec)

end Rows
end Go.Proofs.Ytglmdoghknpgkaa
