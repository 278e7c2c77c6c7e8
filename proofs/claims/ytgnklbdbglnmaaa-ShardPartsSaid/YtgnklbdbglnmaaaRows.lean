/-
  No cell of these rows narrows 'for every input' (looked for: loops, veiled, ifaces, maps, wideKeys, modest, calm, conditions, laid).
  DERIVED. THE GIVEN ROWS OF THIS SEAT. 10 by the template 'for every input the law returns true; each argument reads behind the call as it read before'; 0 by the template 'total and deterministic' (their statements: YtgnklbdbglnmaaaTotals.lean).
  GIVEN WITH THE SEED: the statements are not yours to turn. If you find one false, say at which input.
  Laid BY PROGRAM, IN A SANDBOX (cutbox-rows.mjs): the forced cells as the released guide's own fill.sh prints them over the translation 87e7507de992345d… (all of the seat's roots in one cut). By AI agents, Wed Nov 11 2026. No macro, syntax, notation, axiom, sorry.
-/
import Derived.Test.YtgnklbdbglnmaaaChecked
import GoSem.Claim
import GoSem.ClaimJoined
import GoSem.ClaimMapViews
import Derived.JoinedTies
import Derived.KernelRfl
namespace Go.Proofs.Ytgnklbdbglnmaaa
/- THE CELL 'sum', in the pinned program and in every row, IS THE sha256 OF THE DUMP (.gsa) THAT YtgnklbdbglnmaaaProg.lean LOADS. Nothing in Lean hashes anything: it is a label: what it is worth is what the hold of that sum in a sandbox is worth. -/
noncomputable def Try.pinned : Pinned := { name := "ytgnklbdbglnmaaa", sum := "87e7507de992345d39edfeff158c56d0d2a1c022519faa939334f815101332c0", checked := Try.checked }
namespace Rows
def none {H : Type} : Left H := { results := [], args := [] }

/-- 'carrefourlaw13.BatchNext': WHATEVER THE INPUT: true; the input reads as it did. -/
def batchNextSpec : ChangeSpec := { name := "batchNext", fn := fun _ => fun
  | [d1, d2, d3] => { results := [.lit (.bool true)], args := [d1, d2, d3] }
  | _ => none }
def batchNextRow : OpenClaim := { program := "ytgnklbdbglnmaaa", sum := "87e7507de992345d39edfeff158c56d0d2a1c022519faa939334f815101332c0", func := "carrefour/carrefourlaw13.BatchNext", spec := "batchNext", unfollowed := true, recurses := true, plainKeys := false, apart := false }
def BatchNextSaid : Prop := batchNextRow.holds Try.pinned (OpenSpec.ofChange batchNextSpec)

/-- ITS FALSE NEIGHBOUR: 'it returns false'. Refute it at one input. -/
def batchNextWrong : ChangeSpec := { name := "batchNext", fn := fun _ => fun
  | [d1, d2, d3] => { results := [.lit (.bool false)], args := [d1, d2, d3] }
  | _ => none }
def BatchNextWrongFalsely : Prop := batchNextRow.holds Try.pinned (OpenSpec.ofChange batchNextWrong)

/-- 'carrefourlaw12.ShardOrder': WHATEVER THE INPUT: true; the input reads as it did. -/
def shardOrderSpec : ChangeSpec := { name := "shardOrder", fn := fun _ => fun
  | [d] => { results := [.lit (.bool true)], args := [d] }
  | _ => none }
def shardOrderRow : OpenClaim := { program := "ytgnklbdbglnmaaa", sum := "87e7507de992345d39edfeff158c56d0d2a1c022519faa939334f815101332c0", func := "carrefour/carrefourlaw12.ShardOrder", spec := "shardOrder", inPlace := ["slices.overlaps[carrefour/api.Msg]"], unfollowed := true, recurses := true, plainKeys := false, apart := false }
def ShardOrderSaid : Prop := shardOrderRow.holds Try.pinned (OpenSpec.ofChange shardOrderSpec)

/-- ITS FALSE NEIGHBOUR: 'it returns false'. Refute it at one input. -/
def shardOrderWrong : ChangeSpec := { name := "shardOrder", fn := fun _ => fun
  | [d] => { results := [.lit (.bool false)], args := [d] }
  | _ => none }
def ShardOrderWrongFalsely : Prop := shardOrderRow.holds Try.pinned (OpenSpec.ofChange shardOrderWrong)

/-- 'carrefourlaw12.ShardFull': WHATEVER THE INPUT: true; the input reads as it did. -/
def shardFullSpec : ChangeSpec := { name := "shardFull", fn := fun _ => fun
  | [d1, d2] => { results := [.lit (.bool true)], args := [d1, d2] }
  | _ => none }
def shardFullRow : OpenClaim := { program := "ytgnklbdbglnmaaa", sum := "87e7507de992345d39edfeff158c56d0d2a1c022519faa939334f815101332c0", func := "carrefour/carrefourlaw12.ShardFull", spec := "shardFull", inPlace := ["slices.overlaps[carrefour/api.Msg]"], unfollowed := true, recurses := true, plainKeys := false, apart := false }
def ShardFullSaid : Prop := shardFullRow.holds Try.pinned (OpenSpec.ofChange shardFullSpec)

/-- ITS FALSE NEIGHBOUR: 'it returns false'. Refute it at one input. -/
def shardFullWrong : ChangeSpec := { name := "shardFull", fn := fun _ => fun
  | [d1, d2] => { results := [.lit (.bool false)], args := [d1, d2] }
  | _ => none }
def ShardFullWrongFalsely : Prop := shardFullRow.holds Try.pinned (OpenSpec.ofChange shardFullWrong)

/-- 'carrefourlaw12.ShardLocks': WHATEVER THE INPUT: true; the input reads as it did. -/
def shardLocksSpec : ChangeSpec := { name := "shardLocks", fn := fun _ => fun
  | [d1, d2] => { results := [.lit (.bool true)], args := [d1, d2] }
  | _ => none }
def shardLocksRow : OpenClaim := { program := "ytgnklbdbglnmaaa", sum := "87e7507de992345d39edfeff158c56d0d2a1c022519faa939334f815101332c0", func := "carrefour/carrefourlaw12.ShardLocks", spec := "shardLocks", inPlace := ["slices.overlaps[carrefour/api.Msg]"], unfollowed := true, recurses := true, plainKeys := false, apart := false }
def ShardLocksSaid : Prop := shardLocksRow.holds Try.pinned (OpenSpec.ofChange shardLocksSpec)

/-- ITS FALSE NEIGHBOUR: 'it returns false'. Refute it at one input. -/
def shardLocksWrong : ChangeSpec := { name := "shardLocks", fn := fun _ => fun
  | [d1, d2] => { results := [.lit (.bool false)], args := [d1, d2] }
  | _ => none }
def ShardLocksWrongFalsely : Prop := shardLocksRow.holds Try.pinned (OpenSpec.ofChange shardLocksWrong)

/-- 'carrefourlaw12.ShardPlays': WHATEVER THE INPUT: true; the input reads as it did. -/
def shardPlaysSpec : ChangeSpec := { name := "shardPlays", fn := fun _ => fun
  | [d] => { results := [.lit (.bool true)], args := [d] }
  | _ => none }
def shardPlaysRow : OpenClaim := { program := "ytgnklbdbglnmaaa", sum := "87e7507de992345d39edfeff158c56d0d2a1c022519faa939334f815101332c0", func := "carrefour/carrefourlaw12.ShardPlays", spec := "shardPlays", inPlace := ["slices.overlaps[carrefour/api.Msg]"], unfollowed := true, recurses := true, plainKeys := false, apart := false }
def ShardPlaysSaid : Prop := shardPlaysRow.holds Try.pinned (OpenSpec.ofChange shardPlaysSpec)

/-- ITS FALSE NEIGHBOUR: 'it returns false'. Refute it at one input. -/
def shardPlaysWrong : ChangeSpec := { name := "shardPlays", fn := fun _ => fun
  | [d] => { results := [.lit (.bool false)], args := [d] }
  | _ => none }
def ShardPlaysWrongFalsely : Prop := shardPlaysRow.holds Try.pinned (OpenSpec.ofChange shardPlaysWrong)

/-- 'carrefourlaw12.ShardTags': WHATEVER THE INPUT: true; the input reads as it did. -/
def shardTagsSpec : ChangeSpec := { name := "shardTags", fn := fun _ => fun
  | [d] => { results := [.lit (.bool true)], args := [d] }
  | _ => none }
def shardTagsRow : OpenClaim := { program := "ytgnklbdbglnmaaa", sum := "87e7507de992345d39edfeff158c56d0d2a1c022519faa939334f815101332c0", func := "carrefour/carrefourlaw12.ShardTags", spec := "shardTags", inPlace := ["slices.overlaps[carrefour/api.Msg]"], unfollowed := true, recurses := true, plainKeys := false, apart := false }
def ShardTagsSaid : Prop := shardTagsRow.holds Try.pinned (OpenSpec.ofChange shardTagsSpec)

/-- ITS FALSE NEIGHBOUR: 'it returns false'. Refute it at one input. -/
def shardTagsWrong : ChangeSpec := { name := "shardTags", fn := fun _ => fun
  | [d] => { results := [.lit (.bool false)], args := [d] }
  | _ => none }
def ShardTagsWrongFalsely : Prop := shardTagsRow.holds Try.pinned (OpenSpec.ofChange shardTagsWrong)

/-- 'carrefourlaw12.ShardFrozen': WHATEVER THE INPUT: true; the input reads as it did. -/
def shardFrozenSpec : ChangeSpec := { name := "shardFrozen", fn := fun _ => fun
  | [d1, d2] => { results := [.lit (.bool true)], args := [d1, d2] }
  | _ => none }
def shardFrozenRow : OpenClaim := { program := "ytgnklbdbglnmaaa", sum := "87e7507de992345d39edfeff158c56d0d2a1c022519faa939334f815101332c0", func := "carrefour/carrefourlaw12.ShardFrozen", spec := "shardFrozen", inPlace := ["slices.overlaps[carrefour/api.Msg]"], unfollowed := true, recurses := true, plainKeys := false, apart := false }
def ShardFrozenSaid : Prop := shardFrozenRow.holds Try.pinned (OpenSpec.ofChange shardFrozenSpec)

/-- ITS FALSE NEIGHBOUR: 'it returns false'. Refute it at one input. -/
def shardFrozenWrong : ChangeSpec := { name := "shardFrozen", fn := fun _ => fun
  | [d1, d2] => { results := [.lit (.bool false)], args := [d1, d2] }
  | _ => none }
def ShardFrozenWrongFalsely : Prop := shardFrozenRow.holds Try.pinned (OpenSpec.ofChange shardFrozenWrong)

/-- 'carrefourlaw12.ShardParts': WHATEVER THE INPUT: true; the input reads as it did. -/
def shardPartsSpec : ChangeSpec := { name := "shardParts", fn := fun _ => fun
  | [d1, d2] => { results := [.lit (.bool true)], args := [d1, d2] }
  | _ => none }
def shardPartsRow : OpenClaim := { program := "ytgnklbdbglnmaaa", sum := "87e7507de992345d39edfeff158c56d0d2a1c022519faa939334f815101332c0", func := "carrefour/carrefourlaw12.ShardParts", spec := "shardParts", inPlace := ["slices.overlaps[carrefour/api.Msg]"], unfollowed := true, recurses := true, plainKeys := false, apart := false }
def ShardPartsSaid : Prop := shardPartsRow.holds Try.pinned (OpenSpec.ofChange shardPartsSpec)

/-- ITS FALSE NEIGHBOUR: 'it returns false'. Refute it at one input. -/
def shardPartsWrong : ChangeSpec := { name := "shardParts", fn := fun _ => fun
  | [d1, d2] => { results := [.lit (.bool false)], args := [d1, d2] }
  | _ => none }
def ShardPartsWrongFalsely : Prop := shardPartsRow.holds Try.pinned (OpenSpec.ofChange shardPartsWrong)

/-- 'carrefourlaw12.ShardAsks': WHATEVER THE INPUT: true; the input reads as it did. -/
def shardAsksSpec : ChangeSpec := { name := "shardAsks", fn := fun _ => fun
  | [d1, d2, d3, d4, d5, d6] => { results := [.lit (.bool true)], args := [d1, d2, d3, d4, d5, d6] }
  | _ => none }
def shardAsksRow : OpenClaim := { program := "ytgnklbdbglnmaaa", sum := "87e7507de992345d39edfeff158c56d0d2a1c022519faa939334f815101332c0", func := "carrefour/carrefourlaw12.ShardAsks", spec := "shardAsks", inPlace := ["slices.overlaps[carrefour/api.Msg]"], unfollowed := true, recurses := true, plainKeys := false, apart := false }
def ShardAsksSaid : Prop := shardAsksRow.holds Try.pinned (OpenSpec.ofChange shardAsksSpec)

/-- ITS FALSE NEIGHBOUR: 'it returns false'. Refute it at one input. -/
def shardAsksWrong : ChangeSpec := { name := "shardAsks", fn := fun _ => fun
  | [d1, d2, d3, d4, d5, d6] => { results := [.lit (.bool false)], args := [d1, d2, d3, d4, d5, d6] }
  | _ => none }
def ShardAsksWrongFalsely : Prop := shardAsksRow.holds Try.pinned (OpenSpec.ofChange shardAsksWrong)

/-- 'carrefourlaw13.BatchAcks': WHATEVER THE INPUT: true; the input reads as it did. -/
def batchAcksSpec : ChangeSpec := { name := "batchAcks", fn := fun _ => fun
  | [d1, d2] => { results := [.lit (.bool true)], args := [d1, d2] }
  | _ => none }
def batchAcksRow : OpenClaim := { program := "ytgnklbdbglnmaaa", sum := "87e7507de992345d39edfeff158c56d0d2a1c022519faa939334f815101332c0", func := "carrefour/carrefourlaw13.BatchAcks", spec := "batchAcks", inPlace := ["slices.overlaps[carrefour/api.Msg]"], unfollowed := true, recurses := true, plainKeys := false, apart := false }
def BatchAcksSaid : Prop := batchAcksRow.holds Try.pinned (OpenSpec.ofChange batchAcksSpec)

/-- ITS FALSE NEIGHBOUR: 'it returns false'. Refute it at one input. -/
def batchAcksWrong : ChangeSpec := { name := "batchAcks", fn := fun _ => fun
  | [d1, d2] => { results := [.lit (.bool false)], args := [d1, d2] }
  | _ => none }
def BatchAcksWrongFalsely : Prop := batchAcksRow.holds Try.pinned (OpenSpec.ofChange batchAcksWrong)

/- THE SECOND FORM. 'bulk': how many values and letters a reading holds, each counted each time it is reached (what is shared counts as often as it is met; a slice's spare places count too). A statement '..UptoSaid' is the law's where the arguments, and the package variables that the reading takes, are together of bulk at most 1048576: NARROWER than '..Said'. Prove '..Said' where nothing that the law and all that it calls make is longer than what came in: it says more and counts as full. Else prove '..UptoSaid'. A law counts once. -/
mutual
def uptoBulk {H : Type} : DataW H → Nat
  | .lit (.string bytes) => bytes.length + 1
  | .lit _ => 1
  | .nil => 1
  | .ptr d => uptoBulk d + 1
  | .slice elems spare => uptoBulkAll elems + uptoBulkAll spare + 1
  | .agg parts => uptoBulkAll parts + 1
  | .iface _ d => uptoBulk d + 1
  | .map entries => uptoBulkEntries entries + 1
  | .held _ => 1
def uptoBulkAll {H : Type} : List (DataW H) → Nat
  | [] => 0
  | d :: r => uptoBulk d + uptoBulkAll r
def uptoBulkEntries {H : Type} : List (Lit × DataW H) → Nat
  | [] => 0
  | x :: r => uptoBulkEntry x + uptoBulkEntries r
def uptoBulkEntry {H : Type} : Lit × DataW H → Nat
  | (.string bytes, d) => bytes.length + uptoBulk d + 1
  | (_, d) => uptoBulk d + 1
 end
def uptoSmall : (H : Type) → List (DataW H) → Bool := fun _ ds => decide (uptoBulkAll ds ≤ 1048576)
def OpenSpec.upto (s : _root_.Go.ChangeSpec) : _root_.Go.OpenSpec := { _root_.Go.OpenSpec.ofChange s with cond := some uptoSmall }

/-- 'carrefourlaw13.BatchNext', WHERE WHAT IT READS IS OF BULK AT MOST 1048576: true; the input reads as it did. -/
def batchNextUptoRow : OpenClaim := { program := "ytgnklbdbglnmaaa", sum := "87e7507de992345d39edfeff158c56d0d2a1c022519faa939334f815101332c0", func := "carrefour/carrefourlaw13.BatchNext", spec := "batchNext", unfollowed := true, recurses := true, plainKeys := false, apart := false, narrowed := true }
def BatchNextUptoSaid : Prop := batchNextUptoRow.holds Try.pinned (OpenSpec.upto batchNextSpec)

/-- 'carrefourlaw12.ShardOrder', WHERE WHAT IT READS IS OF BULK AT MOST 1048576: true; the input reads as it did. -/
def shardOrderUptoRow : OpenClaim := { program := "ytgnklbdbglnmaaa", sum := "87e7507de992345d39edfeff158c56d0d2a1c022519faa939334f815101332c0", func := "carrefour/carrefourlaw12.ShardOrder", spec := "shardOrder", inPlace := ["slices.overlaps[carrefour/api.Msg]"], unfollowed := true, recurses := true, plainKeys := false, apart := false, narrowed := true }
def ShardOrderUptoSaid : Prop := shardOrderUptoRow.holds Try.pinned (OpenSpec.upto shardOrderSpec)

/-- 'carrefourlaw12.ShardFull', WHERE WHAT IT READS IS OF BULK AT MOST 1048576: true; the input reads as it did. -/
def shardFullUptoRow : OpenClaim := { program := "ytgnklbdbglnmaaa", sum := "87e7507de992345d39edfeff158c56d0d2a1c022519faa939334f815101332c0", func := "carrefour/carrefourlaw12.ShardFull", spec := "shardFull", inPlace := ["slices.overlaps[carrefour/api.Msg]"], unfollowed := true, recurses := true, plainKeys := false, apart := false, narrowed := true }
def ShardFullUptoSaid : Prop := shardFullUptoRow.holds Try.pinned (OpenSpec.upto shardFullSpec)

/-- 'carrefourlaw12.ShardLocks', WHERE WHAT IT READS IS OF BULK AT MOST 1048576: true; the input reads as it did. -/
def shardLocksUptoRow : OpenClaim := { program := "ytgnklbdbglnmaaa", sum := "87e7507de992345d39edfeff158c56d0d2a1c022519faa939334f815101332c0", func := "carrefour/carrefourlaw12.ShardLocks", spec := "shardLocks", inPlace := ["slices.overlaps[carrefour/api.Msg]"], unfollowed := true, recurses := true, plainKeys := false, apart := false, narrowed := true }
def ShardLocksUptoSaid : Prop := shardLocksUptoRow.holds Try.pinned (OpenSpec.upto shardLocksSpec)

/-- 'carrefourlaw12.ShardPlays', WHERE WHAT IT READS IS OF BULK AT MOST 1048576: true; the input reads as it did. -/
def shardPlaysUptoRow : OpenClaim := { program := "ytgnklbdbglnmaaa", sum := "87e7507de992345d39edfeff158c56d0d2a1c022519faa939334f815101332c0", func := "carrefour/carrefourlaw12.ShardPlays", spec := "shardPlays", inPlace := ["slices.overlaps[carrefour/api.Msg]"], unfollowed := true, recurses := true, plainKeys := false, apart := false, narrowed := true }
def ShardPlaysUptoSaid : Prop := shardPlaysUptoRow.holds Try.pinned (OpenSpec.upto shardPlaysSpec)

/-- 'carrefourlaw12.ShardTags', WHERE WHAT IT READS IS OF BULK AT MOST 1048576: true; the input reads as it did. -/
def shardTagsUptoRow : OpenClaim := { program := "ytgnklbdbglnmaaa", sum := "87e7507de992345d39edfeff158c56d0d2a1c022519faa939334f815101332c0", func := "carrefour/carrefourlaw12.ShardTags", spec := "shardTags", inPlace := ["slices.overlaps[carrefour/api.Msg]"], unfollowed := true, recurses := true, plainKeys := false, apart := false, narrowed := true }
def ShardTagsUptoSaid : Prop := shardTagsUptoRow.holds Try.pinned (OpenSpec.upto shardTagsSpec)

/-- 'carrefourlaw12.ShardFrozen', WHERE WHAT IT READS IS OF BULK AT MOST 1048576: true; the input reads as it did. -/
def shardFrozenUptoRow : OpenClaim := { program := "ytgnklbdbglnmaaa", sum := "87e7507de992345d39edfeff158c56d0d2a1c022519faa939334f815101332c0", func := "carrefour/carrefourlaw12.ShardFrozen", spec := "shardFrozen", inPlace := ["slices.overlaps[carrefour/api.Msg]"], unfollowed := true, recurses := true, plainKeys := false, apart := false, narrowed := true }
def ShardFrozenUptoSaid : Prop := shardFrozenUptoRow.holds Try.pinned (OpenSpec.upto shardFrozenSpec)

/-- 'carrefourlaw12.ShardParts', WHERE WHAT IT READS IS OF BULK AT MOST 1048576: true; the input reads as it did. -/
def shardPartsUptoRow : OpenClaim := { program := "ytgnklbdbglnmaaa", sum := "87e7507de992345d39edfeff158c56d0d2a1c022519faa939334f815101332c0", func := "carrefour/carrefourlaw12.ShardParts", spec := "shardParts", inPlace := ["slices.overlaps[carrefour/api.Msg]"], unfollowed := true, recurses := true, plainKeys := false, apart := false, narrowed := true }
def ShardPartsUptoSaid : Prop := shardPartsUptoRow.holds Try.pinned (OpenSpec.upto shardPartsSpec)

/-- 'carrefourlaw12.ShardAsks', WHERE WHAT IT READS IS OF BULK AT MOST 1048576: true; the input reads as it did. -/
def shardAsksUptoRow : OpenClaim := { program := "ytgnklbdbglnmaaa", sum := "87e7507de992345d39edfeff158c56d0d2a1c022519faa939334f815101332c0", func := "carrefour/carrefourlaw12.ShardAsks", spec := "shardAsks", inPlace := ["slices.overlaps[carrefour/api.Msg]"], unfollowed := true, recurses := true, plainKeys := false, apart := false, narrowed := true }
def ShardAsksUptoSaid : Prop := shardAsksUptoRow.holds Try.pinned (OpenSpec.upto shardAsksSpec)

/-- 'carrefourlaw13.BatchAcks', WHERE WHAT IT READS IS OF BULK AT MOST 1048576: true; the input reads as it did. -/
def batchAcksUptoRow : OpenClaim := { program := "ytgnklbdbglnmaaa", sum := "87e7507de992345d39edfeff158c56d0d2a1c022519faa939334f815101332c0", func := "carrefour/carrefourlaw13.BatchAcks", spec := "batchAcks", inPlace := ["slices.overlaps[carrefour/api.Msg]"], unfollowed := true, recurses := true, plainKeys := false, apart := false, narrowed := true }
def BatchAcksUptoSaid : Prop := batchAcksUptoRow.holds Try.pinned (OpenSpec.upto batchAcksSpec)

end Rows
end Go.Proofs.Ytgnklbdbglnmaaa
