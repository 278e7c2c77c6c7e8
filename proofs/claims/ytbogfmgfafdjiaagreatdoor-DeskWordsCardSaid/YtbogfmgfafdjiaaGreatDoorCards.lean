/-
  DERIVED. GIVEN WITH THE SEED: THE CARDS: each row of YtbogfmgfafdjiaaGreatDoorRows.lean that lists a variable, with what it lists TIED to the program's text (the seventh form; the later family's looks); each row that meets fmt, with fmt's text TOLD by the authors' own Lean function (tested against real Go, not proved from fmt's source: count such statements apart). THE CARD IS WHAT COUNTS. Prove the row's statement (the work); the ties are given (YtbogfmgfafdjiaaGreatDoorTie.lean); close each card by the builder's one call (the guide's Derived/Test/ToyasCard.lean, 'card_holds'). Laid BY PROGRAM, IN A SANDBOX (cutbox-door.mjs). By AI agents, Wed Nov 11 2026. No macro, syntax, notation, axiom, sorry.
-/
import Derived.Test.YtbogfmgfafdjiaaGreatDoorRows
import GoSem.ClaimSeven
namespace Go.Proofs.YtbogfmgfafdjiaaGreatDoor
namespace Rows

/-- THE TIED CARD OF 'carrefourlaw25.DeskLong'. -/
def deskLongCard : Claim7 := { stood := { row := deskLongRow, standIns := [], harness := (true, "b92231399eebe8a09d20187b74b7e0e4b93e6481acfac078302c7b5f51f78605"), looks := true }, kinds := [], alts := [], laidByText := true, laidKinds := [.data, .data, .data, .data, .sentinel, .sentinel, .pinned], laidTests := true, laidLooks := .later }
def DeskLongCardSaid : Prop := Claim7.holds Tryz.pinned (.plain (OpenSpec.ofChange deskLongSpec)) deskLongCard

/-- THE TIED CARD OF 'carrefourlaw25.DeskWords'. -/
def deskWordsCard : Claim7 := { stood := { row := deskWordsRow, standIns := [], harness := (true, "b92231399eebe8a09d20187b74b7e0e4b93e6481acfac078302c7b5f51f78605"), looks := true }, kinds := [], alts := [], laidByText := true, laidKinds := [.data, .data, .data, .data, .sentinel, .sentinel, .pinned], laidTests := true, laidLooks := .later }
def DeskWordsCardSaid : Prop := Claim7.holds Tryz.pinned (.plain (OpenSpec.ofChange deskWordsSpec)) deskWordsCard

/-- THE TIED CARD OF 'carrefourlaw23.WorldNobody'. -/
def worldNobodyCard : Claim7 := { stood := { row := worldNobodyRow, standIns := [], harness := (true, "b92231399eebe8a09d20187b74b7e0e4b93e6481acfac078302c7b5f51f78605"), looks := true }, kinds := [], alts := [], laidByText := true, laidKinds := [.data, .data, .data], laidTests := true, laidLooks := .later }
def WorldNobodyCardSaid : Prop := Claim7.holds Tryz.pinned (.plain (OpenSpec.ofChange worldNobodySpec)) worldNobodyCard

/-- THE SECOND FORM's CARD OF 'carrefourlaw25.DeskLong'. -/
def deskLongUptoCard : Claim7 := { stood := { row := deskLongUptoRow, standIns := [], harness := (true, "b92231399eebe8a09d20187b74b7e0e4b93e6481acfac078302c7b5f51f78605"), looks := true }, kinds := [], alts := [], laidByText := true, laidKinds := [.data, .data, .data, .data, .sentinel, .sentinel, .pinned], laidTests := true, laidLooks := .later }
def DeskLongUptoCardSaid : Prop := Claim7.holds Tryz.pinned (.plain (OpenSpec.upto deskLongSpec)) deskLongUptoCard

/-- THE SECOND FORM's CARD OF 'carrefourlaw25.DeskWords'. -/
def deskWordsUptoCard : Claim7 := { stood := { row := deskWordsUptoRow, standIns := [], harness := (true, "b92231399eebe8a09d20187b74b7e0e4b93e6481acfac078302c7b5f51f78605"), looks := true }, kinds := [], alts := [], laidByText := true, laidKinds := [.data, .data, .data, .data, .sentinel, .sentinel, .pinned], laidTests := true, laidLooks := .later }
def DeskWordsUptoCardSaid : Prop := Claim7.holds Tryz.pinned (.plain (OpenSpec.upto deskWordsSpec)) deskWordsUptoCard

/-- THE SECOND FORM's CARD OF 'carrefourlaw23.WorldNobody'. -/
def worldNobodyUptoCard : Claim7 := { stood := { row := worldNobodyUptoRow, standIns := [], harness := (true, "b92231399eebe8a09d20187b74b7e0e4b93e6481acfac078302c7b5f51f78605"), looks := true }, kinds := [], alts := [], laidByText := true, laidKinds := [.data, .data, .data], laidTests := true, laidLooks := .later }
def WorldNobodyUptoCardSaid : Prop := Claim7.holds Tryz.pinned (.plain (OpenSpec.upto worldNobodySpec)) worldNobodyUptoCard
end Rows
end Go.Proofs.YtbogfmgfafdjiaaGreatDoor
