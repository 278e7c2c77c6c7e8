/-
  DERIVED. GIVEN WITH THE SEED: THE CARDS: each row of YtglmdoghknpgkaaDoorRows.lean that lists a variable, with what it lists TIED to the program's text (the seventh form; the later family's looks); each row that meets fmt, with fmt's text TOLD by the authors' own Lean function (tested against real Go, not proved from fmt's source: count such statements apart). THE CARD IS WHAT COUNTS. Prove the row's statement (the work); the ties are given (YtglmdoghknpgkaaDoorTie.lean); close each card by the builder's one call (the guide's Derived/Test/ToyasCard.lean, 'card_holds'). Laid BY PROGRAM, IN A SANDBOX (cutbox-door.mjs). By AI agents, Wed Nov 11 2026. No macro, syntax, notation, axiom, sorry.
-/
import Derived.Test.YtglmdoghknpgkaaDoorRows
import GoSem.ClaimSeven
namespace Go.Proofs.YtglmdoghknpgkaaDoor
namespace Rows

/-- THE TIED CARD OF 'carrefourlaw2.PointWays'. -/
def pointWaysCard : Claim7 := { stood := { row := pointWaysRow, standIns := [], harness := (true, "f34bb7e90be5c5f8e79c6adb6bd00720bcadaf92baa93f4e8a0714f5a662e37d"), looks := false }, kinds := [], alts := [], laidByText := true, laidKinds := [.data, .data, .data], laidTests := true, laidLooks := .later }
def PointWaysCardSaid : Prop := Claim7.holds Tryd.pinned (.plain (OpenSpec.ofChange pointWaysSpec)) pointWaysCard

/-- THE TIED CARD OF 'carrefourlaw2.PointDirs'. -/
def pointDirsCard : Claim7 := { stood := { row := pointDirsRow, standIns := [], harness := (true, "f34bb7e90be5c5f8e79c6adb6bd00720bcadaf92baa93f4e8a0714f5a662e37d"), looks := false }, kinds := [], alts := [], laidByText := true, laidKinds := [.data, .data, .data], laidTests := true, laidLooks := .later }
def PointDirsCardSaid : Prop := Claim7.holds Tryd.pinned (.plain (OpenSpec.ofChange pointDirsSpec)) pointDirsCard

/-- THE TIED CARD OF 'carrefourlaw2.PointAsks'. -/
def pointAsksCard : Claim7 := { stood := { row := pointAsksRow, standIns := [], harness := (true, "f34bb7e90be5c5f8e79c6adb6bd00720bcadaf92baa93f4e8a0714f5a662e37d"), looks := false }, kinds := [], alts := [], laidByText := true, laidKinds := [.data, .data, .data], laidTests := true, laidLooks := .later }
def PointAsksCardSaid : Prop := Claim7.holds Tryd.pinned (.plain (OpenSpec.ofChange pointAsksSpec)) pointAsksCard

/-- THE TIED CARD OF 'carrefourlaw2.PointLeans'. -/
def pointLeansCard : Claim7 := { stood := { row := pointLeansRow, standIns := [], harness := (true, "f34bb7e90be5c5f8e79c6adb6bd00720bcadaf92baa93f4e8a0714f5a662e37d"), looks := false }, kinds := [], alts := [], laidByText := true, laidKinds := [.data, .data, .data], laidTests := true, laidLooks := .later }
def PointLeansCardSaid : Prop := Claim7.holds Tryd.pinned (.plain (OpenSpec.ofChange pointLeansSpec)) pointLeansCard

/-- THE SECOND FORM's CARD OF 'carrefourlaw2.PointWays'. -/
def pointWaysUptoCard : Claim7 := { stood := { row := pointWaysUptoRow, standIns := [], harness := (true, "f34bb7e90be5c5f8e79c6adb6bd00720bcadaf92baa93f4e8a0714f5a662e37d"), looks := false }, kinds := [], alts := [], laidByText := true, laidKinds := [.data, .data, .data], laidTests := true, laidLooks := .later }
def PointWaysUptoCardSaid : Prop := Claim7.holds Tryd.pinned (.plain (OpenSpec.upto pointWaysSpec)) pointWaysUptoCard

/-- THE SECOND FORM's CARD OF 'carrefourlaw2.PointDirs'. -/
def pointDirsUptoCard : Claim7 := { stood := { row := pointDirsUptoRow, standIns := [], harness := (true, "f34bb7e90be5c5f8e79c6adb6bd00720bcadaf92baa93f4e8a0714f5a662e37d"), looks := false }, kinds := [], alts := [], laidByText := true, laidKinds := [.data, .data, .data], laidTests := true, laidLooks := .later }
def PointDirsUptoCardSaid : Prop := Claim7.holds Tryd.pinned (.plain (OpenSpec.upto pointDirsSpec)) pointDirsUptoCard

/-- THE SECOND FORM's CARD OF 'carrefourlaw2.PointAsks'. -/
def pointAsksUptoCard : Claim7 := { stood := { row := pointAsksUptoRow, standIns := [], harness := (true, "f34bb7e90be5c5f8e79c6adb6bd00720bcadaf92baa93f4e8a0714f5a662e37d"), looks := false }, kinds := [], alts := [], laidByText := true, laidKinds := [.data, .data, .data], laidTests := true, laidLooks := .later }
def PointAsksUptoCardSaid : Prop := Claim7.holds Tryd.pinned (.plain (OpenSpec.upto pointAsksSpec)) pointAsksUptoCard

/-- THE SECOND FORM's CARD OF 'carrefourlaw2.PointLeans'. -/
def pointLeansUptoCard : Claim7 := { stood := { row := pointLeansUptoRow, standIns := [], harness := (true, "f34bb7e90be5c5f8e79c6adb6bd00720bcadaf92baa93f4e8a0714f5a662e37d"), looks := false }, kinds := [], alts := [], laidByText := true, laidKinds := [.data, .data, .data], laidTests := true, laidLooks := .later }
def PointLeansUptoCardSaid : Prop := Claim7.holds Tryd.pinned (.plain (OpenSpec.upto pointLeansSpec)) pointLeansUptoCard
end Rows
end Go.Proofs.YtglmdoghknpgkaaDoor
