/-
  DERIVED. GIVEN WITH THE SEED: THE CARDS: each row of YtlgdjmmjconbfaaDoorRows.lean that lists a variable, with what it lists TIED to the program's text (the seventh form; the later family's looks); each row that meets fmt, with fmt's text TOLD by the authors' own Lean function (tested against real Go, not proved from fmt's source: count such statements apart). THE CARD IS WHAT COUNTS. Prove the row's statement (the work); the ties are given (YtlgdjmmjconbfaaDoorTie.lean); close each card by the builder's one call (the guide's Derived/Test/ToyasCard.lean, 'card_holds'). Laid BY PROGRAM, IN A SANDBOX (cutbox-door.mjs). By AI agents, Wed Nov 11 2026. No macro, syntax, notation, axiom, sorry.
-/
import Derived.Test.YtlgdjmmjconbfaaDoorRows
import GoSem.ClaimSeven
namespace Go.Proofs.YtlgdjmmjconbfaaDoor
namespace Rows

/-- THE TIED CARD OF 'carrefourlaw9.RingBuilds'. -/
def ringBuildsCard : Claim7 := { stood := { row := ringBuildsRow, standIns := [], harness := (true, "dcedaedc93d7265410a9637dedf4c9e6961e1192d047b98a91dd985a391fc9e1"), looks := false }, kinds := [], alts := [], laidByText := true, laidKinds := [.data, .data, .data], laidTests := true, laidLooks := .later }
def RingBuildsCardSaid : Prop := Claim7.holds Tryd.pinned (.plain (OpenSpec.ofChange ringBuildsSpec)) ringBuildsCard

/-- THE TIED CARD OF 'carrefourlaw9.RingWhole'. -/
def ringWholeCard : Claim7 := { stood := { row := ringWholeRow, standIns := [], harness := (true, "dcedaedc93d7265410a9637dedf4c9e6961e1192d047b98a91dd985a391fc9e1"), looks := false }, kinds := [], alts := [], laidByText := true, laidKinds := [.data, .data, .data], laidTests := true, laidLooks := .later }
def RingWholeCardSaid : Prop := Claim7.holds Tryd.pinned (.plain (OpenSpec.ofChange ringWholeSpec)) ringWholeCard

/-- THE TIED CARD OF 'carrefourlaw9.RingHalves'. -/
def ringHalvesCard : Claim7 := { stood := { row := ringHalvesRow, standIns := [], harness := (true, "dcedaedc93d7265410a9637dedf4c9e6961e1192d047b98a91dd985a391fc9e1"), looks := false }, kinds := [], alts := [], laidByText := true, laidKinds := [.data, .data, .data], laidTests := true, laidLooks := .later }
def RingHalvesCardSaid : Prop := Claim7.holds Tryd.pinned (.plain (OpenSpec.ofChange ringHalvesSpec)) ringHalvesCard

/-- THE TIED CARD OF 'carrefourlaw9.RingStays'. -/
def ringStaysCard : Claim7 := { stood := { row := ringStaysRow, standIns := [], harness := (true, "dcedaedc93d7265410a9637dedf4c9e6961e1192d047b98a91dd985a391fc9e1"), looks := false }, kinds := [], alts := [], laidByText := true, laidKinds := [.data, .data, .data], laidTests := true, laidLooks := .later }
def RingStaysCardSaid : Prop := Claim7.holds Tryd.pinned (.plain (OpenSpec.ofChange ringStaysSpec)) ringStaysCard

/-- THE TIED CARD OF 'carrefourlaw9.RingScans'. -/
def ringScansCard : Claim7 := { stood := { row := ringScansRow, standIns := [], harness := (true, "dcedaedc93d7265410a9637dedf4c9e6961e1192d047b98a91dd985a391fc9e1"), looks := false }, kinds := [], alts := [], laidByText := true, laidKinds := [.data, .data, .data], laidTests := true, laidLooks := .later }
def RingScansCardSaid : Prop := Claim7.holds Tryd.pinned (.plain (OpenSpec.ofChange ringScansSpec)) ringScansCard

/-- THE TIED CARD OF 'carrefourlaw9.RingQuarters'. -/
def ringQuartersCard : Claim7 := { stood := { row := ringQuartersRow, standIns := [], harness := (true, "dcedaedc93d7265410a9637dedf4c9e6961e1192d047b98a91dd985a391fc9e1"), looks := false }, kinds := [], alts := [], laidByText := true, laidKinds := [.data, .data, .data], laidTests := true, laidLooks := .later }
def RingQuartersCardSaid : Prop := Claim7.holds Tryd.pinned (.plain (OpenSpec.ofChange ringQuartersSpec)) ringQuartersCard

/-- THE TIED CARD OF 'carrefourlaw9.RingAsks'. -/
def ringAsksCard : Claim7 := { stood := { row := ringAsksRow, standIns := [], harness := (true, "dcedaedc93d7265410a9637dedf4c9e6961e1192d047b98a91dd985a391fc9e1"), looks := false }, kinds := [], alts := [], laidByText := true, laidKinds := [.data, .data, .data], laidTests := true, laidLooks := .later }
def RingAsksCardSaid : Prop := Claim7.holds Tryd.pinned (.plain (OpenSpec.ofChange ringAsksSpec)) ringAsksCard

/-- THE TIED CARD OF 'carrefourlaw10.TableNews'. -/
def tableNewsCard : Claim7 := { stood := { row := tableNewsRow, standIns := [], harness := (true, "dcedaedc93d7265410a9637dedf4c9e6961e1192d047b98a91dd985a391fc9e1"), looks := false }, kinds := [], alts := [], laidByText := true, laidKinds := [.data, .data, .data], laidTests := true, laidLooks := .later }
def TableNewsCardSaid : Prop := Claim7.holds Tryd.pinned (.plain (OpenSpec.ofChange tableNewsSpec)) tableNewsCard

/-- THE TIED CARD OF 'carrefourlaw10.TableBack'. -/
def tableBackCard : Claim7 := { stood := { row := tableBackRow, standIns := [], harness := (true, "dcedaedc93d7265410a9637dedf4c9e6961e1192d047b98a91dd985a391fc9e1"), looks := false }, kinds := [], alts := [], laidByText := true, laidKinds := [.data, .data, .data], laidTests := true, laidLooks := .later }
def TableBackCardSaid : Prop := Claim7.holds Tryd.pinned (.plain (OpenSpec.ofChange tableBackSpec)) tableBackCard

/-- THE SECOND FORM's CARD OF 'carrefourlaw9.RingBuilds'. -/
def ringBuildsUptoCard : Claim7 := { stood := { row := ringBuildsUptoRow, standIns := [], harness := (true, "dcedaedc93d7265410a9637dedf4c9e6961e1192d047b98a91dd985a391fc9e1"), looks := false }, kinds := [], alts := [], laidByText := true, laidKinds := [.data, .data, .data], laidTests := true, laidLooks := .later }
def RingBuildsUptoCardSaid : Prop := Claim7.holds Tryd.pinned (.plain (OpenSpec.upto ringBuildsSpec)) ringBuildsUptoCard

/-- THE SECOND FORM's CARD OF 'carrefourlaw9.RingWhole'. -/
def ringWholeUptoCard : Claim7 := { stood := { row := ringWholeUptoRow, standIns := [], harness := (true, "dcedaedc93d7265410a9637dedf4c9e6961e1192d047b98a91dd985a391fc9e1"), looks := false }, kinds := [], alts := [], laidByText := true, laidKinds := [.data, .data, .data], laidTests := true, laidLooks := .later }
def RingWholeUptoCardSaid : Prop := Claim7.holds Tryd.pinned (.plain (OpenSpec.upto ringWholeSpec)) ringWholeUptoCard

/-- THE SECOND FORM's CARD OF 'carrefourlaw9.RingHalves'. -/
def ringHalvesUptoCard : Claim7 := { stood := { row := ringHalvesUptoRow, standIns := [], harness := (true, "dcedaedc93d7265410a9637dedf4c9e6961e1192d047b98a91dd985a391fc9e1"), looks := false }, kinds := [], alts := [], laidByText := true, laidKinds := [.data, .data, .data], laidTests := true, laidLooks := .later }
def RingHalvesUptoCardSaid : Prop := Claim7.holds Tryd.pinned (.plain (OpenSpec.upto ringHalvesSpec)) ringHalvesUptoCard

/-- THE SECOND FORM's CARD OF 'carrefourlaw9.RingStays'. -/
def ringStaysUptoCard : Claim7 := { stood := { row := ringStaysUptoRow, standIns := [], harness := (true, "dcedaedc93d7265410a9637dedf4c9e6961e1192d047b98a91dd985a391fc9e1"), looks := false }, kinds := [], alts := [], laidByText := true, laidKinds := [.data, .data, .data], laidTests := true, laidLooks := .later }
def RingStaysUptoCardSaid : Prop := Claim7.holds Tryd.pinned (.plain (OpenSpec.upto ringStaysSpec)) ringStaysUptoCard

/-- THE SECOND FORM's CARD OF 'carrefourlaw9.RingScans'. -/
def ringScansUptoCard : Claim7 := { stood := { row := ringScansUptoRow, standIns := [], harness := (true, "dcedaedc93d7265410a9637dedf4c9e6961e1192d047b98a91dd985a391fc9e1"), looks := false }, kinds := [], alts := [], laidByText := true, laidKinds := [.data, .data, .data], laidTests := true, laidLooks := .later }
def RingScansUptoCardSaid : Prop := Claim7.holds Tryd.pinned (.plain (OpenSpec.upto ringScansSpec)) ringScansUptoCard

/-- THE SECOND FORM's CARD OF 'carrefourlaw9.RingQuarters'. -/
def ringQuartersUptoCard : Claim7 := { stood := { row := ringQuartersUptoRow, standIns := [], harness := (true, "dcedaedc93d7265410a9637dedf4c9e6961e1192d047b98a91dd985a391fc9e1"), looks := false }, kinds := [], alts := [], laidByText := true, laidKinds := [.data, .data, .data], laidTests := true, laidLooks := .later }
def RingQuartersUptoCardSaid : Prop := Claim7.holds Tryd.pinned (.plain (OpenSpec.upto ringQuartersSpec)) ringQuartersUptoCard

/-- THE SECOND FORM's CARD OF 'carrefourlaw9.RingAsks'. -/
def ringAsksUptoCard : Claim7 := { stood := { row := ringAsksUptoRow, standIns := [], harness := (true, "dcedaedc93d7265410a9637dedf4c9e6961e1192d047b98a91dd985a391fc9e1"), looks := false }, kinds := [], alts := [], laidByText := true, laidKinds := [.data, .data, .data], laidTests := true, laidLooks := .later }
def RingAsksUptoCardSaid : Prop := Claim7.holds Tryd.pinned (.plain (OpenSpec.upto ringAsksSpec)) ringAsksUptoCard

/-- THE SECOND FORM's CARD OF 'carrefourlaw10.TableNews'. -/
def tableNewsUptoCard : Claim7 := { stood := { row := tableNewsUptoRow, standIns := [], harness := (true, "dcedaedc93d7265410a9637dedf4c9e6961e1192d047b98a91dd985a391fc9e1"), looks := false }, kinds := [], alts := [], laidByText := true, laidKinds := [.data, .data, .data], laidTests := true, laidLooks := .later }
def TableNewsUptoCardSaid : Prop := Claim7.holds Tryd.pinned (.plain (OpenSpec.upto tableNewsSpec)) tableNewsUptoCard

/-- THE SECOND FORM's CARD OF 'carrefourlaw10.TableBack'. -/
def tableBackUptoCard : Claim7 := { stood := { row := tableBackUptoRow, standIns := [], harness := (true, "dcedaedc93d7265410a9637dedf4c9e6961e1192d047b98a91dd985a391fc9e1"), looks := false }, kinds := [], alts := [], laidByText := true, laidKinds := [.data, .data, .data], laidTests := true, laidLooks := .later }
def TableBackUptoCardSaid : Prop := Claim7.holds Tryd.pinned (.plain (OpenSpec.upto tableBackSpec)) tableBackUptoCard
end Rows
end Go.Proofs.YtlgdjmmjconbfaaDoor
