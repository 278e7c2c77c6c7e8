/-
  DERIVED. GIVEN WITH THE SEED: THE CARDS: each row of YtfdneepgpekmiaaDoorRows.lean that lists a variable, with what it lists TIED to the program's text (the seventh form; the later family's looks); each row that meets fmt, with fmt's text TOLD by the authors' own Lean function (tested against real Go, not proved from fmt's source: count such statements apart). THE CARD IS WHAT COUNTS. Prove the row's statement (the work); the ties are given (YtfdneepgpekmiaaDoorTie.lean); close each card by the builder's one call (the guide's Derived/Test/ToyasCard.lean, 'card_holds'). Laid BY PROGRAM, IN A SANDBOX (cutbox-door.mjs). By AI agents, Wed Nov 11 2026. No macro, syntax, notation, axiom, sorry.
-/
import Derived.Test.YtfdneepgpekmiaaDoorRows
import GoSem.ClaimSeven
namespace Go.Proofs.YtfdneepgpekmiaaDoor
namespace Rows

/-- THE TIED CARD OF 'carrefourlaw20.AuthorPlays'. -/
def authorPlaysCard : Claim7 := { stood := { row := authorPlaysRow, standIns := [], harness := (true, "04f91287b49feb46a964413ba8cbd01448f2ef79a430b434ee78297c6db840bf"), looks := false }, kinds := [], alts := [], laidByText := true, laidKinds := [.data, .data, .data], laidTests := true, laidLooks := .later }
def AuthorPlaysCardSaid : Prop := Claim7.holds Tryd.pinned (.plain (OpenSpec.ofChange authorPlaysSpec)) authorPlaysCard

/-- THE TIED CARD OF 'carrefourlaw20.AuthorFull'. -/
def authorFullCard : Claim7 := { stood := { row := authorFullRow, standIns := [], harness := (true, "04f91287b49feb46a964413ba8cbd01448f2ef79a430b434ee78297c6db840bf"), looks := false }, kinds := [], alts := [], laidByText := true, laidKinds := [.data, .data, .data], laidTests := true, laidLooks := .later }
def AuthorFullCardSaid : Prop := Claim7.holds Tryd.pinned (.plain (OpenSpec.ofChange authorFullSpec)) authorFullCard

/-- THE TIED CARD OF 'carrefourlaw20.AuthorTells'. -/
def authorTellsCard : Claim7 := { stood := { row := authorTellsRow, standIns := [], harness := (true, "04f91287b49feb46a964413ba8cbd01448f2ef79a430b434ee78297c6db840bf"), looks := false }, kinds := [], alts := [], laidByText := true, laidKinds := [.data, .data, .data], laidTests := true, laidLooks := .later }
def AuthorTellsCardSaid : Prop := Claim7.holds Tryd.pinned (.plain (OpenSpec.ofChange authorTellsSpec)) authorTellsCard

/-- THE TIED CARD OF 'carrefourlaw21.JudgeAsks'. -/
def judgeAsksCard : Claim7 := { stood := { row := judgeAsksRow, standIns := [], harness := (true, "04f91287b49feb46a964413ba8cbd01448f2ef79a430b434ee78297c6db840bf"), looks := false }, kinds := [], alts := [], laidByText := true, laidKinds := [.data, .data, .data], laidTests := true, laidLooks := .later }
def JudgeAsksCardSaid : Prop := Claim7.holds Tryd.pinned (.plain (OpenSpec.ofChange judgeAsksSpec)) judgeAsksCard

/-- THE TIED CARD OF 'carrefourlaw21.JudgeMakes'. -/
def judgeMakesCard : Claim7 := { stood := { row := judgeMakesRow, standIns := [], harness := (true, "04f91287b49feb46a964413ba8cbd01448f2ef79a430b434ee78297c6db840bf"), looks := false }, kinds := [], alts := [], laidByText := true, laidKinds := [.data, .data, .data], laidTests := true, laidLooks := .later }
def JudgeMakesCardSaid : Prop := Claim7.holds Tryd.pinned (.plain (OpenSpec.ofChange judgeMakesSpec)) judgeMakesCard

/-- THE TIED CARD OF 'carrefourlaw21.JudgeFront'. -/
def judgeFrontCard : Claim7 := { stood := { row := judgeFrontRow, standIns := [], harness := (true, "04f91287b49feb46a964413ba8cbd01448f2ef79a430b434ee78297c6db840bf"), looks := false }, kinds := [], alts := [], laidByText := true, laidKinds := [.data, .data, .data], laidTests := true, laidLooks := .later }
def JudgeFrontCardSaid : Prop := Claim7.holds Tryd.pinned (.plain (OpenSpec.ofChange judgeFrontSpec)) judgeFrontCard

/-- THE TIED CARD OF 'carrefourlaw21.JudgeOnce'. -/
def judgeOnceCard : Claim7 := { stood := { row := judgeOnceRow, standIns := [], harness := (true, "04f91287b49feb46a964413ba8cbd01448f2ef79a430b434ee78297c6db840bf"), looks := false }, kinds := [], alts := [], laidByText := true, laidKinds := [.data, .data, .data], laidTests := true, laidLooks := .later }
def JudgeOnceCardSaid : Prop := Claim7.holds Tryd.pinned (.plain (OpenSpec.ofChange judgeOnceSpec)) judgeOnceCard

/-- THE TIED CARD OF 'carrefourlaw21.JudgeOrder'. -/
def judgeOrderCard : Claim7 := { stood := { row := judgeOrderRow, standIns := [], harness := (true, "04f91287b49feb46a964413ba8cbd01448f2ef79a430b434ee78297c6db840bf"), looks := false }, kinds := [], alts := [], laidByText := true, laidKinds := [.data, .data, .data], laidTests := true, laidLooks := .later }
def JudgeOrderCardSaid : Prop := Claim7.holds Tryd.pinned (.plain (OpenSpec.ofChange judgeOrderSpec)) judgeOrderCard

/-- THE TIED CARD OF 'carrefourlaw21.JudgeRefused'. -/
def judgeRefusedCard : Claim7 := { stood := { row := judgeRefusedRow, standIns := [], harness := (true, "04f91287b49feb46a964413ba8cbd01448f2ef79a430b434ee78297c6db840bf"), looks := false }, kinds := [], alts := [], laidByText := true, laidKinds := [.data, .data, .data], laidTests := true, laidLooks := .later }
def JudgeRefusedCardSaid : Prop := Claim7.holds Tryd.pinned (.plain (OpenSpec.ofChange judgeRefusedSpec)) judgeRefusedCard

/-- THE TIED CARD OF 'carrefourlaw21.JudgeKeys'. -/
def judgeKeysCard : Claim7 := { stood := { row := judgeKeysRow, standIns := [], harness := (true, "04f91287b49feb46a964413ba8cbd01448f2ef79a430b434ee78297c6db840bf"), looks := false }, kinds := [], alts := [], laidByText := true, laidKinds := [.data, .data, .data], laidTests := true, laidLooks := .later }
def JudgeKeysCardSaid : Prop := Claim7.holds Tryd.pinned (.plain (OpenSpec.ofChange judgeKeysSpec)) judgeKeysCard

/-- THE TIED CARD OF 'carrefourlaw20.AuthorShards'. -/
def authorShardsCard : Claim7 := { stood := { row := authorShardsRow, standIns := [], harness := (true, "04f91287b49feb46a964413ba8cbd01448f2ef79a430b434ee78297c6db840bf"), looks := false }, kinds := [], alts := [], laidByText := true, laidKinds := [.data, .data, .data], laidTests := true, laidLooks := .later }
def AuthorShardsCardSaid : Prop := Claim7.holds Tryd.pinned (.plain (OpenSpec.ofChange authorShardsSpec)) authorShardsCard

/-- THE SECOND FORM's CARD OF 'carrefourlaw20.AuthorPlays'. -/
def authorPlaysUptoCard : Claim7 := { stood := { row := authorPlaysUptoRow, standIns := [], harness := (true, "04f91287b49feb46a964413ba8cbd01448f2ef79a430b434ee78297c6db840bf"), looks := false }, kinds := [], alts := [], laidByText := true, laidKinds := [.data, .data, .data], laidTests := true, laidLooks := .later }
def AuthorPlaysUptoCardSaid : Prop := Claim7.holds Tryd.pinned (.plain (OpenSpec.upto authorPlaysSpec)) authorPlaysUptoCard

/-- THE SECOND FORM's CARD OF 'carrefourlaw20.AuthorFull'. -/
def authorFullUptoCard : Claim7 := { stood := { row := authorFullUptoRow, standIns := [], harness := (true, "04f91287b49feb46a964413ba8cbd01448f2ef79a430b434ee78297c6db840bf"), looks := false }, kinds := [], alts := [], laidByText := true, laidKinds := [.data, .data, .data], laidTests := true, laidLooks := .later }
def AuthorFullUptoCardSaid : Prop := Claim7.holds Tryd.pinned (.plain (OpenSpec.upto authorFullSpec)) authorFullUptoCard

/-- THE SECOND FORM's CARD OF 'carrefourlaw20.AuthorTells'. -/
def authorTellsUptoCard : Claim7 := { stood := { row := authorTellsUptoRow, standIns := [], harness := (true, "04f91287b49feb46a964413ba8cbd01448f2ef79a430b434ee78297c6db840bf"), looks := false }, kinds := [], alts := [], laidByText := true, laidKinds := [.data, .data, .data], laidTests := true, laidLooks := .later }
def AuthorTellsUptoCardSaid : Prop := Claim7.holds Tryd.pinned (.plain (OpenSpec.upto authorTellsSpec)) authorTellsUptoCard

/-- THE SECOND FORM's CARD OF 'carrefourlaw21.JudgeAsks'. -/
def judgeAsksUptoCard : Claim7 := { stood := { row := judgeAsksUptoRow, standIns := [], harness := (true, "04f91287b49feb46a964413ba8cbd01448f2ef79a430b434ee78297c6db840bf"), looks := false }, kinds := [], alts := [], laidByText := true, laidKinds := [.data, .data, .data], laidTests := true, laidLooks := .later }
def JudgeAsksUptoCardSaid : Prop := Claim7.holds Tryd.pinned (.plain (OpenSpec.upto judgeAsksSpec)) judgeAsksUptoCard

/-- THE SECOND FORM's CARD OF 'carrefourlaw21.JudgeMakes'. -/
def judgeMakesUptoCard : Claim7 := { stood := { row := judgeMakesUptoRow, standIns := [], harness := (true, "04f91287b49feb46a964413ba8cbd01448f2ef79a430b434ee78297c6db840bf"), looks := false }, kinds := [], alts := [], laidByText := true, laidKinds := [.data, .data, .data], laidTests := true, laidLooks := .later }
def JudgeMakesUptoCardSaid : Prop := Claim7.holds Tryd.pinned (.plain (OpenSpec.upto judgeMakesSpec)) judgeMakesUptoCard

/-- THE SECOND FORM's CARD OF 'carrefourlaw21.JudgeFront'. -/
def judgeFrontUptoCard : Claim7 := { stood := { row := judgeFrontUptoRow, standIns := [], harness := (true, "04f91287b49feb46a964413ba8cbd01448f2ef79a430b434ee78297c6db840bf"), looks := false }, kinds := [], alts := [], laidByText := true, laidKinds := [.data, .data, .data], laidTests := true, laidLooks := .later }
def JudgeFrontUptoCardSaid : Prop := Claim7.holds Tryd.pinned (.plain (OpenSpec.upto judgeFrontSpec)) judgeFrontUptoCard

/-- THE SECOND FORM's CARD OF 'carrefourlaw21.JudgeOnce'. -/
def judgeOnceUptoCard : Claim7 := { stood := { row := judgeOnceUptoRow, standIns := [], harness := (true, "04f91287b49feb46a964413ba8cbd01448f2ef79a430b434ee78297c6db840bf"), looks := false }, kinds := [], alts := [], laidByText := true, laidKinds := [.data, .data, .data], laidTests := true, laidLooks := .later }
def JudgeOnceUptoCardSaid : Prop := Claim7.holds Tryd.pinned (.plain (OpenSpec.upto judgeOnceSpec)) judgeOnceUptoCard

/-- THE SECOND FORM's CARD OF 'carrefourlaw21.JudgeOrder'. -/
def judgeOrderUptoCard : Claim7 := { stood := { row := judgeOrderUptoRow, standIns := [], harness := (true, "04f91287b49feb46a964413ba8cbd01448f2ef79a430b434ee78297c6db840bf"), looks := false }, kinds := [], alts := [], laidByText := true, laidKinds := [.data, .data, .data], laidTests := true, laidLooks := .later }
def JudgeOrderUptoCardSaid : Prop := Claim7.holds Tryd.pinned (.plain (OpenSpec.upto judgeOrderSpec)) judgeOrderUptoCard

/-- THE SECOND FORM's CARD OF 'carrefourlaw21.JudgeRefused'. -/
def judgeRefusedUptoCard : Claim7 := { stood := { row := judgeRefusedUptoRow, standIns := [], harness := (true, "04f91287b49feb46a964413ba8cbd01448f2ef79a430b434ee78297c6db840bf"), looks := false }, kinds := [], alts := [], laidByText := true, laidKinds := [.data, .data, .data], laidTests := true, laidLooks := .later }
def JudgeRefusedUptoCardSaid : Prop := Claim7.holds Tryd.pinned (.plain (OpenSpec.upto judgeRefusedSpec)) judgeRefusedUptoCard

/-- THE SECOND FORM's CARD OF 'carrefourlaw21.JudgeKeys'. -/
def judgeKeysUptoCard : Claim7 := { stood := { row := judgeKeysUptoRow, standIns := [], harness := (true, "04f91287b49feb46a964413ba8cbd01448f2ef79a430b434ee78297c6db840bf"), looks := false }, kinds := [], alts := [], laidByText := true, laidKinds := [.data, .data, .data], laidTests := true, laidLooks := .later }
def JudgeKeysUptoCardSaid : Prop := Claim7.holds Tryd.pinned (.plain (OpenSpec.upto judgeKeysSpec)) judgeKeysUptoCard

/-- THE SECOND FORM's CARD OF 'carrefourlaw20.AuthorShards'. -/
def authorShardsUptoCard : Claim7 := { stood := { row := authorShardsUptoRow, standIns := [], harness := (true, "04f91287b49feb46a964413ba8cbd01448f2ef79a430b434ee78297c6db840bf"), looks := false }, kinds := [], alts := [], laidByText := true, laidKinds := [.data, .data, .data], laidTests := true, laidLooks := .later }
def AuthorShardsUptoCardSaid : Prop := Claim7.holds Tryd.pinned (.plain (OpenSpec.upto authorShardsSpec)) authorShardsUptoCard
end Rows
end Go.Proofs.YtfdneepgpekmiaaDoor
