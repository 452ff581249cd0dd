/-
  DERIVED. GIVEN WITH THE SEED: THE CARDS: each row of YtbfejgbeaehbmaaGreatDoorRows.lean that lists a variable, with what it lists TIED to the program's text (the seventh form; the later family's looks); each row that meets fmt, with fmt's text TOLD by the authors' own Lean function (tested against real Go, not proved from fmt's source: count such statements apart). THE CARD IS WHAT COUNTS. Prove the row's statement (the work); the ties are given (YtbfejgbeaehbmaaGreatDoorTie.lean); close each card by the builder's one call (the guide's Derived/Test/ToyasCard.lean, 'card_holds'). Laid BY PROGRAM, IN A SANDBOX (cutbox-door.mjs). By AI agents, Wed Nov 11 2026. No macro, syntax, notation, axiom, sorry.
-/
import Derived.Test.YtbfejgbeaehbmaaGreatDoorRows
import GoSem.ClaimSeven
namespace Go.Proofs.YtbfejgbeaehbmaaGreatDoor
namespace Rows

/-- THE TIED CARD OF 'cleanselaw32.BoundMatchesReference'. -/
def boundMatchesReferenceCard : Claim7 := { stood := { row := boundMatchesReferenceRow, standIns := [], harness := (true, "30fe9453336d82d1bd1e8d6e8af5c877f9732eac2e2c3a39b33f050bb9486eba"), looks := true }, kinds := [], alts := [], laidByText := true, laidKinds := [.data, .data, .data], laidTests := true, laidLooks := .later }
def BoundMatchesReferenceCardSaid : Prop := Claim7.holds Tryz.pinned (.plain (OpenSpec.ofChange boundMatchesReferenceSpec)) boundMatchesReferenceCard

/-- THE TIED CARD OF 'cleanselaw32.BoundParts'. -/
def boundPartsCard : Claim7 := { stood := { row := boundPartsRow, standIns := [], harness := (true, "30fe9453336d82d1bd1e8d6e8af5c877f9732eac2e2c3a39b33f050bb9486eba"), looks := true }, kinds := [], alts := [], laidByText := true, laidKinds := [.data, .data, .data], laidTests := true, laidLooks := .later }
def BoundPartsCardSaid : Prop := Claim7.holds Tryz.pinned (.plain (OpenSpec.ofChange boundPartsSpec)) boundPartsCard

/-- THE TIED CARD OF 'cleanselaw32.BoundTrue'. -/
def boundTrueCard : Claim7 := { stood := { row := boundTrueRow, standIns := [], harness := (true, "30fe9453336d82d1bd1e8d6e8af5c877f9732eac2e2c3a39b33f050bb9486eba"), looks := true }, kinds := [], alts := [], laidByText := true, laidKinds := [.data, .data, .data], laidTests := true, laidLooks := .later }
def BoundTrueCardSaid : Prop := Claim7.holds Tryz.pinned (.plain (OpenSpec.ofChange boundTrueSpec)) boundTrueCard

/-- THE TIED CARD OF 'cleanselaw32.BoundWays'. -/
def boundWaysCard : Claim7 := { stood := { row := boundWaysRow, standIns := [], harness := (true, "30fe9453336d82d1bd1e8d6e8af5c877f9732eac2e2c3a39b33f050bb9486eba"), looks := true }, kinds := [], alts := [], laidByText := true, laidKinds := [.data, .data, .data], laidTests := true, laidLooks := .later }
def BoundWaysCardSaid : Prop := Claim7.holds Tryz.pinned (.plain (OpenSpec.ofChange boundWaysSpec)) boundWaysCard

/-- THE TIED CARD OF 'cleanselaw32.BoundRange'. -/
def boundRangeCard : Claim7 := { stood := { row := boundRangeRow, standIns := [], harness := (true, "30fe9453336d82d1bd1e8d6e8af5c877f9732eac2e2c3a39b33f050bb9486eba"), looks := true }, kinds := [], alts := [], laidByText := true, laidKinds := [.data, .data, .data], laidTests := true, laidLooks := .later }
def BoundRangeCardSaid : Prop := Claim7.holds Tryz.pinned (.plain (OpenSpec.ofChange boundRangeSpec)) boundRangeCard

/-- THE TIED CARD OF 'cleanselaw32.BoundBlocks'. -/
def boundBlocksCard : Claim7 := { stood := { row := boundBlocksRow, standIns := [], harness := (true, "30fe9453336d82d1bd1e8d6e8af5c877f9732eac2e2c3a39b33f050bb9486eba"), looks := true }, kinds := [], alts := [], laidByText := true, laidKinds := [.data, .data, .data], laidTests := true, laidLooks := .later }
def BoundBlocksCardSaid : Prop := Claim7.holds Tryz.pinned (.plain (OpenSpec.ofChange boundBlocksSpec)) boundBlocksCard

/-- THE TIED CARD OF 'cleanselaw32.BoundSolve'. -/
def boundSolveCard : Claim7 := { stood := { row := boundSolveRow, standIns := [], harness := (true, "30fe9453336d82d1bd1e8d6e8af5c877f9732eac2e2c3a39b33f050bb9486eba"), looks := true }, kinds := [], alts := [], laidByText := true, laidKinds := [.data, .data, .data], laidTests := true, laidLooks := .later }
def BoundSolveCardSaid : Prop := Claim7.holds Tryz.pinned (.plain (OpenSpec.ofChange boundSolveSpec)) boundSolveCard

/-- THE SECOND FORM's CARD OF 'cleanselaw32.BoundMatchesReference'. -/
def boundMatchesReferenceUptoCard : Claim7 := { stood := { row := boundMatchesReferenceUptoRow, standIns := [], harness := (true, "30fe9453336d82d1bd1e8d6e8af5c877f9732eac2e2c3a39b33f050bb9486eba"), looks := true }, kinds := [], alts := [], laidByText := true, laidKinds := [.data, .data, .data], laidTests := true, laidLooks := .later }
def BoundMatchesReferenceUptoCardSaid : Prop := Claim7.holds Tryz.pinned (.plain (OpenSpec.upto boundMatchesReferenceSpec)) boundMatchesReferenceUptoCard

/-- THE SECOND FORM's CARD OF 'cleanselaw32.BoundParts'. -/
def boundPartsUptoCard : Claim7 := { stood := { row := boundPartsUptoRow, standIns := [], harness := (true, "30fe9453336d82d1bd1e8d6e8af5c877f9732eac2e2c3a39b33f050bb9486eba"), looks := true }, kinds := [], alts := [], laidByText := true, laidKinds := [.data, .data, .data], laidTests := true, laidLooks := .later }
def BoundPartsUptoCardSaid : Prop := Claim7.holds Tryz.pinned (.plain (OpenSpec.upto boundPartsSpec)) boundPartsUptoCard

/-- THE SECOND FORM's CARD OF 'cleanselaw32.BoundTrue'. -/
def boundTrueUptoCard : Claim7 := { stood := { row := boundTrueUptoRow, standIns := [], harness := (true, "30fe9453336d82d1bd1e8d6e8af5c877f9732eac2e2c3a39b33f050bb9486eba"), looks := true }, kinds := [], alts := [], laidByText := true, laidKinds := [.data, .data, .data], laidTests := true, laidLooks := .later }
def BoundTrueUptoCardSaid : Prop := Claim7.holds Tryz.pinned (.plain (OpenSpec.upto boundTrueSpec)) boundTrueUptoCard

/-- THE SECOND FORM's CARD OF 'cleanselaw32.BoundWays'. -/
def boundWaysUptoCard : Claim7 := { stood := { row := boundWaysUptoRow, standIns := [], harness := (true, "30fe9453336d82d1bd1e8d6e8af5c877f9732eac2e2c3a39b33f050bb9486eba"), looks := true }, kinds := [], alts := [], laidByText := true, laidKinds := [.data, .data, .data], laidTests := true, laidLooks := .later }
def BoundWaysUptoCardSaid : Prop := Claim7.holds Tryz.pinned (.plain (OpenSpec.upto boundWaysSpec)) boundWaysUptoCard

/-- THE SECOND FORM's CARD OF 'cleanselaw32.BoundRange'. -/
def boundRangeUptoCard : Claim7 := { stood := { row := boundRangeUptoRow, standIns := [], harness := (true, "30fe9453336d82d1bd1e8d6e8af5c877f9732eac2e2c3a39b33f050bb9486eba"), looks := true }, kinds := [], alts := [], laidByText := true, laidKinds := [.data, .data, .data], laidTests := true, laidLooks := .later }
def BoundRangeUptoCardSaid : Prop := Claim7.holds Tryz.pinned (.plain (OpenSpec.upto boundRangeSpec)) boundRangeUptoCard

/-- THE SECOND FORM's CARD OF 'cleanselaw32.BoundBlocks'. -/
def boundBlocksUptoCard : Claim7 := { stood := { row := boundBlocksUptoRow, standIns := [], harness := (true, "30fe9453336d82d1bd1e8d6e8af5c877f9732eac2e2c3a39b33f050bb9486eba"), looks := true }, kinds := [], alts := [], laidByText := true, laidKinds := [.data, .data, .data], laidTests := true, laidLooks := .later }
def BoundBlocksUptoCardSaid : Prop := Claim7.holds Tryz.pinned (.plain (OpenSpec.upto boundBlocksSpec)) boundBlocksUptoCard

/-- THE SECOND FORM's CARD OF 'cleanselaw32.BoundSolve'. -/
def boundSolveUptoCard : Claim7 := { stood := { row := boundSolveUptoRow, standIns := [], harness := (true, "30fe9453336d82d1bd1e8d6e8af5c877f9732eac2e2c3a39b33f050bb9486eba"), looks := true }, kinds := [], alts := [], laidByText := true, laidKinds := [.data, .data, .data], laidTests := true, laidLooks := .later }
def BoundSolveUptoCardSaid : Prop := Claim7.holds Tryz.pinned (.plain (OpenSpec.upto boundSolveSpec)) boundSolveUptoCard
end Rows
end Go.Proofs.YtbfejgbeaehbmaaGreatDoor
