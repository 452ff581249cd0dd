/-
  DERIVED. GIVEN WITH THE SEED: THE CARDS: each row of YtdbcfpcicjgghaaGreatDoorRows.lean that lists a variable, with what it lists TIED to the program's text (the seventh form; the later family's looks); each row that meets fmt, with fmt's text TOLD by the authors' own Lean function (tested against real Go, not proved from fmt's source: count such statements apart). THE CARD IS WHAT COUNTS. Prove the row's statement (the work); the ties are given (YtdbcfpcicjgghaaGreatDoorTie.lean); close each card by the builder's one call (the guide's Derived/Test/ToyasCard.lean, 'card_holds'). Laid BY PROGRAM, IN A SANDBOX (cutbox-door.mjs). By AI agents, Wed Nov 11 2026. No macro, syntax, notation, axiom, sorry.
-/
import Derived.Test.YtdbcfpcicjgghaaGreatDoorRows
import GoSem.ClaimSeven
namespace Go.Proofs.YtdbcfpcicjgghaaGreatDoor
namespace Rows

/-- THE TIED CARD OF 'cleanselaw29.SolveMatchesReference'. -/
def solveMatchesReferenceCard : Claim7 := { stood := { row := solveMatchesReferenceRow, standIns := [], harness := (true, "1b8be790206bb03629f793f2d83a0802175c9f7a15cd18672e6769e9d3d9bbfd"), looks := true }, kinds := [], alts := [], laidByText := true, laidKinds := [.data, .data, .data], laidTests := true, laidLooks := .later }
def SolveMatchesReferenceCardSaid : Prop := Claim7.holds Tryz.pinned (.plain (OpenSpec.ofChange solveMatchesReferenceSpec)) solveMatchesReferenceCard

/-- THE TIED CARD OF 'cleanselaw29.SolveProves'. -/
def solveProvesCard : Claim7 := { stood := { row := solveProvesRow, standIns := [], harness := (true, "1b8be790206bb03629f793f2d83a0802175c9f7a15cd18672e6769e9d3d9bbfd"), looks := true }, kinds := [], alts := [], laidByText := true, laidKinds := [.data, .data, .data], laidTests := true, laidLooks := .later }
def SolveProvesCardSaid : Prop := Claim7.holds Tryz.pinned (.plain (OpenSpec.ofChange solveProvesSpec)) solveProvesCard

/-- THE TIED CARD OF 'cleanselaw29.SolveFirst'. -/
def solveFirstCard : Claim7 := { stood := { row := solveFirstRow, standIns := [], harness := (true, "1b8be790206bb03629f793f2d83a0802175c9f7a15cd18672e6769e9d3d9bbfd"), looks := true }, kinds := [], alts := [], laidByText := true, laidKinds := [.data, .data, .data], laidTests := true, laidLooks := .later }
def SolveFirstCardSaid : Prop := Claim7.holds Tryz.pinned (.plain (OpenSpec.ofChange solveFirstSpec)) solveFirstCard

/-- THE TIED CARD OF 'cleanselaw29.SolveWays'. -/
def solveWaysCard : Claim7 := { stood := { row := solveWaysRow, standIns := [], harness := (true, "1b8be790206bb03629f793f2d83a0802175c9f7a15cd18672e6769e9d3d9bbfd"), looks := true }, kinds := [], alts := [], laidByText := true, laidKinds := [.data, .data, .data], laidTests := true, laidLooks := .later }
def SolveWaysCardSaid : Prop := Claim7.holds Tryz.pinned (.plain (OpenSpec.ofChange solveWaysSpec)) solveWaysCard

/-- THE TIED CARD OF 'cleanselaw29.SolveErrors'. -/
def solveErrorsCard : Claim7 := { stood := { row := solveErrorsRow, standIns := [], harness := (true, "1b8be790206bb03629f793f2d83a0802175c9f7a15cd18672e6769e9d3d9bbfd"), looks := true }, kinds := [], alts := [], laidByText := true, laidKinds := [.data, .data, .data], laidTests := true, laidLooks := .later }
def SolveErrorsCardSaid : Prop := Claim7.holds Tryz.pinned (.plain (OpenSpec.ofChange solveErrorsSpec)) solveErrorsCard

/-- THE TIED CARD OF 'cleanselaw29.SolveParts'. -/
def solvePartsCard : Claim7 := { stood := { row := solvePartsRow, standIns := [], harness := (true, "1b8be790206bb03629f793f2d83a0802175c9f7a15cd18672e6769e9d3d9bbfd"), looks := true }, kinds := [], alts := [], laidByText := true, laidKinds := [.data, .data, .data], laidTests := true, laidLooks := .later }
def SolvePartsCardSaid : Prop := Claim7.holds Tryz.pinned (.plain (OpenSpec.ofChange solvePartsSpec)) solvePartsCard

/-- THE TIED CARD OF 'cleanselaw29.SolveVerdicts'. -/
def solveVerdictsCard : Claim7 := { stood := { row := solveVerdictsRow, standIns := [], harness := (true, "1b8be790206bb03629f793f2d83a0802175c9f7a15cd18672e6769e9d3d9bbfd"), looks := true }, kinds := [], alts := [], laidByText := true, laidKinds := [.data, .data, .data], laidTests := true, laidLooks := .later }
def SolveVerdictsCardSaid : Prop := Claim7.holds Tryz.pinned (.plain (OpenSpec.ofChange solveVerdictsSpec)) solveVerdictsCard

/-- THE SECOND FORM's CARD OF 'cleanselaw29.SolveMatchesReference'. -/
def solveMatchesReferenceUptoCard : Claim7 := { stood := { row := solveMatchesReferenceUptoRow, standIns := [], harness := (true, "1b8be790206bb03629f793f2d83a0802175c9f7a15cd18672e6769e9d3d9bbfd"), looks := true }, kinds := [], alts := [], laidByText := true, laidKinds := [.data, .data, .data], laidTests := true, laidLooks := .later }
def SolveMatchesReferenceUptoCardSaid : Prop := Claim7.holds Tryz.pinned (.plain (OpenSpec.upto solveMatchesReferenceSpec)) solveMatchesReferenceUptoCard

/-- THE SECOND FORM's CARD OF 'cleanselaw29.SolveProves'. -/
def solveProvesUptoCard : Claim7 := { stood := { row := solveProvesUptoRow, standIns := [], harness := (true, "1b8be790206bb03629f793f2d83a0802175c9f7a15cd18672e6769e9d3d9bbfd"), looks := true }, kinds := [], alts := [], laidByText := true, laidKinds := [.data, .data, .data], laidTests := true, laidLooks := .later }
def SolveProvesUptoCardSaid : Prop := Claim7.holds Tryz.pinned (.plain (OpenSpec.upto solveProvesSpec)) solveProvesUptoCard

/-- THE SECOND FORM's CARD OF 'cleanselaw29.SolveFirst'. -/
def solveFirstUptoCard : Claim7 := { stood := { row := solveFirstUptoRow, standIns := [], harness := (true, "1b8be790206bb03629f793f2d83a0802175c9f7a15cd18672e6769e9d3d9bbfd"), looks := true }, kinds := [], alts := [], laidByText := true, laidKinds := [.data, .data, .data], laidTests := true, laidLooks := .later }
def SolveFirstUptoCardSaid : Prop := Claim7.holds Tryz.pinned (.plain (OpenSpec.upto solveFirstSpec)) solveFirstUptoCard

/-- THE SECOND FORM's CARD OF 'cleanselaw29.SolveWays'. -/
def solveWaysUptoCard : Claim7 := { stood := { row := solveWaysUptoRow, standIns := [], harness := (true, "1b8be790206bb03629f793f2d83a0802175c9f7a15cd18672e6769e9d3d9bbfd"), looks := true }, kinds := [], alts := [], laidByText := true, laidKinds := [.data, .data, .data], laidTests := true, laidLooks := .later }
def SolveWaysUptoCardSaid : Prop := Claim7.holds Tryz.pinned (.plain (OpenSpec.upto solveWaysSpec)) solveWaysUptoCard

/-- THE SECOND FORM's CARD OF 'cleanselaw29.SolveErrors'. -/
def solveErrorsUptoCard : Claim7 := { stood := { row := solveErrorsUptoRow, standIns := [], harness := (true, "1b8be790206bb03629f793f2d83a0802175c9f7a15cd18672e6769e9d3d9bbfd"), looks := true }, kinds := [], alts := [], laidByText := true, laidKinds := [.data, .data, .data], laidTests := true, laidLooks := .later }
def SolveErrorsUptoCardSaid : Prop := Claim7.holds Tryz.pinned (.plain (OpenSpec.upto solveErrorsSpec)) solveErrorsUptoCard

/-- THE SECOND FORM's CARD OF 'cleanselaw29.SolveParts'. -/
def solvePartsUptoCard : Claim7 := { stood := { row := solvePartsUptoRow, standIns := [], harness := (true, "1b8be790206bb03629f793f2d83a0802175c9f7a15cd18672e6769e9d3d9bbfd"), looks := true }, kinds := [], alts := [], laidByText := true, laidKinds := [.data, .data, .data], laidTests := true, laidLooks := .later }
def SolvePartsUptoCardSaid : Prop := Claim7.holds Tryz.pinned (.plain (OpenSpec.upto solvePartsSpec)) solvePartsUptoCard

/-- THE SECOND FORM's CARD OF 'cleanselaw29.SolveVerdicts'. -/
def solveVerdictsUptoCard : Claim7 := { stood := { row := solveVerdictsUptoRow, standIns := [], harness := (true, "1b8be790206bb03629f793f2d83a0802175c9f7a15cd18672e6769e9d3d9bbfd"), looks := true }, kinds := [], alts := [], laidByText := true, laidKinds := [.data, .data, .data], laidTests := true, laidLooks := .later }
def SolveVerdictsUptoCardSaid : Prop := Claim7.holds Tryz.pinned (.plain (OpenSpec.upto solveVerdictsSpec)) solveVerdictsUptoCard
end Rows
end Go.Proofs.YtdbcfpcicjgghaaGreatDoor
