/-
  DERIVED. GIVEN WITH THE SEED: THE CARDS: each row of YtoengpialdolbaaGreatDoorRows.lean that lists a variable, with what it lists TIED to the program's text (the seventh form; the later family's looks); each row that meets fmt, with fmt's text TOLD by the authors' own Lean function (tested against real Go, not proved from fmt's source: count such statements apart). THE CARD IS WHAT COUNTS. Prove the row's statement (the work); the ties are given (YtoengpialdolbaaGreatDoorTie.lean); close each card by the builder's one call (the guide's Derived/Test/ToyasCard.lean, 'card_holds'). Laid BY PROGRAM, IN A SANDBOX (cutbox-door.mjs). By AI agents, Wed Nov 11 2026. No macro, syntax, notation, axiom, sorry.
-/
import Derived.Test.YtoengpialdolbaaGreatDoorRows
import GoSem.ClaimSeven
namespace Go.Proofs.YtoengpialdolbaaGreatDoor
namespace Rows

/-- THE TIED CARD OF 'cleanselaw27.HyperMatchesReference'. -/
def hyperMatchesReferenceCard : Claim7 := { stood := { row := hyperMatchesReferenceRow, standIns := [], harness := (true, "522dd1c9c18837a8e7fd07c13abf5668ec37bee282e5b946044b38b927aad05c"), looks := false }, kinds := [], alts := [], laidByText := true, laidKinds := [.data, .data, .data], laidTests := true, laidLooks := .later }
def HyperMatchesReferenceCardSaid : Prop := Claim7.holds Tryz.pinned (.plain (OpenSpec.ofChange hyperMatchesReferenceSpec)) hyperMatchesReferenceCard

/-- THE SECOND FORM's CARD OF 'cleanselaw27.HyperMatchesReference'. -/
def hyperMatchesReferenceUptoCard : Claim7 := { stood := { row := hyperMatchesReferenceUptoRow, standIns := [], harness := (true, "522dd1c9c18837a8e7fd07c13abf5668ec37bee282e5b946044b38b927aad05c"), looks := false }, kinds := [], alts := [], laidByText := true, laidKinds := [.data, .data, .data], laidTests := true, laidLooks := .later }
def HyperMatchesReferenceUptoCardSaid : Prop := Claim7.holds Tryz.pinned (.plain (OpenSpec.upto hyperMatchesReferenceSpec)) hyperMatchesReferenceUptoCard
end Rows
end Go.Proofs.YtoengpialdolbaaGreatDoor
