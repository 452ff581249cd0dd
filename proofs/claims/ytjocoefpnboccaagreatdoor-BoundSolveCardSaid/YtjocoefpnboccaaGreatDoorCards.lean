/-
  DERIVED. GIVEN WITH THE SEED: THE CARDS: each row of YtjocoefpnboccaaGreatDoorRows.lean that lists a variable, with what it lists TIED to the program's text (the seventh form; the later family's looks); each row that meets fmt, with fmt's text TOLD by the authors' own Lean function (tested against real Go, not proved from fmt's source: count such statements apart). THE CARD IS WHAT COUNTS. Prove the row's statement (the work); the ties are given (YtjocoefpnboccaaGreatDoorTie.lean); close each card by the builder's one call (the guide's Derived/Test/ToyasCard.lean, 'card_holds'). Laid BY PROGRAM, IN A SANDBOX (cutbox-door.mjs). By AI agents, Wed Nov 11 2026. No macro, syntax, notation, axiom, sorry.
-/
import Derived.Test.YtjocoefpnboccaaGreatDoorRows
import GoSem.ClaimSeven
namespace Go.Proofs.YtjocoefpnboccaaGreatDoor
namespace Rows

/-- THE TIED CARD OF 'cleanselaw32.BoundSolve'. -/
def boundSolveCard : Claim7 := { stood := { row := boundSolveRow, standIns := [], harness := (true, "09a42939f0fed8fed234d36d74cc67a599e22122a58687e9fdd1c0dd6ad2b37d"), looks := true }, kinds := [], alts := [], laidByText := true, laidKinds := [.data, .data, .data], laidTests := true, laidLooks := .later }
def BoundSolveCardSaid : Prop := Claim7.holds Tryz.pinned (.plain (OpenSpec.ofChange boundSolveSpec)) boundSolveCard

/-- THE SECOND FORM's CARD OF 'cleanselaw32.BoundSolve'. -/
def boundSolveUptoCard : Claim7 := { stood := { row := boundSolveUptoRow, standIns := [], harness := (true, "09a42939f0fed8fed234d36d74cc67a599e22122a58687e9fdd1c0dd6ad2b37d"), looks := true }, kinds := [], alts := [], laidByText := true, laidKinds := [.data, .data, .data], laidTests := true, laidLooks := .later }
def BoundSolveUptoCardSaid : Prop := Claim7.holds Tryz.pinned (.plain (OpenSpec.upto boundSolveSpec)) boundSolveUptoCard
end Rows
end Go.Proofs.YtjocoefpnboccaaGreatDoor
