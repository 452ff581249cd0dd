/-
  DERIVED. GIVEN WITH THE SEED: THE CARDS: each row of YtoengpialdolbaaDoorRows.lean that lists a variable, with what it lists TIED to the program's text (the seventh form; the later family's looks); each row that meets fmt, with fmt's text TOLD by the authors' own Lean function (tested against real Go, not proved from fmt's source: count such statements apart). THE CARD IS WHAT COUNTS. Prove the row's statement (the work); the ties are given (YtoengpialdolbaaDoorTie.lean); close each card by the builder's one call (the guide's Derived/Test/ToyasCard.lean, 'card_holds'). Laid BY PROGRAM, IN A SANDBOX (cutbox-door.mjs). By AI agents, Wed Nov 11 2026. No macro, syntax, notation, axiom, sorry.
-/
import Derived.Test.YtoengpialdolbaaDoorRows
import GoSem.ClaimSeven
namespace Go.Proofs.YtoengpialdolbaaDoor
namespace Rows

/-- THE TIED CARD OF 'cleanselaw27.HyperMinimal'. -/
def hyperMinimalCard : Claim7 := { stood := { row := hyperMinimalRow, standIns := [], harness := (true, "297c43443dcd613df36feb01ff9f81e2f139ace8ad17d17613030ba674d4a706"), looks := false }, kinds := [], alts := [], laidByText := true, laidKinds := [.data, .data, .data], laidTests := true, laidLooks := .later }
def HyperMinimalCardSaid : Prop := Claim7.holds Tryd.pinned (.plain (OpenSpec.ofChange hyperMinimalSpec)) hyperMinimalCard

/-- THE TIED CARD OF 'cleanselaw27.HyperConflicts'. -/
def hyperConflictsCard : Claim7 := { stood := { row := hyperConflictsRow, standIns := [], harness := (true, "297c43443dcd613df36feb01ff9f81e2f139ace8ad17d17613030ba674d4a706"), looks := false }, kinds := [], alts := [], laidByText := true, laidKinds := [.data, .data, .data], laidTests := true, laidLooks := .later }
def HyperConflictsCardSaid : Prop := Claim7.holds Tryd.pinned (.plain (OpenSpec.ofChange hyperConflictsSpec)) hyperConflictsCard

/-- THE TIED CARD OF 'cleanselaw27.HyperSequence'. -/
def hyperSequenceCard : Claim7 := { stood := { row := hyperSequenceRow, standIns := [], harness := (true, "297c43443dcd613df36feb01ff9f81e2f139ace8ad17d17613030ba674d4a706"), looks := false }, kinds := [], alts := [], laidByText := true, laidKinds := [.data, .data, .data], laidTests := true, laidLooks := .later }
def HyperSequenceCardSaid : Prop := Claim7.holds Tryd.pinned (.plain (OpenSpec.ofChange hyperSequenceSpec)) hyperSequenceCard

/-- THE TIED CARD OF 'cleanselaw27.HyperComponents'. -/
def hyperComponentsCard : Claim7 := { stood := { row := hyperComponentsRow, standIns := [], harness := (true, "297c43443dcd613df36feb01ff9f81e2f139ace8ad17d17613030ba674d4a706"), looks := false }, kinds := [], alts := [], laidByText := true, laidKinds := [.data, .data, .data], laidTests := true, laidLooks := .later }
def HyperComponentsCardSaid : Prop := Claim7.holds Tryd.pinned (.plain (OpenSpec.ofChange hyperComponentsSpec)) hyperComponentsCard

/-- THE TIED CARD OF 'cleanselaw27.HyperParts'. -/
def hyperPartsCard : Claim7 := { stood := { row := hyperPartsRow, standIns := [], harness := (true, "297c43443dcd613df36feb01ff9f81e2f139ace8ad17d17613030ba674d4a706"), looks := false }, kinds := [], alts := [], laidByText := true, laidKinds := [.data, .data, .data], laidTests := true, laidLooks := .later }
def HyperPartsCardSaid : Prop := Claim7.holds Tryd.pinned (.plain (OpenSpec.ofChange hyperPartsSpec)) hyperPartsCard

/-- THE TIED CARD OF 'cleanselaw27.HyperFixed'. -/
def hyperFixedCard : Claim7 := { stood := { row := hyperFixedRow, standIns := [], harness := (true, "297c43443dcd613df36feb01ff9f81e2f139ace8ad17d17613030ba674d4a706"), looks := false }, kinds := [], alts := [], laidByText := true, laidKinds := [.data, .data, .data], laidTests := true, laidLooks := .later }
def HyperFixedCardSaid : Prop := Claim7.holds Tryd.pinned (.plain (OpenSpec.ofChange hyperFixedSpec)) hyperFixedCard

/-- THE SECOND FORM's CARD OF 'cleanselaw27.HyperMinimal'. -/
def hyperMinimalUptoCard : Claim7 := { stood := { row := hyperMinimalUptoRow, standIns := [], harness := (true, "297c43443dcd613df36feb01ff9f81e2f139ace8ad17d17613030ba674d4a706"), looks := false }, kinds := [], alts := [], laidByText := true, laidKinds := [.data, .data, .data], laidTests := true, laidLooks := .later }
def HyperMinimalUptoCardSaid : Prop := Claim7.holds Tryd.pinned (.plain (OpenSpec.upto hyperMinimalSpec)) hyperMinimalUptoCard

/-- THE SECOND FORM's CARD OF 'cleanselaw27.HyperConflicts'. -/
def hyperConflictsUptoCard : Claim7 := { stood := { row := hyperConflictsUptoRow, standIns := [], harness := (true, "297c43443dcd613df36feb01ff9f81e2f139ace8ad17d17613030ba674d4a706"), looks := false }, kinds := [], alts := [], laidByText := true, laidKinds := [.data, .data, .data], laidTests := true, laidLooks := .later }
def HyperConflictsUptoCardSaid : Prop := Claim7.holds Tryd.pinned (.plain (OpenSpec.upto hyperConflictsSpec)) hyperConflictsUptoCard

/-- THE SECOND FORM's CARD OF 'cleanselaw27.HyperSequence'. -/
def hyperSequenceUptoCard : Claim7 := { stood := { row := hyperSequenceUptoRow, standIns := [], harness := (true, "297c43443dcd613df36feb01ff9f81e2f139ace8ad17d17613030ba674d4a706"), looks := false }, kinds := [], alts := [], laidByText := true, laidKinds := [.data, .data, .data], laidTests := true, laidLooks := .later }
def HyperSequenceUptoCardSaid : Prop := Claim7.holds Tryd.pinned (.plain (OpenSpec.upto hyperSequenceSpec)) hyperSequenceUptoCard

/-- THE SECOND FORM's CARD OF 'cleanselaw27.HyperComponents'. -/
def hyperComponentsUptoCard : Claim7 := { stood := { row := hyperComponentsUptoRow, standIns := [], harness := (true, "297c43443dcd613df36feb01ff9f81e2f139ace8ad17d17613030ba674d4a706"), looks := false }, kinds := [], alts := [], laidByText := true, laidKinds := [.data, .data, .data], laidTests := true, laidLooks := .later }
def HyperComponentsUptoCardSaid : Prop := Claim7.holds Tryd.pinned (.plain (OpenSpec.upto hyperComponentsSpec)) hyperComponentsUptoCard

/-- THE SECOND FORM's CARD OF 'cleanselaw27.HyperParts'. -/
def hyperPartsUptoCard : Claim7 := { stood := { row := hyperPartsUptoRow, standIns := [], harness := (true, "297c43443dcd613df36feb01ff9f81e2f139ace8ad17d17613030ba674d4a706"), looks := false }, kinds := [], alts := [], laidByText := true, laidKinds := [.data, .data, .data], laidTests := true, laidLooks := .later }
def HyperPartsUptoCardSaid : Prop := Claim7.holds Tryd.pinned (.plain (OpenSpec.upto hyperPartsSpec)) hyperPartsUptoCard

/-- THE SECOND FORM's CARD OF 'cleanselaw27.HyperFixed'. -/
def hyperFixedUptoCard : Claim7 := { stood := { row := hyperFixedUptoRow, standIns := [], harness := (true, "297c43443dcd613df36feb01ff9f81e2f139ace8ad17d17613030ba674d4a706"), looks := false }, kinds := [], alts := [], laidByText := true, laidKinds := [.data, .data, .data], laidTests := true, laidLooks := .later }
def HyperFixedUptoCardSaid : Prop := Claim7.holds Tryd.pinned (.plain (OpenSpec.upto hyperFixedSpec)) hyperFixedUptoCard
end Rows
end Go.Proofs.YtoengpialdolbaaDoor
