/-
  DERIVED. GIVEN WITH THE SEED: THE CARDS: each row of YtmglkjigmcikdaaGreatDoorRows.lean that lists a variable, with what it lists TIED to the program's text (the seventh form; the later family's looks); each row that meets fmt, with fmt's text TOLD by the authors' own Lean function (tested against real Go, not proved from fmt's source: count such statements apart). THE CARD IS WHAT COUNTS. Prove the row's statement (the work); the ties are given (YtmglkjigmcikdaaGreatDoorTie.lean); close each card by the builder's one call (the guide's Derived/Test/ToyasCard.lean, 'card_holds'). Laid BY PROGRAM, IN A SANDBOX (cutbox-door.mjs). By AI agents, Wed Nov 11 2026. No macro, syntax, notation, axiom, sorry.
-/
import Derived.Test.YtmglkjigmcikdaaGreatDoorRows
import GoSem.ClaimSeven
namespace Go.Proofs.YtmglkjigmcikdaaGreatDoor
namespace Rows

/-- THE TIED CARD OF 'cleanselaw30.ProofMatchesReference'. -/
def proofMatchesReferenceCard : Claim7 := { stood := { row := proofMatchesReferenceRow, standIns := [], harness := (true, "c7d6c9f0c444159d22a7f857aea0077d345b3310464693100d7771791a040db2"), looks := false }, kinds := [], alts := [], laidByText := true, laidKinds := [.data, .data, .data], laidTests := true, laidLooks := .later }
def ProofMatchesReferenceCardSaid : Prop := Claim7.holds Tryz.pinned (.plain (OpenSpec.ofChange proofMatchesReferenceSpec)) proofMatchesReferenceCard

/-- THE TIED CARD OF 'cleanselaw30.ProofSound'. -/
def proofSoundCard : Claim7 := { stood := { row := proofSoundRow, standIns := [], harness := (true, "c7d6c9f0c444159d22a7f857aea0077d345b3310464693100d7771791a040db2"), looks := false }, kinds := [], alts := [], laidByText := true, laidKinds := [.data, .data, .data], laidTests := true, laidLooks := .later }
def ProofSoundCardSaid : Prop := Claim7.holds Tryz.pinned (.plain (OpenSpec.ofChange proofSoundSpec)) proofSoundCard

/-- THE TIED CARD OF 'cleanselaw30.ProofComplete'. -/
def proofCompleteCard : Claim7 := { stood := { row := proofCompleteRow, standIns := [], harness := (true, "c7d6c9f0c444159d22a7f857aea0077d345b3310464693100d7771791a040db2"), looks := false }, kinds := [], alts := [], laidByText := true, laidKinds := [.data, .data, .data], laidTests := true, laidLooks := .later }
def ProofCompleteCardSaid : Prop := Claim7.holds Tryz.pinned (.plain (OpenSpec.ofChange proofCompleteSpec)) proofCompleteCard

/-- THE TIED CARD OF 'cleanselaw30.ProofClaims'. -/
def proofClaimsCard : Claim7 := { stood := { row := proofClaimsRow, standIns := [], harness := (true, "c7d6c9f0c444159d22a7f857aea0077d345b3310464693100d7771791a040db2"), looks := false }, kinds := [], alts := [], laidByText := true, laidKinds := [.data, .data, .data], laidTests := true, laidLooks := .later }
def ProofClaimsCardSaid : Prop := Claim7.holds Tryz.pinned (.plain (OpenSpec.ofChange proofClaimsSpec)) proofClaimsCard

/-- THE TIED CARD OF 'cleanselaw30.ProofMonotone'. -/
def proofMonotoneCard : Claim7 := { stood := { row := proofMonotoneRow, standIns := [], harness := (true, "c7d6c9f0c444159d22a7f857aea0077d345b3310464693100d7771791a040db2"), looks := false }, kinds := [], alts := [], laidByText := true, laidKinds := [.data, .data, .data], laidTests := true, laidLooks := .later }
def ProofMonotoneCardSaid : Prop := Claim7.holds Tryz.pinned (.plain (OpenSpec.ofChange proofMonotoneSpec)) proofMonotoneCard

/-- THE TIED CARD OF 'cleanselaw30.ProofCut'. -/
def proofCutCard : Claim7 := { stood := { row := proofCutRow, standIns := [], harness := (true, "c7d6c9f0c444159d22a7f857aea0077d345b3310464693100d7771791a040db2"), looks := false }, kinds := [], alts := [], laidByText := true, laidKinds := [.data, .data, .data], laidTests := true, laidLooks := .later }
def ProofCutCardSaid : Prop := Claim7.holds Tryz.pinned (.plain (OpenSpec.ofChange proofCutSpec)) proofCutCard

/-- THE SECOND FORM's CARD OF 'cleanselaw30.ProofMatchesReference'. -/
def proofMatchesReferenceUptoCard : Claim7 := { stood := { row := proofMatchesReferenceUptoRow, standIns := [], harness := (true, "c7d6c9f0c444159d22a7f857aea0077d345b3310464693100d7771791a040db2"), looks := false }, kinds := [], alts := [], laidByText := true, laidKinds := [.data, .data, .data], laidTests := true, laidLooks := .later }
def ProofMatchesReferenceUptoCardSaid : Prop := Claim7.holds Tryz.pinned (.plain (OpenSpec.upto proofMatchesReferenceSpec)) proofMatchesReferenceUptoCard

/-- THE SECOND FORM's CARD OF 'cleanselaw30.ProofSound'. -/
def proofSoundUptoCard : Claim7 := { stood := { row := proofSoundUptoRow, standIns := [], harness := (true, "c7d6c9f0c444159d22a7f857aea0077d345b3310464693100d7771791a040db2"), looks := false }, kinds := [], alts := [], laidByText := true, laidKinds := [.data, .data, .data], laidTests := true, laidLooks := .later }
def ProofSoundUptoCardSaid : Prop := Claim7.holds Tryz.pinned (.plain (OpenSpec.upto proofSoundSpec)) proofSoundUptoCard

/-- THE SECOND FORM's CARD OF 'cleanselaw30.ProofComplete'. -/
def proofCompleteUptoCard : Claim7 := { stood := { row := proofCompleteUptoRow, standIns := [], harness := (true, "c7d6c9f0c444159d22a7f857aea0077d345b3310464693100d7771791a040db2"), looks := false }, kinds := [], alts := [], laidByText := true, laidKinds := [.data, .data, .data], laidTests := true, laidLooks := .later }
def ProofCompleteUptoCardSaid : Prop := Claim7.holds Tryz.pinned (.plain (OpenSpec.upto proofCompleteSpec)) proofCompleteUptoCard

/-- THE SECOND FORM's CARD OF 'cleanselaw30.ProofClaims'. -/
def proofClaimsUptoCard : Claim7 := { stood := { row := proofClaimsUptoRow, standIns := [], harness := (true, "c7d6c9f0c444159d22a7f857aea0077d345b3310464693100d7771791a040db2"), looks := false }, kinds := [], alts := [], laidByText := true, laidKinds := [.data, .data, .data], laidTests := true, laidLooks := .later }
def ProofClaimsUptoCardSaid : Prop := Claim7.holds Tryz.pinned (.plain (OpenSpec.upto proofClaimsSpec)) proofClaimsUptoCard

/-- THE SECOND FORM's CARD OF 'cleanselaw30.ProofMonotone'. -/
def proofMonotoneUptoCard : Claim7 := { stood := { row := proofMonotoneUptoRow, standIns := [], harness := (true, "c7d6c9f0c444159d22a7f857aea0077d345b3310464693100d7771791a040db2"), looks := false }, kinds := [], alts := [], laidByText := true, laidKinds := [.data, .data, .data], laidTests := true, laidLooks := .later }
def ProofMonotoneUptoCardSaid : Prop := Claim7.holds Tryz.pinned (.plain (OpenSpec.upto proofMonotoneSpec)) proofMonotoneUptoCard

/-- THE SECOND FORM's CARD OF 'cleanselaw30.ProofCut'. -/
def proofCutUptoCard : Claim7 := { stood := { row := proofCutUptoRow, standIns := [], harness := (true, "c7d6c9f0c444159d22a7f857aea0077d345b3310464693100d7771791a040db2"), looks := false }, kinds := [], alts := [], laidByText := true, laidKinds := [.data, .data, .data], laidTests := true, laidLooks := .later }
def ProofCutUptoCardSaid : Prop := Claim7.holds Tryz.pinned (.plain (OpenSpec.upto proofCutSpec)) proofCutUptoCard
end Rows
end Go.Proofs.YtmglkjigmcikdaaGreatDoor
