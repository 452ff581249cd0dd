/-
  DERIVED. GIVEN WITH THE SEED: THE CARDS: each row of YtdkhcipjenfcnaaGreatDoorRows.lean that lists a variable, with what it lists TIED to the program's text (the seventh form; the later family's looks); each row that meets fmt, with fmt's text TOLD by the authors' own Lean function (tested against real Go, not proved from fmt's source: count such statements apart). THE CARD IS WHAT COUNTS. Prove the row's statement (the work); the ties are given (YtdkhcipjenfcnaaGreatDoorTie.lean); close each card by the builder's one call (the guide's Derived/Test/ToyasCard.lean, 'card_holds'). Laid BY PROGRAM, IN A SANDBOX (cutbox-door.mjs). By AI agents, Wed Nov 11 2026. No macro, syntax, notation, axiom, sorry.
-/
import Derived.Test.YtdkhcipjenfcnaaGreatDoorRows
import GoSem.ClaimSeven
namespace Go.Proofs.YtdkhcipjenfcnaaGreatDoor
namespace Rows

/-- THE TIED CARD OF 'cleanselaw31.AggregateMatchesReference'. -/
def aggregateMatchesReferenceCard : Claim7 := { stood := { row := aggregateMatchesReferenceRow, standIns := [], harness := (true, "7842b329e9579e01d2d0348d0c70c0b3eb6e58f59f944c150348f95828c1e769"), looks := false }, kinds := [], alts := [], laidByText := true, laidKinds := [.data, .data, .data], laidTests := true, laidLooks := .later }
def AggregateMatchesReferenceCardSaid : Prop := Claim7.holds Tryz.pinned (.plain (OpenSpec.ofChange aggregateMatchesReferenceSpec)) aggregateMatchesReferenceCard

/-- THE TIED CARD OF 'cleanselaw31.AggregateChecks'. -/
def aggregateChecksCard : Claim7 := { stood := { row := aggregateChecksRow, standIns := [], harness := (true, "7842b329e9579e01d2d0348d0c70c0b3eb6e58f59f944c150348f95828c1e769"), looks := false }, kinds := [], alts := [], laidByText := true, laidKinds := [.data, .data, .data], laidTests := true, laidLooks := .later }
def AggregateChecksCardSaid : Prop := Claim7.holds Tryz.pinned (.plain (OpenSpec.ofChange aggregateChecksSpec)) aggregateChecksCard

/-- THE TIED CARD OF 'cleanselaw31.AggregateExact'. -/
def aggregateExactCard : Claim7 := { stood := { row := aggregateExactRow, standIns := [], harness := (true, "7842b329e9579e01d2d0348d0c70c0b3eb6e58f59f944c150348f95828c1e769"), looks := false }, kinds := [], alts := [], laidByText := true, laidKinds := [.data, .data, .data], laidTests := true, laidLooks := .later }
def AggregateExactCardSaid : Prop := Claim7.holds Tryz.pinned (.plain (OpenSpec.ofChange aggregateExactSpec)) aggregateExactCard

/-- THE TIED CARD OF 'cleanselaw31.AggregateLinear'. -/
def aggregateLinearCard : Claim7 := { stood := { row := aggregateLinearRow, standIns := [], harness := (true, "7842b329e9579e01d2d0348d0c70c0b3eb6e58f59f944c150348f95828c1e769"), looks := false }, kinds := [], alts := [], laidByText := true, laidKinds := [.data, .data, .data], laidTests := true, laidLooks := .later }
def AggregateLinearCardSaid : Prop := Claim7.holds Tryz.pinned (.plain (OpenSpec.ofChange aggregateLinearSpec)) aggregateLinearCard

/-- THE TIED CARD OF 'cleanselaw31.AggregateParts'. -/
def aggregatePartsCard : Claim7 := { stood := { row := aggregatePartsRow, standIns := [], harness := (true, "7842b329e9579e01d2d0348d0c70c0b3eb6e58f59f944c150348f95828c1e769"), looks := false }, kinds := [], alts := [], laidByText := true, laidKinds := [.data, .data, .data], laidTests := true, laidLooks := .later }
def AggregatePartsCardSaid : Prop := Claim7.holds Tryz.pinned (.plain (OpenSpec.ofChange aggregatePartsSpec)) aggregatePartsCard

/-- THE TIED CARD OF 'cleanselaw31.AggregateSound'. -/
def aggregateSoundCard : Claim7 := { stood := { row := aggregateSoundRow, standIns := [], harness := (true, "7842b329e9579e01d2d0348d0c70c0b3eb6e58f59f944c150348f95828c1e769"), looks := false }, kinds := [], alts := [], laidByText := true, laidKinds := [.data, .data, .data], laidTests := true, laidLooks := .later }
def AggregateSoundCardSaid : Prop := Claim7.holds Tryz.pinned (.plain (OpenSpec.ofChange aggregateSoundSpec)) aggregateSoundCard

/-- THE TIED CARD OF 'cleanselaw31.AggregateCounts'. -/
def aggregateCountsCard : Claim7 := { stood := { row := aggregateCountsRow, standIns := [], harness := (true, "7842b329e9579e01d2d0348d0c70c0b3eb6e58f59f944c150348f95828c1e769"), looks := false }, kinds := [], alts := [], laidByText := true, laidKinds := [.data, .data, .data], laidTests := true, laidLooks := .later }
def AggregateCountsCardSaid : Prop := Claim7.holds Tryz.pinned (.plain (OpenSpec.ofChange aggregateCountsSpec)) aggregateCountsCard

/-- THE TIED CARD OF 'cleanselaw31.AggregatePeaks'. -/
def aggregatePeaksCard : Claim7 := { stood := { row := aggregatePeaksRow, standIns := [], harness := (true, "7842b329e9579e01d2d0348d0c70c0b3eb6e58f59f944c150348f95828c1e769"), looks := false }, kinds := [], alts := [], laidByText := true, laidKinds := [.data, .data, .data], laidTests := true, laidLooks := .later }
def AggregatePeaksCardSaid : Prop := Claim7.holds Tryz.pinned (.plain (OpenSpec.ofChange aggregatePeaksSpec)) aggregatePeaksCard

/-- THE SECOND FORM's CARD OF 'cleanselaw31.AggregateMatchesReference'. -/
def aggregateMatchesReferenceUptoCard : Claim7 := { stood := { row := aggregateMatchesReferenceUptoRow, standIns := [], harness := (true, "7842b329e9579e01d2d0348d0c70c0b3eb6e58f59f944c150348f95828c1e769"), looks := false }, kinds := [], alts := [], laidByText := true, laidKinds := [.data, .data, .data], laidTests := true, laidLooks := .later }
def AggregateMatchesReferenceUptoCardSaid : Prop := Claim7.holds Tryz.pinned (.plain (OpenSpec.upto aggregateMatchesReferenceSpec)) aggregateMatchesReferenceUptoCard

/-- THE SECOND FORM's CARD OF 'cleanselaw31.AggregateChecks'. -/
def aggregateChecksUptoCard : Claim7 := { stood := { row := aggregateChecksUptoRow, standIns := [], harness := (true, "7842b329e9579e01d2d0348d0c70c0b3eb6e58f59f944c150348f95828c1e769"), looks := false }, kinds := [], alts := [], laidByText := true, laidKinds := [.data, .data, .data], laidTests := true, laidLooks := .later }
def AggregateChecksUptoCardSaid : Prop := Claim7.holds Tryz.pinned (.plain (OpenSpec.upto aggregateChecksSpec)) aggregateChecksUptoCard

/-- THE SECOND FORM's CARD OF 'cleanselaw31.AggregateExact'. -/
def aggregateExactUptoCard : Claim7 := { stood := { row := aggregateExactUptoRow, standIns := [], harness := (true, "7842b329e9579e01d2d0348d0c70c0b3eb6e58f59f944c150348f95828c1e769"), looks := false }, kinds := [], alts := [], laidByText := true, laidKinds := [.data, .data, .data], laidTests := true, laidLooks := .later }
def AggregateExactUptoCardSaid : Prop := Claim7.holds Tryz.pinned (.plain (OpenSpec.upto aggregateExactSpec)) aggregateExactUptoCard

/-- THE SECOND FORM's CARD OF 'cleanselaw31.AggregateLinear'. -/
def aggregateLinearUptoCard : Claim7 := { stood := { row := aggregateLinearUptoRow, standIns := [], harness := (true, "7842b329e9579e01d2d0348d0c70c0b3eb6e58f59f944c150348f95828c1e769"), looks := false }, kinds := [], alts := [], laidByText := true, laidKinds := [.data, .data, .data], laidTests := true, laidLooks := .later }
def AggregateLinearUptoCardSaid : Prop := Claim7.holds Tryz.pinned (.plain (OpenSpec.upto aggregateLinearSpec)) aggregateLinearUptoCard

/-- THE SECOND FORM's CARD OF 'cleanselaw31.AggregateParts'. -/
def aggregatePartsUptoCard : Claim7 := { stood := { row := aggregatePartsUptoRow, standIns := [], harness := (true, "7842b329e9579e01d2d0348d0c70c0b3eb6e58f59f944c150348f95828c1e769"), looks := false }, kinds := [], alts := [], laidByText := true, laidKinds := [.data, .data, .data], laidTests := true, laidLooks := .later }
def AggregatePartsUptoCardSaid : Prop := Claim7.holds Tryz.pinned (.plain (OpenSpec.upto aggregatePartsSpec)) aggregatePartsUptoCard

/-- THE SECOND FORM's CARD OF 'cleanselaw31.AggregateSound'. -/
def aggregateSoundUptoCard : Claim7 := { stood := { row := aggregateSoundUptoRow, standIns := [], harness := (true, "7842b329e9579e01d2d0348d0c70c0b3eb6e58f59f944c150348f95828c1e769"), looks := false }, kinds := [], alts := [], laidByText := true, laidKinds := [.data, .data, .data], laidTests := true, laidLooks := .later }
def AggregateSoundUptoCardSaid : Prop := Claim7.holds Tryz.pinned (.plain (OpenSpec.upto aggregateSoundSpec)) aggregateSoundUptoCard

/-- THE SECOND FORM's CARD OF 'cleanselaw31.AggregateCounts'. -/
def aggregateCountsUptoCard : Claim7 := { stood := { row := aggregateCountsUptoRow, standIns := [], harness := (true, "7842b329e9579e01d2d0348d0c70c0b3eb6e58f59f944c150348f95828c1e769"), looks := false }, kinds := [], alts := [], laidByText := true, laidKinds := [.data, .data, .data], laidTests := true, laidLooks := .later }
def AggregateCountsUptoCardSaid : Prop := Claim7.holds Tryz.pinned (.plain (OpenSpec.upto aggregateCountsSpec)) aggregateCountsUptoCard

/-- THE SECOND FORM's CARD OF 'cleanselaw31.AggregatePeaks'. -/
def aggregatePeaksUptoCard : Claim7 := { stood := { row := aggregatePeaksUptoRow, standIns := [], harness := (true, "7842b329e9579e01d2d0348d0c70c0b3eb6e58f59f944c150348f95828c1e769"), looks := false }, kinds := [], alts := [], laidByText := true, laidKinds := [.data, .data, .data], laidTests := true, laidLooks := .later }
def AggregatePeaksUptoCardSaid : Prop := Claim7.holds Tryz.pinned (.plain (OpenSpec.upto aggregatePeaksSpec)) aggregatePeaksUptoCard
end Rows
end Go.Proofs.YtdkhcipjenfcnaaGreatDoor
