/-
  DERIVED. GIVEN WITH THE SEED: THE CARDS: each row of YtlnbkoojelhjdaaGreatDoorRows.lean that lists a variable, with what it lists TIED to the program's text (the seventh form; the later family's looks); each row that meets fmt, with fmt's text TOLD by the authors' own Lean function (tested against real Go, not proved from fmt's source: count such statements apart). THE CARD IS WHAT COUNTS. Prove the row's statement (the work); the ties are given (YtlnbkoojelhjdaaGreatDoorTie.lean); close each card by the builder's one call (the guide's Derived/Test/ToyasCard.lean, 'card_holds'). Laid BY PROGRAM, IN A SANDBOX (cutbox-door.mjs). By AI agents, Wed Nov 11 2026. No macro, syntax, notation, axiom, sorry.
-/
import Derived.Test.YtlnbkoojelhjdaaGreatDoorRows
import GoSem.ClaimSeven
namespace Go.Proofs.YtlnbkoojelhjdaaGreatDoor
namespace Rows

/-- THE TIED CARD OF 'cleanselaw28.RepairMatchesReference'. -/
def repairMatchesReferenceCard : Claim7 := { stood := { row := repairMatchesReferenceRow, standIns := [], harness := (true, "dde602bc36acce45fdad802be044b0564f978a5a34fdd7d8702d4792e79e227d"), looks := false }, kinds := [], alts := [], laidByText := true, laidKinds := [.data, .data, .data], laidTests := true, laidLooks := .later }
def RepairMatchesReferenceCardSaid : Prop := Claim7.holds Tryz.pinned (.plain (OpenSpec.ofChange repairMatchesReferenceSpec)) repairMatchesReferenceCard

/-- THE TIED CARD OF 'cleanselaw28.RepairCounts'. -/
def repairCountsCard : Claim7 := { stood := { row := repairCountsRow, standIns := [], harness := (true, "dde602bc36acce45fdad802be044b0564f978a5a34fdd7d8702d4792e79e227d"), looks := false }, kinds := [], alts := [], laidByText := true, laidKinds := [.data, .data, .data], laidTests := true, laidLooks := .later }
def RepairCountsCardSaid : Prop := Claim7.holds Tryz.pinned (.plain (OpenSpec.ofChange repairCountsSpec)) repairCountsCard

/-- THE TIED CARD OF 'cleanselaw28.RepairExtends'. -/
def repairExtendsCard : Claim7 := { stood := { row := repairExtendsRow, standIns := [], harness := (true, "dde602bc36acce45fdad802be044b0564f978a5a34fdd7d8702d4792e79e227d"), looks := false }, kinds := [], alts := [], laidByText := true, laidKinds := [.data, .data, .data], laidTests := true, laidLooks := .later }
def RepairExtendsCardSaid : Prop := Claim7.holds Tryz.pinned (.plain (OpenSpec.ofChange repairExtendsSpec)) repairExtendsCard

/-- THE TIED CARD OF 'cleanselaw28.RepairAll'. -/
def repairAllCard : Claim7 := { stood := { row := repairAllRow, standIns := [], harness := (true, "dde602bc36acce45fdad802be044b0564f978a5a34fdd7d8702d4792e79e227d"), looks := false }, kinds := [], alts := [], laidByText := true, laidKinds := [.data, .data, .data], laidTests := true, laidLooks := .later }
def RepairAllCardSaid : Prop := Claim7.holds Tryz.pinned (.plain (OpenSpec.ofChange repairAllSpec)) repairAllCard

/-- THE TIED CARD OF 'cleanselaw28.RepairParts'. -/
def repairPartsCard : Claim7 := { stood := { row := repairPartsRow, standIns := [], harness := (true, "dde602bc36acce45fdad802be044b0564f978a5a34fdd7d8702d4792e79e227d"), looks := false }, kinds := [], alts := [], laidByText := true, laidKinds := [.data, .data, .data], laidTests := true, laidLooks := .later }
def RepairPartsCardSaid : Prop := Claim7.holds Tryz.pinned (.plain (OpenSpec.ofChange repairPartsSpec)) repairPartsCard

/-- THE TIED CARD OF 'cleanselaw28.RepairWitness'. -/
def repairWitnessCard : Claim7 := { stood := { row := repairWitnessRow, standIns := [], harness := (true, "dde602bc36acce45fdad802be044b0564f978a5a34fdd7d8702d4792e79e227d"), looks := false }, kinds := [], alts := [], laidByText := true, laidKinds := [.data, .data, .data], laidTests := true, laidLooks := .later }
def RepairWitnessCardSaid : Prop := Claim7.holds Tryz.pinned (.plain (OpenSpec.ofChange repairWitnessSpec)) repairWitnessCard

/-- THE TIED CARD OF 'cleanselaw28.RepairCheapest'. -/
def repairCheapestCard : Claim7 := { stood := { row := repairCheapestRow, standIns := [], harness := (true, "dde602bc36acce45fdad802be044b0564f978a5a34fdd7d8702d4792e79e227d"), looks := false }, kinds := [], alts := [], laidByText := true, laidKinds := [.data, .data, .data], laidTests := true, laidLooks := .later }
def RepairCheapestCardSaid : Prop := Claim7.holds Tryz.pinned (.plain (OpenSpec.ofChange repairCheapestSpec)) repairCheapestCard

/-- THE TIED CARD OF 'cleanselaw28.RepairFixed'. -/
def repairFixedCard : Claim7 := { stood := { row := repairFixedRow, standIns := [], harness := (true, "dde602bc36acce45fdad802be044b0564f978a5a34fdd7d8702d4792e79e227d"), looks := false }, kinds := [], alts := [], laidByText := true, laidKinds := [.data, .data, .data], laidTests := true, laidLooks := .later }
def RepairFixedCardSaid : Prop := Claim7.holds Tryz.pinned (.plain (OpenSpec.ofChange repairFixedSpec)) repairFixedCard

/-- THE SECOND FORM's CARD OF 'cleanselaw28.RepairMatchesReference'. -/
def repairMatchesReferenceUptoCard : Claim7 := { stood := { row := repairMatchesReferenceUptoRow, standIns := [], harness := (true, "dde602bc36acce45fdad802be044b0564f978a5a34fdd7d8702d4792e79e227d"), looks := false }, kinds := [], alts := [], laidByText := true, laidKinds := [.data, .data, .data], laidTests := true, laidLooks := .later }
def RepairMatchesReferenceUptoCardSaid : Prop := Claim7.holds Tryz.pinned (.plain (OpenSpec.upto repairMatchesReferenceSpec)) repairMatchesReferenceUptoCard

/-- THE SECOND FORM's CARD OF 'cleanselaw28.RepairCounts'. -/
def repairCountsUptoCard : Claim7 := { stood := { row := repairCountsUptoRow, standIns := [], harness := (true, "dde602bc36acce45fdad802be044b0564f978a5a34fdd7d8702d4792e79e227d"), looks := false }, kinds := [], alts := [], laidByText := true, laidKinds := [.data, .data, .data], laidTests := true, laidLooks := .later }
def RepairCountsUptoCardSaid : Prop := Claim7.holds Tryz.pinned (.plain (OpenSpec.upto repairCountsSpec)) repairCountsUptoCard

/-- THE SECOND FORM's CARD OF 'cleanselaw28.RepairExtends'. -/
def repairExtendsUptoCard : Claim7 := { stood := { row := repairExtendsUptoRow, standIns := [], harness := (true, "dde602bc36acce45fdad802be044b0564f978a5a34fdd7d8702d4792e79e227d"), looks := false }, kinds := [], alts := [], laidByText := true, laidKinds := [.data, .data, .data], laidTests := true, laidLooks := .later }
def RepairExtendsUptoCardSaid : Prop := Claim7.holds Tryz.pinned (.plain (OpenSpec.upto repairExtendsSpec)) repairExtendsUptoCard

/-- THE SECOND FORM's CARD OF 'cleanselaw28.RepairAll'. -/
def repairAllUptoCard : Claim7 := { stood := { row := repairAllUptoRow, standIns := [], harness := (true, "dde602bc36acce45fdad802be044b0564f978a5a34fdd7d8702d4792e79e227d"), looks := false }, kinds := [], alts := [], laidByText := true, laidKinds := [.data, .data, .data], laidTests := true, laidLooks := .later }
def RepairAllUptoCardSaid : Prop := Claim7.holds Tryz.pinned (.plain (OpenSpec.upto repairAllSpec)) repairAllUptoCard

/-- THE SECOND FORM's CARD OF 'cleanselaw28.RepairParts'. -/
def repairPartsUptoCard : Claim7 := { stood := { row := repairPartsUptoRow, standIns := [], harness := (true, "dde602bc36acce45fdad802be044b0564f978a5a34fdd7d8702d4792e79e227d"), looks := false }, kinds := [], alts := [], laidByText := true, laidKinds := [.data, .data, .data], laidTests := true, laidLooks := .later }
def RepairPartsUptoCardSaid : Prop := Claim7.holds Tryz.pinned (.plain (OpenSpec.upto repairPartsSpec)) repairPartsUptoCard

/-- THE SECOND FORM's CARD OF 'cleanselaw28.RepairWitness'. -/
def repairWitnessUptoCard : Claim7 := { stood := { row := repairWitnessUptoRow, standIns := [], harness := (true, "dde602bc36acce45fdad802be044b0564f978a5a34fdd7d8702d4792e79e227d"), looks := false }, kinds := [], alts := [], laidByText := true, laidKinds := [.data, .data, .data], laidTests := true, laidLooks := .later }
def RepairWitnessUptoCardSaid : Prop := Claim7.holds Tryz.pinned (.plain (OpenSpec.upto repairWitnessSpec)) repairWitnessUptoCard

/-- THE SECOND FORM's CARD OF 'cleanselaw28.RepairCheapest'. -/
def repairCheapestUptoCard : Claim7 := { stood := { row := repairCheapestUptoRow, standIns := [], harness := (true, "dde602bc36acce45fdad802be044b0564f978a5a34fdd7d8702d4792e79e227d"), looks := false }, kinds := [], alts := [], laidByText := true, laidKinds := [.data, .data, .data], laidTests := true, laidLooks := .later }
def RepairCheapestUptoCardSaid : Prop := Claim7.holds Tryz.pinned (.plain (OpenSpec.upto repairCheapestSpec)) repairCheapestUptoCard

/-- THE SECOND FORM's CARD OF 'cleanselaw28.RepairFixed'. -/
def repairFixedUptoCard : Claim7 := { stood := { row := repairFixedUptoRow, standIns := [], harness := (true, "dde602bc36acce45fdad802be044b0564f978a5a34fdd7d8702d4792e79e227d"), looks := false }, kinds := [], alts := [], laidByText := true, laidKinds := [.data, .data, .data], laidTests := true, laidLooks := .later }
def RepairFixedUptoCardSaid : Prop := Claim7.holds Tryz.pinned (.plain (OpenSpec.upto repairFixedSpec)) repairFixedUptoCard
end Rows
end Go.Proofs.YtlnbkoojelhjdaaGreatDoor
