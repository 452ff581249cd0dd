/-
  NARROWER THAN 'FOR EVERY INPUT', by the rows' own cells (each row's printed sentence says how): GoldenMatchesReference: loops · GoldenValues: loops · GoldenEntities: loops · GoldenVariants: loops · GoldenSplits: loops · GoldenLocal: loops.
  DERIVED. THE GIVEN ROWS OF THIS SEAT. 6 by the template 'for every input the law returns true; each argument reads behind the call as it read before'; 0 by the template 'total and deterministic' (their statements: YtckihgamnmmbnaaTotals.lean).
  GIVEN WITH THE SEED: the statements are not yours to turn. If you find one false, say at which input.
  Laid BY PROGRAM, IN A SANDBOX (cutbox-rows.mjs): the forced cells as the released guide's own fill.sh prints them over the translation 8c1cad1807193e5c… (all of the seat's roots in one cut). By AI agents, Wed Nov 11 2026. No macro, syntax, notation, axiom, sorry.
-/
import Derived.Test.YtckihgamnmmbnaaChecked
import GoSem.Claim
import GoSem.ClaimJoined
import GoSem.ClaimMapViews
import Derived.JoinedTies
import Derived.KernelRfl
namespace Go.Proofs.Ytckihgamnmmbnaa
/- THE CELL 'sum', in the pinned program and in every row, IS THE sha256 OF THE DUMP (.gsa) THAT YtckihgamnmmbnaaProg.lean LOADS. Nothing in Lean hashes anything: it is a label: what it is worth is what the hold of that sum in a sandbox is worth. -/
noncomputable def Try.pinned : Pinned := { name := "ytckihgamnmmbnaa", sum := "8c1cad1807193e5c0f469bba8dffcecf475b6da275258448cc8bd16b578fc8d2", checked := Try.checked }
namespace Rows
def none {H : Type} : Left H := { results := [], args := [] }

/-- 'cleanselaw24.GoldenMatchesReference': WHATEVER THE INPUT: true; the input reads as it did. -/
def goldenMatchesReferenceSpec : ChangeSpec := { name := "goldenMatchesReference", fn := fun _ => fun
  | [d1, d2, d3, d4] => { results := [.lit (.bool true)], args := [d1, d2, d3, d4] }
  | _ => none }
def goldenMatchesReferenceRow : OpenClaim := { program := "ytckihgamnmmbnaa", sum := "8c1cad1807193e5c0f469bba8dffcecf475b6da275258448cc8bd16b578fc8d2", func := "cleanse/cleanselaw24.GoldenMatchesReference", spec := "goldenMatchesReference", unfollowed := true, recurses := true, loops := true, plainKeys := false, apart := false }
def GoldenMatchesReferenceSaid : Prop := goldenMatchesReferenceRow.holds Try.pinned (OpenSpec.ofChange goldenMatchesReferenceSpec)

/-- ITS FALSE NEIGHBOUR: 'it returns false'. Refute it at one input. -/
def goldenMatchesReferenceWrong : ChangeSpec := { name := "goldenMatchesReference", fn := fun _ => fun
  | [d1, d2, d3, d4] => { results := [.lit (.bool false)], args := [d1, d2, d3, d4] }
  | _ => none }
def GoldenMatchesReferenceWrongFalsely : Prop := goldenMatchesReferenceRow.holds Try.pinned (OpenSpec.ofChange goldenMatchesReferenceWrong)

/-- 'cleanselaw24.GoldenValues': WHATEVER THE INPUT: true; the input reads as it did. -/
def goldenValuesSpec : ChangeSpec := { name := "goldenValues", fn := fun _ => fun
  | [d1, d2, d3] => { results := [.lit (.bool true)], args := [d1, d2, d3] }
  | _ => none }
def goldenValuesRow : OpenClaim := { program := "ytckihgamnmmbnaa", sum := "8c1cad1807193e5c0f469bba8dffcecf475b6da275258448cc8bd16b578fc8d2", func := "cleanse/cleanselaw24.GoldenValues", spec := "goldenValues", unfollowed := true, recurses := true, loops := true, plainKeys := false, apart := false }
def GoldenValuesSaid : Prop := goldenValuesRow.holds Try.pinned (OpenSpec.ofChange goldenValuesSpec)

/-- ITS FALSE NEIGHBOUR: 'it returns false'. Refute it at one input. -/
def goldenValuesWrong : ChangeSpec := { name := "goldenValues", fn := fun _ => fun
  | [d1, d2, d3] => { results := [.lit (.bool false)], args := [d1, d2, d3] }
  | _ => none }
def GoldenValuesWrongFalsely : Prop := goldenValuesRow.holds Try.pinned (OpenSpec.ofChange goldenValuesWrong)

/-- 'cleanselaw24.GoldenEntities': WHATEVER THE INPUT: true; the input reads as it did. -/
def goldenEntitiesSpec : ChangeSpec := { name := "goldenEntities", fn := fun _ => fun
  | [d1, d2, d3] => { results := [.lit (.bool true)], args := [d1, d2, d3] }
  | _ => none }
def goldenEntitiesRow : OpenClaim := { program := "ytckihgamnmmbnaa", sum := "8c1cad1807193e5c0f469bba8dffcecf475b6da275258448cc8bd16b578fc8d2", func := "cleanse/cleanselaw24.GoldenEntities", spec := "goldenEntities", unfollowed := true, recurses := true, loops := true, plainKeys := false, apart := false }
def GoldenEntitiesSaid : Prop := goldenEntitiesRow.holds Try.pinned (OpenSpec.ofChange goldenEntitiesSpec)

/-- ITS FALSE NEIGHBOUR: 'it returns false'. Refute it at one input. -/
def goldenEntitiesWrong : ChangeSpec := { name := "goldenEntities", fn := fun _ => fun
  | [d1, d2, d3] => { results := [.lit (.bool false)], args := [d1, d2, d3] }
  | _ => none }
def GoldenEntitiesWrongFalsely : Prop := goldenEntitiesRow.holds Try.pinned (OpenSpec.ofChange goldenEntitiesWrong)

/-- 'cleanselaw24.GoldenVariants': WHATEVER THE INPUT: true; the input reads as it did. -/
def goldenVariantsSpec : ChangeSpec := { name := "goldenVariants", fn := fun _ => fun
  | [d1, d2, d3] => { results := [.lit (.bool true)], args := [d1, d2, d3] }
  | _ => none }
def goldenVariantsRow : OpenClaim := { program := "ytckihgamnmmbnaa", sum := "8c1cad1807193e5c0f469bba8dffcecf475b6da275258448cc8bd16b578fc8d2", func := "cleanse/cleanselaw24.GoldenVariants", spec := "goldenVariants", unfollowed := true, recurses := true, loops := true, plainKeys := false, apart := false }
def GoldenVariantsSaid : Prop := goldenVariantsRow.holds Try.pinned (OpenSpec.ofChange goldenVariantsSpec)

/-- ITS FALSE NEIGHBOUR: 'it returns false'. Refute it at one input. -/
def goldenVariantsWrong : ChangeSpec := { name := "goldenVariants", fn := fun _ => fun
  | [d1, d2, d3] => { results := [.lit (.bool false)], args := [d1, d2, d3] }
  | _ => none }
def GoldenVariantsWrongFalsely : Prop := goldenVariantsRow.holds Try.pinned (OpenSpec.ofChange goldenVariantsWrong)

/-- 'cleanselaw24.GoldenSplits': WHATEVER THE INPUT: true; the input reads as it did. -/
def goldenSplitsSpec : ChangeSpec := { name := "goldenSplits", fn := fun _ => fun
  | [d1, d2, d3] => { results := [.lit (.bool true)], args := [d1, d2, d3] }
  | _ => none }
def goldenSplitsRow : OpenClaim := { program := "ytckihgamnmmbnaa", sum := "8c1cad1807193e5c0f469bba8dffcecf475b6da275258448cc8bd16b578fc8d2", func := "cleanse/cleanselaw24.GoldenSplits", spec := "goldenSplits", unfollowed := true, recurses := true, loops := true, plainKeys := false, apart := false }
def GoldenSplitsSaid : Prop := goldenSplitsRow.holds Try.pinned (OpenSpec.ofChange goldenSplitsSpec)

/-- ITS FALSE NEIGHBOUR: 'it returns false'. Refute it at one input. -/
def goldenSplitsWrong : ChangeSpec := { name := "goldenSplits", fn := fun _ => fun
  | [d1, d2, d3] => { results := [.lit (.bool false)], args := [d1, d2, d3] }
  | _ => none }
def GoldenSplitsWrongFalsely : Prop := goldenSplitsRow.holds Try.pinned (OpenSpec.ofChange goldenSplitsWrong)

/-- 'cleanselaw24.GoldenLocal': WHATEVER THE INPUT: true; the input reads as it did. -/
def goldenLocalSpec : ChangeSpec := { name := "goldenLocal", fn := fun _ => fun
  | [d1, d2, d3, d4] => { results := [.lit (.bool true)], args := [d1, d2, d3, d4] }
  | _ => none }
def goldenLocalRow : OpenClaim := { program := "ytckihgamnmmbnaa", sum := "8c1cad1807193e5c0f469bba8dffcecf475b6da275258448cc8bd16b578fc8d2", func := "cleanse/cleanselaw24.GoldenLocal", spec := "goldenLocal", unfollowed := true, recurses := true, loops := true, plainKeys := false, apart := false }
def GoldenLocalSaid : Prop := goldenLocalRow.holds Try.pinned (OpenSpec.ofChange goldenLocalSpec)

/-- ITS FALSE NEIGHBOUR: 'it returns false'. Refute it at one input. -/
def goldenLocalWrong : ChangeSpec := { name := "goldenLocal", fn := fun _ => fun
  | [d1, d2, d3, d4] => { results := [.lit (.bool false)], args := [d1, d2, d3, d4] }
  | _ => none }
def GoldenLocalWrongFalsely : Prop := goldenLocalRow.holds Try.pinned (OpenSpec.ofChange goldenLocalWrong)

/- THE SECOND FORM. 'bulk': how many values and letters a reading holds, each counted each time it is reached (what is shared counts as often as it is met; a slice's spare places count too). A statement '..UptoSaid' is the law's where the arguments, and the package variables that the reading takes, are together of bulk at most 1048576: NARROWER than '..Said'. Prove '..Said' where nothing that the law and all that it calls make is longer than what came in: it says more and counts as full. Else prove '..UptoSaid'. A law counts once. -/
mutual
def uptoBulk {H : Type} : DataW H → Nat
  | .lit (.string bytes) => bytes.length + 1
  | .lit _ => 1
  | .nil => 1
  | .ptr d => uptoBulk d + 1
  | .slice elems spare => uptoBulkAll elems + uptoBulkAll spare + 1
  | .agg parts => uptoBulkAll parts + 1
  | .iface _ d => uptoBulk d + 1
  | .map entries => uptoBulkEntries entries + 1
  | .held _ => 1
def uptoBulkAll {H : Type} : List (DataW H) → Nat
  | [] => 0
  | d :: r => uptoBulk d + uptoBulkAll r
def uptoBulkEntries {H : Type} : List (Lit × DataW H) → Nat
  | [] => 0
  | x :: r => uptoBulkEntry x + uptoBulkEntries r
def uptoBulkEntry {H : Type} : Lit × DataW H → Nat
  | (.string bytes, d) => bytes.length + uptoBulk d + 1
  | (_, d) => uptoBulk d + 1
 end
def uptoSmall : (H : Type) → List (DataW H) → Bool := fun _ ds => decide (uptoBulkAll ds ≤ 1048576)
def OpenSpec.upto (s : _root_.Go.ChangeSpec) : _root_.Go.OpenSpec := { _root_.Go.OpenSpec.ofChange s with cond := some uptoSmall }

/-- 'cleanselaw24.GoldenMatchesReference', WHERE WHAT IT READS IS OF BULK AT MOST 1048576: true; the input reads as it did. -/
def goldenMatchesReferenceUptoRow : OpenClaim := { program := "ytckihgamnmmbnaa", sum := "8c1cad1807193e5c0f469bba8dffcecf475b6da275258448cc8bd16b578fc8d2", func := "cleanse/cleanselaw24.GoldenMatchesReference", spec := "goldenMatchesReference", unfollowed := true, recurses := true, loops := true, plainKeys := false, apart := false, narrowed := true }
def GoldenMatchesReferenceUptoSaid : Prop := goldenMatchesReferenceUptoRow.holds Try.pinned (OpenSpec.upto goldenMatchesReferenceSpec)

/-- 'cleanselaw24.GoldenValues', WHERE WHAT IT READS IS OF BULK AT MOST 1048576: true; the input reads as it did. -/
def goldenValuesUptoRow : OpenClaim := { program := "ytckihgamnmmbnaa", sum := "8c1cad1807193e5c0f469bba8dffcecf475b6da275258448cc8bd16b578fc8d2", func := "cleanse/cleanselaw24.GoldenValues", spec := "goldenValues", unfollowed := true, recurses := true, loops := true, plainKeys := false, apart := false, narrowed := true }
def GoldenValuesUptoSaid : Prop := goldenValuesUptoRow.holds Try.pinned (OpenSpec.upto goldenValuesSpec)

/-- 'cleanselaw24.GoldenEntities', WHERE WHAT IT READS IS OF BULK AT MOST 1048576: true; the input reads as it did. -/
def goldenEntitiesUptoRow : OpenClaim := { program := "ytckihgamnmmbnaa", sum := "8c1cad1807193e5c0f469bba8dffcecf475b6da275258448cc8bd16b578fc8d2", func := "cleanse/cleanselaw24.GoldenEntities", spec := "goldenEntities", unfollowed := true, recurses := true, loops := true, plainKeys := false, apart := false, narrowed := true }
def GoldenEntitiesUptoSaid : Prop := goldenEntitiesUptoRow.holds Try.pinned (OpenSpec.upto goldenEntitiesSpec)

/-- 'cleanselaw24.GoldenVariants', WHERE WHAT IT READS IS OF BULK AT MOST 1048576: true; the input reads as it did. -/
def goldenVariantsUptoRow : OpenClaim := { program := "ytckihgamnmmbnaa", sum := "8c1cad1807193e5c0f469bba8dffcecf475b6da275258448cc8bd16b578fc8d2", func := "cleanse/cleanselaw24.GoldenVariants", spec := "goldenVariants", unfollowed := true, recurses := true, loops := true, plainKeys := false, apart := false, narrowed := true }
def GoldenVariantsUptoSaid : Prop := goldenVariantsUptoRow.holds Try.pinned (OpenSpec.upto goldenVariantsSpec)

/-- 'cleanselaw24.GoldenSplits', WHERE WHAT IT READS IS OF BULK AT MOST 1048576: true; the input reads as it did. -/
def goldenSplitsUptoRow : OpenClaim := { program := "ytckihgamnmmbnaa", sum := "8c1cad1807193e5c0f469bba8dffcecf475b6da275258448cc8bd16b578fc8d2", func := "cleanse/cleanselaw24.GoldenSplits", spec := "goldenSplits", unfollowed := true, recurses := true, loops := true, plainKeys := false, apart := false, narrowed := true }
def GoldenSplitsUptoSaid : Prop := goldenSplitsUptoRow.holds Try.pinned (OpenSpec.upto goldenSplitsSpec)

/-- 'cleanselaw24.GoldenLocal', WHERE WHAT IT READS IS OF BULK AT MOST 1048576: true; the input reads as it did. -/
def goldenLocalUptoRow : OpenClaim := { program := "ytckihgamnmmbnaa", sum := "8c1cad1807193e5c0f469bba8dffcecf475b6da275258448cc8bd16b578fc8d2", func := "cleanse/cleanselaw24.GoldenLocal", spec := "goldenLocal", unfollowed := true, recurses := true, loops := true, plainKeys := false, apart := false, narrowed := true }
def GoldenLocalUptoSaid : Prop := goldenLocalUptoRow.holds Try.pinned (OpenSpec.upto goldenLocalSpec)

end Rows
end Go.Proofs.Ytckihgamnmmbnaa
