/-
  No cell of these rows narrows 'for every input' (looked for: loops, veiled, ifaces, maps, wideKeys, modest, calm, conditions, laid).
  DERIVED. THE GIVEN ROWS OF THIS SEAT. 7 by the template 'for every input the law returns true; each argument reads behind the call as it read before'; 0 by the template 'total and deterministic' (their statements: YtglaigeellpikaaTotals.lean).
  GIVEN WITH THE SEED: the statements are not yours to turn. If you find one false, say at which input.
  Laid BY PROGRAM, IN A SANDBOX (cutbox-rows.mjs): the forced cells as the released guide's own fill.sh prints them over the translation b55d32f1a0709511… (all of the seat's roots in one cut). By AI agents, Wed Nov 11 2026. No macro, syntax, notation, axiom, sorry.
-/
import Derived.Test.YtglaigeellpikaaChecked
import GoSem.Claim
import GoSem.ClaimJoined
import GoSem.ClaimMapViews
import Derived.JoinedTies
import Derived.KernelRfl
namespace Go.Proofs.Ytglaigeellpikaa
/- THE CELL 'sum', in the pinned program and in every row, IS THE sha256 OF THE DUMP (.gsa) THAT YtglaigeellpikaaProg.lean LOADS. Nothing in Lean hashes anything: it is a label: what it is worth is what the hold of that sum in a sandbox is worth. -/
noncomputable def Try.pinned : Pinned := { name := "ytglaigeellpikaa", sum := "b55d32f1a0709511919326893481144e653ece9aa7a0951bff1cf5a6c4e304f6", checked := Try.checked }
namespace Rows
def none {H : Type} : Left H := { results := [], args := [] }

/-- 'cleanselaw22.ClusterMatchesReference': WHATEVER THE INPUT: true; the input reads as it did. -/
def clusterMatchesReferenceSpec : ChangeSpec := { name := "clusterMatchesReference", fn := fun _ => fun
  | [d1, d2, d3, d4] => { results := [.lit (.bool true)], args := [d1, d2, d3, d4] }
  | _ => none }
def clusterMatchesReferenceRow : OpenClaim := { program := "ytglaigeellpikaa", sum := "b55d32f1a0709511919326893481144e653ece9aa7a0951bff1cf5a6c4e304f6", func := "cleanse/cleanselaw22.ClusterMatchesReference", spec := "clusterMatchesReference", inPlace := ["maps.clone"], unfollowed := true, recurses := true, plainKeys := false, apart := false }
def ClusterMatchesReferenceSaid : Prop := clusterMatchesReferenceRow.holds Try.pinned (OpenSpec.ofChange clusterMatchesReferenceSpec)

/-- ITS FALSE NEIGHBOUR: 'it returns false'. Refute it at one input. -/
def clusterMatchesReferenceWrong : ChangeSpec := { name := "clusterMatchesReference", fn := fun _ => fun
  | [d1, d2, d3, d4] => { results := [.lit (.bool false)], args := [d1, d2, d3, d4] }
  | _ => none }
def ClusterMatchesReferenceWrongFalsely : Prop := clusterMatchesReferenceRow.holds Try.pinned (OpenSpec.ofChange clusterMatchesReferenceWrong)

/-- 'cleanselaw22.ClusterAllowed': WHATEVER THE INPUT: true; the input reads as it did. -/
def clusterAllowedSpec : ChangeSpec := { name := "clusterAllowed", fn := fun _ => fun
  | [d1, d2, d3] => { results := [.lit (.bool true)], args := [d1, d2, d3] }
  | _ => none }
def clusterAllowedRow : OpenClaim := { program := "ytglaigeellpikaa", sum := "b55d32f1a0709511919326893481144e653ece9aa7a0951bff1cf5a6c4e304f6", func := "cleanse/cleanselaw22.ClusterAllowed", spec := "clusterAllowed", inPlace := ["maps.clone"], unfollowed := true, recurses := true, plainKeys := false, apart := false }
def ClusterAllowedSaid : Prop := clusterAllowedRow.holds Try.pinned (OpenSpec.ofChange clusterAllowedSpec)

/-- ITS FALSE NEIGHBOUR: 'it returns false'. Refute it at one input. -/
def clusterAllowedWrong : ChangeSpec := { name := "clusterAllowed", fn := fun _ => fun
  | [d1, d2, d3] => { results := [.lit (.bool false)], args := [d1, d2, d3] }
  | _ => none }
def ClusterAllowedWrongFalsely : Prop := clusterAllowedRow.holds Try.pinned (OpenSpec.ofChange clusterAllowedWrong)

/-- 'cleanselaw22.ClusterLeast': WHATEVER THE INPUT: true; the input reads as it did. -/
def clusterLeastSpec : ChangeSpec := { name := "clusterLeast", fn := fun _ => fun
  | [d1, d2, d3, d4] => { results := [.lit (.bool true)], args := [d1, d2, d3, d4] }
  | _ => none }
def clusterLeastRow : OpenClaim := { program := "ytglaigeellpikaa", sum := "b55d32f1a0709511919326893481144e653ece9aa7a0951bff1cf5a6c4e304f6", func := "cleanse/cleanselaw22.ClusterLeast", spec := "clusterLeast", inPlace := ["maps.clone"], unfollowed := true, recurses := true, plainKeys := false, apart := false }
def ClusterLeastSaid : Prop := clusterLeastRow.holds Try.pinned (OpenSpec.ofChange clusterLeastSpec)

/-- ITS FALSE NEIGHBOUR: 'it returns false'. Refute it at one input. -/
def clusterLeastWrong : ChangeSpec := { name := "clusterLeast", fn := fun _ => fun
  | [d1, d2, d3, d4] => { results := [.lit (.bool false)], args := [d1, d2, d3, d4] }
  | _ => none }
def ClusterLeastWrongFalsely : Prop := clusterLeastRow.holds Try.pinned (OpenSpec.ofChange clusterLeastWrong)

/-- 'cleanselaw22.ClusterEvidence': WHATEVER THE INPUT: true; the input reads as it did. -/
def clusterEvidenceSpec : ChangeSpec := { name := "clusterEvidence", fn := fun _ => fun
  | [d1, d2, d3, d4] => { results := [.lit (.bool true)], args := [d1, d2, d3, d4] }
  | _ => none }
def clusterEvidenceRow : OpenClaim := { program := "ytglaigeellpikaa", sum := "b55d32f1a0709511919326893481144e653ece9aa7a0951bff1cf5a6c4e304f6", func := "cleanse/cleanselaw22.ClusterEvidence", spec := "clusterEvidence", inPlace := ["maps.clone"], unfollowed := true, recurses := true, plainKeys := false, apart := false }
def ClusterEvidenceSaid : Prop := clusterEvidenceRow.holds Try.pinned (OpenSpec.ofChange clusterEvidenceSpec)

/-- ITS FALSE NEIGHBOUR: 'it returns false'. Refute it at one input. -/
def clusterEvidenceWrong : ChangeSpec := { name := "clusterEvidence", fn := fun _ => fun
  | [d1, d2, d3, d4] => { results := [.lit (.bool false)], args := [d1, d2, d3, d4] }
  | _ => none }
def ClusterEvidenceWrongFalsely : Prop := clusterEvidenceRow.holds Try.pinned (OpenSpec.ofChange clusterEvidenceWrong)

/-- 'cleanselaw22.ClusterComponents': WHATEVER THE INPUT: true; the input reads as it did. -/
def clusterComponentsSpec : ChangeSpec := { name := "clusterComponents", fn := fun _ => fun
  | [d1, d2, d3] => { results := [.lit (.bool true)], args := [d1, d2, d3] }
  | _ => none }
def clusterComponentsRow : OpenClaim := { program := "ytglaigeellpikaa", sum := "b55d32f1a0709511919326893481144e653ece9aa7a0951bff1cf5a6c4e304f6", func := "cleanse/cleanselaw22.ClusterComponents", spec := "clusterComponents", inPlace := ["maps.clone"], unfollowed := true, recurses := true, plainKeys := false, apart := false }
def ClusterComponentsSaid : Prop := clusterComponentsRow.holds Try.pinned (OpenSpec.ofChange clusterComponentsSpec)

/-- ITS FALSE NEIGHBOUR: 'it returns false'. Refute it at one input. -/
def clusterComponentsWrong : ChangeSpec := { name := "clusterComponents", fn := fun _ => fun
  | [d1, d2, d3] => { results := [.lit (.bool false)], args := [d1, d2, d3] }
  | _ => none }
def ClusterComponentsWrongFalsely : Prop := clusterComponentsRow.holds Try.pinned (OpenSpec.ofChange clusterComponentsWrong)

/-- 'cleanselaw22.ClusterFurther': WHATEVER THE INPUT: true; the input reads as it did. -/
def clusterFurtherSpec : ChangeSpec := { name := "clusterFurther", fn := fun _ => fun
  | [d1, d2, d3, d4, d5] => { results := [.lit (.bool true)], args := [d1, d2, d3, d4, d5] }
  | _ => none }
def clusterFurtherRow : OpenClaim := { program := "ytglaigeellpikaa", sum := "b55d32f1a0709511919326893481144e653ece9aa7a0951bff1cf5a6c4e304f6", func := "cleanse/cleanselaw22.ClusterFurther", spec := "clusterFurther", inPlace := ["maps.clone"], unfollowed := true, recurses := true, plainKeys := false, apart := false }
def ClusterFurtherSaid : Prop := clusterFurtherRow.holds Try.pinned (OpenSpec.ofChange clusterFurtherSpec)

/-- ITS FALSE NEIGHBOUR: 'it returns false'. Refute it at one input. -/
def clusterFurtherWrong : ChangeSpec := { name := "clusterFurther", fn := fun _ => fun
  | [d1, d2, d3, d4, d5] => { results := [.lit (.bool false)], args := [d1, d2, d3, d4, d5] }
  | _ => none }
def ClusterFurtherWrongFalsely : Prop := clusterFurtherRow.holds Try.pinned (OpenSpec.ofChange clusterFurtherWrong)

/-- 'cleanselaw22.ClusterStrong': WHATEVER THE INPUT: true; the input reads as it did. -/
def clusterStrongSpec : ChangeSpec := { name := "clusterStrong", fn := fun _ => fun
  | [d1, d2] => { results := [.lit (.bool true)], args := [d1, d2] }
  | _ => none }
def clusterStrongRow : OpenClaim := { program := "ytglaigeellpikaa", sum := "b55d32f1a0709511919326893481144e653ece9aa7a0951bff1cf5a6c4e304f6", func := "cleanse/cleanselaw22.ClusterStrong", spec := "clusterStrong", inPlace := ["maps.clone"], unfollowed := true, recurses := true, plainKeys := false, apart := false }
def ClusterStrongSaid : Prop := clusterStrongRow.holds Try.pinned (OpenSpec.ofChange clusterStrongSpec)

/-- ITS FALSE NEIGHBOUR: 'it returns false'. Refute it at one input. -/
def clusterStrongWrong : ChangeSpec := { name := "clusterStrong", fn := fun _ => fun
  | [d1, d2] => { results := [.lit (.bool false)], args := [d1, d2] }
  | _ => none }
def ClusterStrongWrongFalsely : Prop := clusterStrongRow.holds Try.pinned (OpenSpec.ofChange clusterStrongWrong)

/- THE SECOND FORM. 'bulk': how many values and letters a reading holds, each counted each time it is reached (what is shared counts as often as it is met; a slice's spare places count too). A statement '..UptoSaid' is the law's where the arguments, and the package variables that the reading takes, are together of bulk at most 1048576: NARROWER than '..Said'. Prove '..Said' where nothing that the law and all that it calls make is longer than what came in: it says more and counts as full. Else prove '..UptoSaid'. A law counts once. -/
mutual
def uptoBulk {H : Type} : DataW H → Nat
  | .lit (.string bytes) => bytes.length + 1
  | .lit _ => 1
  | .nil => 1
  | .ptr d => uptoBulk d + 1
  | .slice elems spare => uptoBulkAll elems + uptoBulkAll spare + 1
  | .agg parts => uptoBulkAll parts + 1
  | .iface _ d => uptoBulk d + 1
  | .map entries => uptoBulkEntries entries + 1
  | .held _ => 1
def uptoBulkAll {H : Type} : List (DataW H) → Nat
  | [] => 0
  | d :: r => uptoBulk d + uptoBulkAll r
def uptoBulkEntries {H : Type} : List (Lit × DataW H) → Nat
  | [] => 0
  | x :: r => uptoBulkEntry x + uptoBulkEntries r
def uptoBulkEntry {H : Type} : Lit × DataW H → Nat
  | (.string bytes, d) => bytes.length + uptoBulk d + 1
  | (_, d) => uptoBulk d + 1
 end
def uptoSmall : (H : Type) → List (DataW H) → Bool := fun _ ds => decide (uptoBulkAll ds ≤ 1048576)
def OpenSpec.upto (s : _root_.Go.ChangeSpec) : _root_.Go.OpenSpec := { _root_.Go.OpenSpec.ofChange s with cond := some uptoSmall }

/-- 'cleanselaw22.ClusterMatchesReference', WHERE WHAT IT READS IS OF BULK AT MOST 1048576: true; the input reads as it did. -/
def clusterMatchesReferenceUptoRow : OpenClaim := { program := "ytglaigeellpikaa", sum := "b55d32f1a0709511919326893481144e653ece9aa7a0951bff1cf5a6c4e304f6", func := "cleanse/cleanselaw22.ClusterMatchesReference", spec := "clusterMatchesReference", inPlace := ["maps.clone"], unfollowed := true, recurses := true, plainKeys := false, apart := false, narrowed := true }
def ClusterMatchesReferenceUptoSaid : Prop := clusterMatchesReferenceUptoRow.holds Try.pinned (OpenSpec.upto clusterMatchesReferenceSpec)

/-- 'cleanselaw22.ClusterAllowed', WHERE WHAT IT READS IS OF BULK AT MOST 1048576: true; the input reads as it did. -/
def clusterAllowedUptoRow : OpenClaim := { program := "ytglaigeellpikaa", sum := "b55d32f1a0709511919326893481144e653ece9aa7a0951bff1cf5a6c4e304f6", func := "cleanse/cleanselaw22.ClusterAllowed", spec := "clusterAllowed", inPlace := ["maps.clone"], unfollowed := true, recurses := true, plainKeys := false, apart := false, narrowed := true }
def ClusterAllowedUptoSaid : Prop := clusterAllowedUptoRow.holds Try.pinned (OpenSpec.upto clusterAllowedSpec)

/-- 'cleanselaw22.ClusterLeast', WHERE WHAT IT READS IS OF BULK AT MOST 1048576: true; the input reads as it did. -/
def clusterLeastUptoRow : OpenClaim := { program := "ytglaigeellpikaa", sum := "b55d32f1a0709511919326893481144e653ece9aa7a0951bff1cf5a6c4e304f6", func := "cleanse/cleanselaw22.ClusterLeast", spec := "clusterLeast", inPlace := ["maps.clone"], unfollowed := true, recurses := true, plainKeys := false, apart := false, narrowed := true }
def ClusterLeastUptoSaid : Prop := clusterLeastUptoRow.holds Try.pinned (OpenSpec.upto clusterLeastSpec)

/-- 'cleanselaw22.ClusterEvidence', WHERE WHAT IT READS IS OF BULK AT MOST 1048576: true; the input reads as it did. -/
def clusterEvidenceUptoRow : OpenClaim := { program := "ytglaigeellpikaa", sum := "b55d32f1a0709511919326893481144e653ece9aa7a0951bff1cf5a6c4e304f6", func := "cleanse/cleanselaw22.ClusterEvidence", spec := "clusterEvidence", inPlace := ["maps.clone"], unfollowed := true, recurses := true, plainKeys := false, apart := false, narrowed := true }
def ClusterEvidenceUptoSaid : Prop := clusterEvidenceUptoRow.holds Try.pinned (OpenSpec.upto clusterEvidenceSpec)

/-- 'cleanselaw22.ClusterComponents', WHERE WHAT IT READS IS OF BULK AT MOST 1048576: true; the input reads as it did. -/
def clusterComponentsUptoRow : OpenClaim := { program := "ytglaigeellpikaa", sum := "b55d32f1a0709511919326893481144e653ece9aa7a0951bff1cf5a6c4e304f6", func := "cleanse/cleanselaw22.ClusterComponents", spec := "clusterComponents", inPlace := ["maps.clone"], unfollowed := true, recurses := true, plainKeys := false, apart := false, narrowed := true }
def ClusterComponentsUptoSaid : Prop := clusterComponentsUptoRow.holds Try.pinned (OpenSpec.upto clusterComponentsSpec)

/-- 'cleanselaw22.ClusterFurther', WHERE WHAT IT READS IS OF BULK AT MOST 1048576: true; the input reads as it did. -/
def clusterFurtherUptoRow : OpenClaim := { program := "ytglaigeellpikaa", sum := "b55d32f1a0709511919326893481144e653ece9aa7a0951bff1cf5a6c4e304f6", func := "cleanse/cleanselaw22.ClusterFurther", spec := "clusterFurther", inPlace := ["maps.clone"], unfollowed := true, recurses := true, plainKeys := false, apart := false, narrowed := true }
def ClusterFurtherUptoSaid : Prop := clusterFurtherUptoRow.holds Try.pinned (OpenSpec.upto clusterFurtherSpec)

/-- 'cleanselaw22.ClusterStrong', WHERE WHAT IT READS IS OF BULK AT MOST 1048576: true; the input reads as it did. -/
def clusterStrongUptoRow : OpenClaim := { program := "ytglaigeellpikaa", sum := "b55d32f1a0709511919326893481144e653ece9aa7a0951bff1cf5a6c4e304f6", func := "cleanse/cleanselaw22.ClusterStrong", spec := "clusterStrong", inPlace := ["maps.clone"], unfollowed := true, recurses := true, plainKeys := false, apart := false, narrowed := true }
def ClusterStrongUptoSaid : Prop := clusterStrongUptoRow.holds Try.pinned (OpenSpec.upto clusterStrongSpec)

end Rows
end Go.Proofs.Ytglaigeellpikaa
