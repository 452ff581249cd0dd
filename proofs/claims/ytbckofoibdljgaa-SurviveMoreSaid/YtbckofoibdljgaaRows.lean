/-
  No cell of these rows narrows 'for every input' (looked for: loops, veiled, ifaces, maps, wideKeys, modest, calm, conditions, laid).
  DERIVED. THE GIVEN ROWS OF THIS SEAT. 7 by the template 'for every input the law returns true; each argument reads behind the call as it read before'; 0 by the template 'total and deterministic' (their statements: YtbckofoibdljgaaTotals.lean).
  GIVEN WITH THE SEED: the statements are not yours to turn. If you find one false, say at which input.
  Laid BY PROGRAM, IN A SANDBOX (cutbox-rows.mjs): the forced cells as the released guide's own fill.sh prints them over the translation 3f80b8e2f5ff4b25… (all of the seat's roots in one cut). By AI agents, Wed Nov 11 2026. No macro, syntax, notation, axiom, sorry.
-/
import Derived.Test.YtbckofoibdljgaaChecked
import GoSem.Claim
import GoSem.ClaimJoined
import GoSem.ClaimMapViews
import Derived.JoinedTies
import Derived.KernelRfl
namespace Go.Proofs.Ytbckofoibdljgaa
/- THE CELL 'sum', in the pinned program and in every row, IS THE sha256 OF THE DUMP (.gsa) THAT YtbckofoibdljgaaProg.lean LOADS. Nothing in Lean hashes anything: it is a label: what it is worth is what the hold of that sum in a sandbox is worth. -/
noncomputable def Try.pinned : Pinned := { name := "ytbckofoibdljgaa", sum := "3f80b8e2f5ff4b25c89b8c3bc578e3a864b0e93d7680bd11b25b17a6c368a337", checked := Try.checked }
namespace Rows
def none {H : Type} : Left H := { results := [], args := [] }

/-- 'cleanselaw23.SurviveMatchesReference': WHATEVER THE INPUT: true; the input reads as it did. -/
def surviveMatchesReferenceSpec : ChangeSpec := { name := "surviveMatchesReference", fn := fun _ => fun
  | [d1, d2, d3] => { results := [.lit (.bool true)], args := [d1, d2, d3] }
  | _ => none }
def surviveMatchesReferenceRow : OpenClaim := { program := "ytbckofoibdljgaa", sum := "3f80b8e2f5ff4b25c89b8c3bc578e3a864b0e93d7680bd11b25b17a6c368a337", func := "cleanse/cleanselaw23.SurviveMatchesReference", spec := "surviveMatchesReference", unfollowed := true, recurses := true, plainKeys := false, apart := false }
def SurviveMatchesReferenceSaid : Prop := surviveMatchesReferenceRow.holds Try.pinned (OpenSpec.ofChange surviveMatchesReferenceSpec)

/-- ITS FALSE NEIGHBOUR: 'it returns false'. Refute it at one input. -/
def surviveMatchesReferenceWrong : ChangeSpec := { name := "surviveMatchesReference", fn := fun _ => fun
  | [d1, d2, d3] => { results := [.lit (.bool false)], args := [d1, d2, d3] }
  | _ => none }
def SurviveMatchesReferenceWrongFalsely : Prop := surviveMatchesReferenceRow.holds Try.pinned (OpenSpec.ofChange surviveMatchesReferenceWrong)

/-- 'cleanselaw23.SurviveBest': WHATEVER THE INPUT: true; the input reads as it did. -/
def surviveBestSpec : ChangeSpec := { name := "surviveBest", fn := fun _ => fun
  | [d1, d2, d3] => { results := [.lit (.bool true)], args := [d1, d2, d3] }
  | _ => none }
def surviveBestRow : OpenClaim := { program := "ytbckofoibdljgaa", sum := "3f80b8e2f5ff4b25c89b8c3bc578e3a864b0e93d7680bd11b25b17a6c368a337", func := "cleanse/cleanselaw23.SurviveBest", spec := "surviveBest", unfollowed := true, recurses := true, plainKeys := false, apart := false }
def SurviveBestSaid : Prop := surviveBestRow.holds Try.pinned (OpenSpec.ofChange surviveBestSpec)

/-- ITS FALSE NEIGHBOUR: 'it returns false'. Refute it at one input. -/
def surviveBestWrong : ChangeSpec := { name := "surviveBest", fn := fun _ => fun
  | [d1, d2, d3] => { results := [.lit (.bool false)], args := [d1, d2, d3] }
  | _ => none }
def SurviveBestWrongFalsely : Prop := surviveBestRow.holds Try.pinned (OpenSpec.ofChange surviveBestWrong)

/-- 'cleanselaw23.SurviveOthers': WHATEVER THE INPUT: true; the input reads as it did. -/
def surviveOthersSpec : ChangeSpec := { name := "surviveOthers", fn := fun _ => fun
  | [d1, d2, d3] => { results := [.lit (.bool true)], args := [d1, d2, d3] }
  | _ => none }
def surviveOthersRow : OpenClaim := { program := "ytbckofoibdljgaa", sum := "3f80b8e2f5ff4b25c89b8c3bc578e3a864b0e93d7680bd11b25b17a6c368a337", func := "cleanse/cleanselaw23.SurviveOthers", spec := "surviveOthers", unfollowed := true, recurses := true, plainKeys := false, apart := false }
def SurviveOthersSaid : Prop := surviveOthersRow.holds Try.pinned (OpenSpec.ofChange surviveOthersSpec)

/-- ITS FALSE NEIGHBOUR: 'it returns false'. Refute it at one input. -/
def surviveOthersWrong : ChangeSpec := { name := "surviveOthers", fn := fun _ => fun
  | [d1, d2, d3] => { results := [.lit (.bool false)], args := [d1, d2, d3] }
  | _ => none }
def SurviveOthersWrongFalsely : Prop := surviveOthersRow.holds Try.pinned (OpenSpec.ofChange surviveOthersWrong)

/-- 'cleanselaw23.SurviveOrder': WHATEVER THE INPUT: true; the input reads as it did. -/
def surviveOrderSpec : ChangeSpec := { name := "surviveOrder", fn := fun _ => fun
  | [d1, d2, d3, d4] => { results := [.lit (.bool true)], args := [d1, d2, d3, d4] }
  | _ => none }
def surviveOrderRow : OpenClaim := { program := "ytbckofoibdljgaa", sum := "3f80b8e2f5ff4b25c89b8c3bc578e3a864b0e93d7680bd11b25b17a6c368a337", func := "cleanse/cleanselaw23.SurviveOrder", spec := "surviveOrder", unfollowed := true, recurses := true, plainKeys := false, apart := false }
def SurviveOrderSaid : Prop := surviveOrderRow.holds Try.pinned (OpenSpec.ofChange surviveOrderSpec)

/-- ITS FALSE NEIGHBOUR: 'it returns false'. Refute it at one input. -/
def surviveOrderWrong : ChangeSpec := { name := "surviveOrder", fn := fun _ => fun
  | [d1, d2, d3, d4] => { results := [.lit (.bool false)], args := [d1, d2, d3, d4] }
  | _ => none }
def SurviveOrderWrongFalsely : Prop := surviveOrderRow.holds Try.pinned (OpenSpec.ofChange surviveOrderWrong)

/-- 'cleanselaw23.SurviveNothing': WHATEVER THE INPUT: true; the input reads as it did. -/
def surviveNothingSpec : ChangeSpec := { name := "surviveNothing", fn := fun _ => fun
  | [d1, d2, d3] => { results := [.lit (.bool true)], args := [d1, d2, d3] }
  | _ => none }
def surviveNothingRow : OpenClaim := { program := "ytbckofoibdljgaa", sum := "3f80b8e2f5ff4b25c89b8c3bc578e3a864b0e93d7680bd11b25b17a6c368a337", func := "cleanse/cleanselaw23.SurviveNothing", spec := "surviveNothing", unfollowed := true, recurses := true, plainKeys := false, apart := false }
def SurviveNothingSaid : Prop := surviveNothingRow.holds Try.pinned (OpenSpec.ofChange surviveNothingSpec)

/-- ITS FALSE NEIGHBOUR: 'it returns false'. Refute it at one input. -/
def surviveNothingWrong : ChangeSpec := { name := "surviveNothing", fn := fun _ => fun
  | [d1, d2, d3] => { results := [.lit (.bool false)], args := [d1, d2, d3] }
  | _ => none }
def SurviveNothingWrongFalsely : Prop := surviveNothingRow.holds Try.pinned (OpenSpec.ofChange surviveNothingWrong)

/-- 'cleanselaw23.SurviveMore': WHATEVER THE INPUT: true; the input reads as it did. -/
def surviveMoreSpec : ChangeSpec := { name := "surviveMore", fn := fun _ => fun
  | [d1, d2, d3, d4, d5] => { results := [.lit (.bool true)], args := [d1, d2, d3, d4, d5] }
  | _ => none }
def surviveMoreRow : OpenClaim := { program := "ytbckofoibdljgaa", sum := "3f80b8e2f5ff4b25c89b8c3bc578e3a864b0e93d7680bd11b25b17a6c368a337", func := "cleanse/cleanselaw23.SurviveMore", spec := "surviveMore", unfollowed := true, recurses := true, plainKeys := false, apart := false }
def SurviveMoreSaid : Prop := surviveMoreRow.holds Try.pinned (OpenSpec.ofChange surviveMoreSpec)

/-- ITS FALSE NEIGHBOUR: 'it returns false'. Refute it at one input. -/
def surviveMoreWrong : ChangeSpec := { name := "surviveMore", fn := fun _ => fun
  | [d1, d2, d3, d4, d5] => { results := [.lit (.bool false)], args := [d1, d2, d3, d4, d5] }
  | _ => none }
def SurviveMoreWrongFalsely : Prop := surviveMoreRow.holds Try.pinned (OpenSpec.ofChange surviveMoreWrong)

/-- 'cleanselaw23.SurviveShifts': WHATEVER THE INPUT: true; the input reads as it did. -/
def surviveShiftsSpec : ChangeSpec := { name := "surviveShifts", fn := fun _ => fun
  | [d1, d2, d3, d4, d5] => { results := [.lit (.bool true)], args := [d1, d2, d3, d4, d5] }
  | _ => none }
def surviveShiftsRow : OpenClaim := { program := "ytbckofoibdljgaa", sum := "3f80b8e2f5ff4b25c89b8c3bc578e3a864b0e93d7680bd11b25b17a6c368a337", func := "cleanse/cleanselaw23.SurviveShifts", spec := "surviveShifts", unfollowed := true, recurses := true, plainKeys := false, apart := false }
def SurviveShiftsSaid : Prop := surviveShiftsRow.holds Try.pinned (OpenSpec.ofChange surviveShiftsSpec)

/-- ITS FALSE NEIGHBOUR: 'it returns false'. Refute it at one input. -/
def surviveShiftsWrong : ChangeSpec := { name := "surviveShifts", fn := fun _ => fun
  | [d1, d2, d3, d4, d5] => { results := [.lit (.bool false)], args := [d1, d2, d3, d4, d5] }
  | _ => none }
def SurviveShiftsWrongFalsely : Prop := surviveShiftsRow.holds Try.pinned (OpenSpec.ofChange surviveShiftsWrong)

/- THE SECOND FORM. 'bulk': how many values and letters a reading holds, each counted each time it is reached (what is shared counts as often as it is met; a slice's spare places count too). A statement '..UptoSaid' is the law's where the arguments, and the package variables that the reading takes, are together of bulk at most 1048576: NARROWER than '..Said'. Prove '..Said' where nothing that the law and all that it calls make is longer than what came in: it says more and counts as full. Else prove '..UptoSaid'. A law counts once. -/
mutual
def uptoBulk {H : Type} : DataW H → Nat
  | .lit (.string bytes) => bytes.length + 1
  | .lit _ => 1
  | .nil => 1
  | .ptr d => uptoBulk d + 1
  | .slice elems spare => uptoBulkAll elems + uptoBulkAll spare + 1
  | .agg parts => uptoBulkAll parts + 1
  | .iface _ d => uptoBulk d + 1
  | .map entries => uptoBulkEntries entries + 1
  | .held _ => 1
def uptoBulkAll {H : Type} : List (DataW H) → Nat
  | [] => 0
  | d :: r => uptoBulk d + uptoBulkAll r
def uptoBulkEntries {H : Type} : List (Lit × DataW H) → Nat
  | [] => 0
  | x :: r => uptoBulkEntry x + uptoBulkEntries r
def uptoBulkEntry {H : Type} : Lit × DataW H → Nat
  | (.string bytes, d) => bytes.length + uptoBulk d + 1
  | (_, d) => uptoBulk d + 1
 end
def uptoSmall : (H : Type) → List (DataW H) → Bool := fun _ ds => decide (uptoBulkAll ds ≤ 1048576)
def OpenSpec.upto (s : _root_.Go.ChangeSpec) : _root_.Go.OpenSpec := { _root_.Go.OpenSpec.ofChange s with cond := some uptoSmall }

/-- 'cleanselaw23.SurviveMatchesReference', WHERE WHAT IT READS IS OF BULK AT MOST 1048576: true; the input reads as it did. -/
def surviveMatchesReferenceUptoRow : OpenClaim := { program := "ytbckofoibdljgaa", sum := "3f80b8e2f5ff4b25c89b8c3bc578e3a864b0e93d7680bd11b25b17a6c368a337", func := "cleanse/cleanselaw23.SurviveMatchesReference", spec := "surviveMatchesReference", unfollowed := true, recurses := true, plainKeys := false, apart := false, narrowed := true }
def SurviveMatchesReferenceUptoSaid : Prop := surviveMatchesReferenceUptoRow.holds Try.pinned (OpenSpec.upto surviveMatchesReferenceSpec)

/-- 'cleanselaw23.SurviveBest', WHERE WHAT IT READS IS OF BULK AT MOST 1048576: true; the input reads as it did. -/
def surviveBestUptoRow : OpenClaim := { program := "ytbckofoibdljgaa", sum := "3f80b8e2f5ff4b25c89b8c3bc578e3a864b0e93d7680bd11b25b17a6c368a337", func := "cleanse/cleanselaw23.SurviveBest", spec := "surviveBest", unfollowed := true, recurses := true, plainKeys := false, apart := false, narrowed := true }
def SurviveBestUptoSaid : Prop := surviveBestUptoRow.holds Try.pinned (OpenSpec.upto surviveBestSpec)

/-- 'cleanselaw23.SurviveOthers', WHERE WHAT IT READS IS OF BULK AT MOST 1048576: true; the input reads as it did. -/
def surviveOthersUptoRow : OpenClaim := { program := "ytbckofoibdljgaa", sum := "3f80b8e2f5ff4b25c89b8c3bc578e3a864b0e93d7680bd11b25b17a6c368a337", func := "cleanse/cleanselaw23.SurviveOthers", spec := "surviveOthers", unfollowed := true, recurses := true, plainKeys := false, apart := false, narrowed := true }
def SurviveOthersUptoSaid : Prop := surviveOthersUptoRow.holds Try.pinned (OpenSpec.upto surviveOthersSpec)

/-- 'cleanselaw23.SurviveOrder', WHERE WHAT IT READS IS OF BULK AT MOST 1048576: true; the input reads as it did. -/
def surviveOrderUptoRow : OpenClaim := { program := "ytbckofoibdljgaa", sum := "3f80b8e2f5ff4b25c89b8c3bc578e3a864b0e93d7680bd11b25b17a6c368a337", func := "cleanse/cleanselaw23.SurviveOrder", spec := "surviveOrder", unfollowed := true, recurses := true, plainKeys := false, apart := false, narrowed := true }
def SurviveOrderUptoSaid : Prop := surviveOrderUptoRow.holds Try.pinned (OpenSpec.upto surviveOrderSpec)

/-- 'cleanselaw23.SurviveNothing', WHERE WHAT IT READS IS OF BULK AT MOST 1048576: true; the input reads as it did. -/
def surviveNothingUptoRow : OpenClaim := { program := "ytbckofoibdljgaa", sum := "3f80b8e2f5ff4b25c89b8c3bc578e3a864b0e93d7680bd11b25b17a6c368a337", func := "cleanse/cleanselaw23.SurviveNothing", spec := "surviveNothing", unfollowed := true, recurses := true, plainKeys := false, apart := false, narrowed := true }
def SurviveNothingUptoSaid : Prop := surviveNothingUptoRow.holds Try.pinned (OpenSpec.upto surviveNothingSpec)

/-- 'cleanselaw23.SurviveMore', WHERE WHAT IT READS IS OF BULK AT MOST 1048576: true; the input reads as it did. -/
def surviveMoreUptoRow : OpenClaim := { program := "ytbckofoibdljgaa", sum := "3f80b8e2f5ff4b25c89b8c3bc578e3a864b0e93d7680bd11b25b17a6c368a337", func := "cleanse/cleanselaw23.SurviveMore", spec := "surviveMore", unfollowed := true, recurses := true, plainKeys := false, apart := false, narrowed := true }
def SurviveMoreUptoSaid : Prop := surviveMoreUptoRow.holds Try.pinned (OpenSpec.upto surviveMoreSpec)

/-- 'cleanselaw23.SurviveShifts', WHERE WHAT IT READS IS OF BULK AT MOST 1048576: true; the input reads as it did. -/
def surviveShiftsUptoRow : OpenClaim := { program := "ytbckofoibdljgaa", sum := "3f80b8e2f5ff4b25c89b8c3bc578e3a864b0e93d7680bd11b25b17a6c368a337", func := "cleanse/cleanselaw23.SurviveShifts", spec := "surviveShifts", unfollowed := true, recurses := true, plainKeys := false, apart := false, narrowed := true }
def SurviveShiftsUptoSaid : Prop := surviveShiftsUptoRow.holds Try.pinned (OpenSpec.upto surviveShiftsSpec)

end Rows
end Go.Proofs.Ytbckofoibdljgaa
