/-
  No cell of these rows narrows 'for every input' (looked for: loops, veiled, ifaces, maps, wideKeys, modest, calm, conditions, laid).
  DERIVED. THE GIVEN ROWS OF THIS SEAT. 6 by the template 'for every input the law returns true; each argument reads behind the call as it read before'; 0 by the template 'total and deterministic' (their statements: YtlefkkelohhnkaaTotals.lean).
  GIVEN WITH THE SEED: the statements are not yours to turn. If you find one false, say at which input.
  Laid BY PROGRAM, IN A SANDBOX (cutbox-rows.mjs): the forced cells as the released guide's own fill.sh prints them over the translation 24d597e9d49b3404… (all of the seat's roots in one cut). By AI agents, Wed Nov 11 2026. No macro, syntax, notation, axiom, sorry.
-/
import Derived.Test.YtlefkkelohhnkaaChecked
import GoSem.Claim
import GoSem.ClaimJoined
import GoSem.ClaimMapViews
import Derived.JoinedTies
import Derived.KernelRfl
namespace Go.Proofs.Ytlefkkelohhnkaa
/- THE CELL 'sum', in the pinned program and in every row, IS THE sha256 OF THE DUMP (.gsa) THAT YtlefkkelohhnkaaProg.lean LOADS. Nothing in Lean hashes anything: it is a label: what it is worth is what the hold of that sum in a sandbox is worth. -/
noncomputable def Try.pinned : Pinned := { name := "ytlefkkelohhnkaa", sum := "24d597e9d49b3404108be15504892185dd1d22a6bfbe33eb76f67a47578ff7ea", checked := Try.checked }
namespace Rows
def none {H : Type} : Left H := { results := [], args := [] }

/-- 'cleanselaw21.BondMatchesReference': WHATEVER THE INPUT: true; the input reads as it did. -/
def bondMatchesReferenceSpec : ChangeSpec := { name := "bondMatchesReference", fn := fun _ => fun
  | [d1, d2] => { results := [.lit (.bool true)], args := [d1, d2] }
  | _ => none }
def bondMatchesReferenceRow : OpenClaim := { program := "ytlefkkelohhnkaa", sum := "24d597e9d49b3404108be15504892185dd1d22a6bfbe33eb76f67a47578ff7ea", func := "cleanse/cleanselaw21.BondMatchesReference", spec := "bondMatchesReference", unfollowed := true, recurses := true, plainKeys := false, apart := false }
def BondMatchesReferenceSaid : Prop := bondMatchesReferenceRow.holds Try.pinned (OpenSpec.ofChange bondMatchesReferenceSpec)

/-- ITS FALSE NEIGHBOUR: 'it returns false'. Refute it at one input. -/
def bondMatchesReferenceWrong : ChangeSpec := { name := "bondMatchesReference", fn := fun _ => fun
  | [d1, d2] => { results := [.lit (.bool false)], args := [d1, d2] }
  | _ => none }
def BondMatchesReferenceWrongFalsely : Prop := bondMatchesReferenceRow.holds Try.pinned (OpenSpec.ofChange bondMatchesReferenceWrong)

/-- 'cleanselaw21.BondLast': WHATEVER THE INPUT: true; the input reads as it did. -/
def bondLastSpec : ChangeSpec := { name := "bondLast", fn := fun _ => fun
  | [d] => { results := [.lit (.bool true)], args := [d] }
  | _ => none }
def bondLastRow : OpenClaim := { program := "ytlefkkelohhnkaa", sum := "24d597e9d49b3404108be15504892185dd1d22a6bfbe33eb76f67a47578ff7ea", func := "cleanse/cleanselaw21.BondLast", spec := "bondLast", unfollowed := true, recurses := true, plainKeys := false, apart := false }
def BondLastSaid : Prop := bondLastRow.holds Try.pinned (OpenSpec.ofChange bondLastSpec)

/-- ITS FALSE NEIGHBOUR: 'it returns false'. Refute it at one input. -/
def bondLastWrong : ChangeSpec := { name := "bondLast", fn := fun _ => fun
  | [d] => { results := [.lit (.bool false)], args := [d] }
  | _ => none }
def BondLastWrongFalsely : Prop := bondLastRow.holds Try.pinned (OpenSpec.ofChange bondLastWrong)

/-- 'cleanselaw21.BondClasses': WHATEVER THE INPUT: true; the input reads as it did. -/
def bondClassesSpec : ChangeSpec := { name := "bondClasses", fn := fun _ => fun
  | [d1, d2, d3] => { results := [.lit (.bool true)], args := [d1, d2, d3] }
  | _ => none }
def bondClassesRow : OpenClaim := { program := "ytlefkkelohhnkaa", sum := "24d597e9d49b3404108be15504892185dd1d22a6bfbe33eb76f67a47578ff7ea", func := "cleanse/cleanselaw21.BondClasses", spec := "bondClasses", unfollowed := true, recurses := true, plainKeys := false, apart := false }
def BondClassesSaid : Prop := bondClassesRow.holds Try.pinned (OpenSpec.ofChange bondClassesSpec)

/-- ITS FALSE NEIGHBOUR: 'it returns false'. Refute it at one input. -/
def bondClassesWrong : ChangeSpec := { name := "bondClasses", fn := fun _ => fun
  | [d1, d2, d3] => { results := [.lit (.bool false)], args := [d1, d2, d3] }
  | _ => none }
def BondClassesWrongFalsely : Prop := bondClassesRow.holds Try.pinned (OpenSpec.ofChange bondClassesWrong)

/-- 'cleanselaw21.BondDiffers': WHATEVER THE INPUT: true; the input reads as it did. -/
def bondDiffersSpec : ChangeSpec := { name := "bondDiffers", fn := fun _ => fun
  | [d1, d2] => { results := [.lit (.bool true)], args := [d1, d2] }
  | _ => none }
def bondDiffersRow : OpenClaim := { program := "ytlefkkelohhnkaa", sum := "24d597e9d49b3404108be15504892185dd1d22a6bfbe33eb76f67a47578ff7ea", func := "cleanse/cleanselaw21.BondDiffers", spec := "bondDiffers", unfollowed := true, recurses := true, plainKeys := false, apart := false }
def BondDiffersSaid : Prop := bondDiffersRow.holds Try.pinned (OpenSpec.ofChange bondDiffersSpec)

/-- ITS FALSE NEIGHBOUR: 'it returns false'. Refute it at one input. -/
def bondDiffersWrong : ChangeSpec := { name := "bondDiffers", fn := fun _ => fun
  | [d1, d2] => { results := [.lit (.bool false)], args := [d1, d2] }
  | _ => none }
def BondDiffersWrongFalsely : Prop := bondDiffersRow.holds Try.pinned (OpenSpec.ofChange bondDiffersWrong)

/-- 'cleanselaw21.BondOpens': WHATEVER THE INPUT: true; the input reads as it did. -/
def bondOpensSpec : ChangeSpec := { name := "bondOpens", fn := fun _ => fun
  | [d1, d2] => { results := [.lit (.bool true)], args := [d1, d2] }
  | _ => none }
def bondOpensRow : OpenClaim := { program := "ytlefkkelohhnkaa", sum := "24d597e9d49b3404108be15504892185dd1d22a6bfbe33eb76f67a47578ff7ea", func := "cleanse/cleanselaw21.BondOpens", spec := "bondOpens", unfollowed := true, recurses := true, plainKeys := false, apart := false }
def BondOpensSaid : Prop := bondOpensRow.holds Try.pinned (OpenSpec.ofChange bondOpensSpec)

/-- ITS FALSE NEIGHBOUR: 'it returns false'. Refute it at one input. -/
def bondOpensWrong : ChangeSpec := { name := "bondOpens", fn := fun _ => fun
  | [d1, d2] => { results := [.lit (.bool false)], args := [d1, d2] }
  | _ => none }
def BondOpensWrongFalsely : Prop := bondOpensRow.holds Try.pinned (OpenSpec.ofChange bondOpensWrong)

/-- 'cleanselaw21.BondOrder': WHATEVER THE INPUT: true; the input reads as it did. -/
def bondOrderSpec : ChangeSpec := { name := "bondOrder", fn := fun _ => fun
  | [d1, d2] => { results := [.lit (.bool true)], args := [d1, d2] }
  | _ => none }
def bondOrderRow : OpenClaim := { program := "ytlefkkelohhnkaa", sum := "24d597e9d49b3404108be15504892185dd1d22a6bfbe33eb76f67a47578ff7ea", func := "cleanse/cleanselaw21.BondOrder", spec := "bondOrder", unfollowed := true, recurses := true, plainKeys := false, apart := false }
def BondOrderSaid : Prop := bondOrderRow.holds Try.pinned (OpenSpec.ofChange bondOrderSpec)

/-- ITS FALSE NEIGHBOUR: 'it returns false'. Refute it at one input. -/
def bondOrderWrong : ChangeSpec := { name := "bondOrder", fn := fun _ => fun
  | [d1, d2] => { results := [.lit (.bool false)], args := [d1, d2] }
  | _ => none }
def BondOrderWrongFalsely : Prop := bondOrderRow.holds Try.pinned (OpenSpec.ofChange bondOrderWrong)

/- THE SECOND FORM. 'bulk': how many values and letters a reading holds, each counted each time it is reached (what is shared counts as often as it is met; a slice's spare places count too). A statement '..UptoSaid' is the law's where the arguments, and the package variables that the reading takes, are together of bulk at most 1048576: NARROWER than '..Said'. Prove '..Said' where nothing that the law and all that it calls make is longer than what came in: it says more and counts as full. Else prove '..UptoSaid'. A law counts once. -/
mutual
def uptoBulk {H : Type} : DataW H → Nat
  | .lit (.string bytes) => bytes.length + 1
  | .lit _ => 1
  | .nil => 1
  | .ptr d => uptoBulk d + 1
  | .slice elems spare => uptoBulkAll elems + uptoBulkAll spare + 1
  | .agg parts => uptoBulkAll parts + 1
  | .iface _ d => uptoBulk d + 1
  | .map entries => uptoBulkEntries entries + 1
  | .held _ => 1
def uptoBulkAll {H : Type} : List (DataW H) → Nat
  | [] => 0
  | d :: r => uptoBulk d + uptoBulkAll r
def uptoBulkEntries {H : Type} : List (Lit × DataW H) → Nat
  | [] => 0
  | x :: r => uptoBulkEntry x + uptoBulkEntries r
def uptoBulkEntry {H : Type} : Lit × DataW H → Nat
  | (.string bytes, d) => bytes.length + uptoBulk d + 1
  | (_, d) => uptoBulk d + 1
 end
def uptoSmall : (H : Type) → List (DataW H) → Bool := fun _ ds => decide (uptoBulkAll ds ≤ 1048576)
def OpenSpec.upto (s : _root_.Go.ChangeSpec) : _root_.Go.OpenSpec := { _root_.Go.OpenSpec.ofChange s with cond := some uptoSmall }

/-- 'cleanselaw21.BondMatchesReference', WHERE WHAT IT READS IS OF BULK AT MOST 1048576: true; the input reads as it did. -/
def bondMatchesReferenceUptoRow : OpenClaim := { program := "ytlefkkelohhnkaa", sum := "24d597e9d49b3404108be15504892185dd1d22a6bfbe33eb76f67a47578ff7ea", func := "cleanse/cleanselaw21.BondMatchesReference", spec := "bondMatchesReference", unfollowed := true, recurses := true, plainKeys := false, apart := false, narrowed := true }
def BondMatchesReferenceUptoSaid : Prop := bondMatchesReferenceUptoRow.holds Try.pinned (OpenSpec.upto bondMatchesReferenceSpec)

/-- 'cleanselaw21.BondLast', WHERE WHAT IT READS IS OF BULK AT MOST 1048576: true; the input reads as it did. -/
def bondLastUptoRow : OpenClaim := { program := "ytlefkkelohhnkaa", sum := "24d597e9d49b3404108be15504892185dd1d22a6bfbe33eb76f67a47578ff7ea", func := "cleanse/cleanselaw21.BondLast", spec := "bondLast", unfollowed := true, recurses := true, plainKeys := false, apart := false, narrowed := true }
def BondLastUptoSaid : Prop := bondLastUptoRow.holds Try.pinned (OpenSpec.upto bondLastSpec)

/-- 'cleanselaw21.BondClasses', WHERE WHAT IT READS IS OF BULK AT MOST 1048576: true; the input reads as it did. -/
def bondClassesUptoRow : OpenClaim := { program := "ytlefkkelohhnkaa", sum := "24d597e9d49b3404108be15504892185dd1d22a6bfbe33eb76f67a47578ff7ea", func := "cleanse/cleanselaw21.BondClasses", spec := "bondClasses", unfollowed := true, recurses := true, plainKeys := false, apart := false, narrowed := true }
def BondClassesUptoSaid : Prop := bondClassesUptoRow.holds Try.pinned (OpenSpec.upto bondClassesSpec)

/-- 'cleanselaw21.BondDiffers', WHERE WHAT IT READS IS OF BULK AT MOST 1048576: true; the input reads as it did. -/
def bondDiffersUptoRow : OpenClaim := { program := "ytlefkkelohhnkaa", sum := "24d597e9d49b3404108be15504892185dd1d22a6bfbe33eb76f67a47578ff7ea", func := "cleanse/cleanselaw21.BondDiffers", spec := "bondDiffers", unfollowed := true, recurses := true, plainKeys := false, apart := false, narrowed := true }
def BondDiffersUptoSaid : Prop := bondDiffersUptoRow.holds Try.pinned (OpenSpec.upto bondDiffersSpec)

/-- 'cleanselaw21.BondOpens', WHERE WHAT IT READS IS OF BULK AT MOST 1048576: true; the input reads as it did. -/
def bondOpensUptoRow : OpenClaim := { program := "ytlefkkelohhnkaa", sum := "24d597e9d49b3404108be15504892185dd1d22a6bfbe33eb76f67a47578ff7ea", func := "cleanse/cleanselaw21.BondOpens", spec := "bondOpens", unfollowed := true, recurses := true, plainKeys := false, apart := false, narrowed := true }
def BondOpensUptoSaid : Prop := bondOpensUptoRow.holds Try.pinned (OpenSpec.upto bondOpensSpec)

/-- 'cleanselaw21.BondOrder', WHERE WHAT IT READS IS OF BULK AT MOST 1048576: true; the input reads as it did. -/
def bondOrderUptoRow : OpenClaim := { program := "ytlefkkelohhnkaa", sum := "24d597e9d49b3404108be15504892185dd1d22a6bfbe33eb76f67a47578ff7ea", func := "cleanse/cleanselaw21.BondOrder", spec := "bondOrder", unfollowed := true, recurses := true, plainKeys := false, apart := false, narrowed := true }
def BondOrderUptoSaid : Prop := bondOrderUptoRow.holds Try.pinned (OpenSpec.upto bondOrderSpec)

end Rows
end Go.Proofs.Ytlefkkelohhnkaa
