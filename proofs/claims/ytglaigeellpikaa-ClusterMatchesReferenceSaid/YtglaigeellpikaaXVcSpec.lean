/- Own library: regions of open order in which some operations have values that hang on the order: each is told by a relation. The others' values are the same in every order. -/
import Derived.Test.YtglaigeellpikaaXVcNew
namespace Go.Vc
abbrev Rel := Value → World → Prop
/-- What is known of the result of operation 'x'. -/
def factS (Sl : List (Option Rel)) (us : Nat → Value) (x : Nat) (w : World) : Prop := match Sl[x]? with
  | some (some S) => S (us x) w
  | _ => True
def relS (Sl : List (Option Rel)) (vl : List Value) (x : Nat) (u : Value) (w : World) : Prop := match Sl[x]? with
  | some (some S) => S u w
  | _ => u = vl.getD x undef
section
variable {P : Program} {N : Nat} {L : List Oper} {Q : Exit → Env → World → Prop} {ρ : Env}
/-- The values of one order: those of the specials as they come, the others as they are told. -/
def valsS (Sl : List (Option Rel)) (vl : List Value) (us : Nat → Value) (x : Nat) : Value := match Sl[x]? with
  | some (some _) => us x
  | _ => vl.getD x undef
end
end Go.Vc
