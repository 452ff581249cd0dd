/- Own library: guards of known truth in regions of open order with specials; truths that are told. -/
import Derived.Test.YtglaigeellpikaaXVcTurn
import Derived.Test.YtglaigeellpikaaXVcClear
namespace Go.Vc
theorem R.lit {P : Program} {ρ : Env} {q : Op} {ty : TypeId} {w : World} {b c : Bool} (h : run1 P ρ q ty w = .ok (.value (.bool b)) w) (hb : b = c) : run1 P ρ q ty w = .ok (.value (.bool c)) w := by rw [h, hb]
theorem R.eqlB {P : Program} {ρ : Env} {w : World} {ty t ty2 : TypeId} {x y : Operand} {a b : Bool} (hq : ∀ a b w, (Op.equal t (.bool a) (.bool b)).run P w = .ok (decide (a = b)) w) (hx : tm ρ x = .bool a) (hy : tm ρ y = .bool b) : run1 P ρ (.binOp .eql t x y ty2) ty w = .ok (.value (.bool (decide (a = b)))) w := by
  have h := hq a b w
  have hp : (eqGuard .eql t x y (.bool a) (.bool b)).run P w = .ok () w := by
    simp [eqGuard, go_sem]
  simp only [run1, execOp, hx, hy, Sem.run_bind, hp, Result.andThen_ok, binOp, h, Sem.run_pure]
end Go.Vc
