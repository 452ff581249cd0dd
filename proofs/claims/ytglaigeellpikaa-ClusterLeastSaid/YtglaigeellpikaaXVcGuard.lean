/- Own library: guards of known truth in regions of open order with specials; truths that are told. -/
import Derived.Test.YtglaigeellpikaaXVcTurn
import Derived.Test.YtglaigeellpikaaXVcClear
namespace Go.Vc
theorem R.lit {P : Program} {ρ : Env} {q : Op} {ty : TypeId} {w : World} {b c : Bool} (h : run1 P ρ q ty w = .ok (.value (.bool b)) w) (hb : b = c) : run1 P ρ q ty w = .ok (.value (.bool c)) w := by rw [h, hb]
end Go.Vc
