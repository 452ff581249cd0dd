/- Own library: fixed vertices, plainly. No program. -/
import Derived.Test.YtglaigeellpikaaXVcPart
namespace Go.Vc
def inE (E : List (List Int)) (v : Int) : Bool := E.any fun e => decide (v ∈ e)
end Go.Vc
