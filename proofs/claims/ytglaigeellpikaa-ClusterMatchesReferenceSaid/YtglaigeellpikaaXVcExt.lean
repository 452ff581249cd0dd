/- Own library: how an independent set is extended, plainly. No program. -/
import Derived.Test.YtglaigeellpikaaXVcBound
namespace Go.Vc
end Go.Vc
