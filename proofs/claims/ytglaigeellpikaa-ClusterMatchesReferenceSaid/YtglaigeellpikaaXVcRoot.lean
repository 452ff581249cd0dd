/- Own library: union and find, plainly (turned from bond/B10). No program. -/
import Derived.Test.YtglaigeellpikaaXVcSet
namespace Go.Vc
/-! ### Classes -/
end Go.Vc
