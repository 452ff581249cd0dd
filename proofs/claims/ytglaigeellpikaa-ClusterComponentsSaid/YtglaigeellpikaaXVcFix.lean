/- Own library: fixed vertices, plainly. No program. -/
import Derived.Test.YtglaigeellpikaaXVcPart
namespace Go.Vc
end Go.Vc
