/- Own library: a region of open order whose first k operations are open and behind which a round is called (printed by mkin.py). -/
import Derived.Test.YtdbcfpcicjgghaaGreatDoorXVcLaw2
import Derived.Test.YtdbcfpcicjgghaaGreatDoorXVcLaw
import Derived.Test.YtdbcfpcicjgghaaGreatDoorXVcGuard
namespace Go.Vc
set_option maxHeartbeats 16000000
set_option maxRecDepth 100000
end Go.Vc

/- Own library: loops and open regions within a round (printed by mkvi.py). -/
namespace Go.Vc
end Go.Vc
