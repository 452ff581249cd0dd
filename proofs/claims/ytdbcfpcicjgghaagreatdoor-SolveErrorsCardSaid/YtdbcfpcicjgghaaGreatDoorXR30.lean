/- Repair: the reference: blocked, Independent, Is. -/
import Derived.Test.YtdbcfpcicjgghaaGreatDoorXR5
import Derived.Test.YtdbcfpcicjgghaaGreatDoorXR18
import Derived.Test.YtdbcfpcicjgghaaGreatDoorXQ1
namespace Go.Proofs.YtdbcfpcicjgghaaGreatDoor
set_option maxHeartbeats 16000000
set_option maxRecDepth 100000
open Go.Vc
end Go.Proofs.YtdbcfpcicjgghaaGreatDoor
