/- Repair: Independent, Is. -/
import Derived.Test.YtdbcfpcicjgghaaGreatDoorXN9
import Derived.Test.YtdbcfpcicjgghaaGreatDoorXVcRepP
namespace Go.Proofs.YtdbcfpcicjgghaaGreatDoor
set_option maxHeartbeats 16000000
set_option maxRecDepth 100000
open Go.Vc
end Go.Proofs.YtdbcfpcicjgghaaGreatDoor
