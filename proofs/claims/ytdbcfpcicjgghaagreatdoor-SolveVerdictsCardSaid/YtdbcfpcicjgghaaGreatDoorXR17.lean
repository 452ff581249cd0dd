/- Repair: small graphs. -/
import Derived.Test.YtdbcfpcicjgghaaGreatDoorXHG
import Derived.Test.YtdbcfpcicjgghaaGreatDoorXR15
import Derived.Test.YtdbcfpcicjgghaaGreatDoorXJ
namespace Go.Proofs.YtdbcfpcicjgghaaGreatDoor
set_option maxHeartbeats 16000000
set_option maxRecDepth 100000
open Go.Vc
end Go.Proofs.YtdbcfpcicjgghaaGreatDoor

/- Repair: the walk of law RepairExtends. -/
namespace Go.Proofs.YtdbcfpcicjgghaaGreatDoor
open Go.Vc
end Go.Proofs.YtdbcfpcicjgghaaGreatDoor
