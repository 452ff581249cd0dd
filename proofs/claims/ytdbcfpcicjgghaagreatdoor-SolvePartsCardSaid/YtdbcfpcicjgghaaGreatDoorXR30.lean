/- Repair: a set with a further vertex, in the reference. -/
import Derived.Test.YtdbcfpcicjgghaaGreatDoorXHG
import Derived.Test.YtdbcfpcicjgghaaGreatDoorXR5
import Derived.Test.YtdbcfpcicjgghaaGreatDoorXQ1
namespace Go.Proofs.YtdbcfpcicjgghaaGreatDoor
set_option maxHeartbeats 16000000
set_option maxRecDepth 100000
open Go.Vc
end Go.Proofs.YtdbcfpcicjgghaaGreatDoor

/- Repair: the reference: blocked, Independent, Is. -/
namespace Go.Proofs.YtdbcfpcicjgghaaGreatDoor
open Go.Vc
end Go.Proofs.YtdbcfpcicjgghaaGreatDoor
