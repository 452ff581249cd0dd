/- Repair: a set with a further vertex, in the reference. -/
import Derived.Test.YtdbcfpcicjgghaaGreatDoorXHG
namespace Go.Proofs.YtdbcfpcicjgghaaGreatDoor
set_option maxHeartbeats 16000000
set_option maxRecDepth 100000
open Go.Vc
end Go.Proofs.YtdbcfpcicjgghaaGreatDoor
