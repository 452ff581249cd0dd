/- Hyper: the walk of law HyperConflicts. -/
import Derived.Test.YtdbcfpcicjgghaaGreatDoorXL3
namespace Go.Proofs.YtdbcfpcicjgghaaGreatDoor
open Go.Vc
end Go.Proofs.YtdbcfpcicjgghaaGreatDoor
