/- Repair: what the laws' head asks. -/
import Derived.Test.YtdbcfpcicjgghaaGreatDoorXR6
import Derived.Test.YtdbcfpcicjgghaaGreatDoorXR12
import Derived.Test.YtdbcfpcicjgghaaGreatDoorXH22a
namespace Go.Proofs.YtdbcfpcicjgghaaGreatDoor
set_option maxHeartbeats 16000000
open Go.Vc
end Go.Proofs.YtdbcfpcicjgghaaGreatDoor

/- Repair: the plain values at the head's examples. -/
namespace Go.Proofs.YtdbcfpcicjgghaaGreatDoor
open Go.Vc
abbrev gB:Gr:=⟨4, [0, 1, 2, 2], [[0, 1], [2, 3]]⟩
set_option maxRecDepth 100000
set_option maxHeartbeats 4000000
end Go.Proofs.YtdbcfpcicjgghaaGreatDoor

/- Repair: the fixed examples (printed by mkR15.py). -/
namespace Go.Proofs.YtdbcfpcicjgghaaGreatDoor
open Go.Vc
end Go.Proofs.YtdbcfpcicjgghaaGreatDoor
