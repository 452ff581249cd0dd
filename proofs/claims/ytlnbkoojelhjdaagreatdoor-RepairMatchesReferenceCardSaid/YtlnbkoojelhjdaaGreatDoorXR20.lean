/- Repair: the vertices that a list of truth values selects. -/
import Derived.Test.YtlnbkoojelhjdaaGreatDoorXR18
import Derived.Test.YtlnbkoojelhjdaaGreatDoorXH22a
namespace Go.Proofs.YtlnbkoojelhjdaaGreatDoor
open Go.Vc
end Go.Proofs.YtlnbkoojelhjdaaGreatDoor
