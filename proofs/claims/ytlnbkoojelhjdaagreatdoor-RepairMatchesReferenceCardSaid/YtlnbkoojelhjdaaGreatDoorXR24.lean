/- Repair: graphs whose components are small; the count of a component. -/
import Derived.Test.YtlnbkoojelhjdaaGreatDoorXR12
import Derived.Test.YtlnbkoojelhjdaaGreatDoorXR18
import Derived.Test.YtlnbkoojelhjdaaGreatDoorXQ6
namespace Go.Proofs.YtlnbkoojelhjdaaGreatDoor
open Go.Vc
end Go.Proofs.YtlnbkoojelhjdaaGreatDoor
