/- Hyper: the reference: the components. -/
import Derived.Test.YtlnbkoojelhjdaaGreatDoorXQ1
import Derived.Test.YtlnbkoojelhjdaaGreatDoorXVcApp2
namespace Go.Proofs.YtlnbkoojelhjdaaGreatDoor
open Go.Vc
end Go.Proofs.YtlnbkoojelhjdaaGreatDoor
