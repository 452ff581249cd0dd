/- Hyper: the walk of law HyperConflicts. -/
import Derived.Test.YtlnbkoojelhjdaaGreatDoorXL3
import Derived.Test.YtlnbkoojelhjdaaGreatDoorXJ
namespace Go.Proofs.YtlnbkoojelhjdaaGreatDoor
open Go.Vc
end Go.Proofs.YtlnbkoojelhjdaaGreatDoor

/- Hyper: the walk of law HyperFixed. -/
namespace Go.Proofs.YtlnbkoojelhjdaaGreatDoor
open Go.Vc
end Go.Proofs.YtlnbkoojelhjdaaGreatDoor
