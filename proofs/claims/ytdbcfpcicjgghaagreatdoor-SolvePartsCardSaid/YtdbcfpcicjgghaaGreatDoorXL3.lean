/- Hyper: the walk of law HyperMinimal. -/
import Derived.Test.YtdbcfpcicjgghaaGreatDoorXH22a
import Derived.Test.YtdbcfpcicjgghaaGreatDoorXH4
namespace Go.Proofs.YtdbcfpcicjgghaaGreatDoor
set_option maxHeartbeats 16000000
set_option maxRecDepth 100000
open Go.Vc
structure EIn (E:List SlI):Prop where
 len:E.length≤9223372036854775807
 each:∀ x∈E,x.l.length≤9223372036854775807∧(x.a=none→x.c=0)∧∀ y∈x.l,-9223372036854775808≤y∧y≤9223372036854775807
end Go.Proofs.YtdbcfpcicjgghaaGreatDoor
