/- Repair: how many repairs a part has. -/
import Derived.Test.YtdbcfpcicjgghaaGreatDoorXR6
import Derived.Test.YtdbcfpcicjgghaaGreatDoorXH22a
import Derived.Test.YtdbcfpcicjgghaaGreatDoorXVcRepP
import Derived.Test.YtdbcfpcicjgghaaGreatDoorXVcInR
import Derived.Test.YtdbcfpcicjgghaaGreatDoorXVcBlk
import Derived.Test.YtdbcfpcicjgghaaGreatDoorXH8
namespace Go.Proofs.YtdbcfpcicjgghaaGreatDoor
set_option maxHeartbeats 16000000
set_option maxRecDepth 100000
open Go.Vc
end Go.Proofs.YtdbcfpcicjgghaaGreatDoor

/- Repair: Count. -/
namespace Go.Proofs.YtdbcfpcicjgghaaGreatDoor
open Go.Vc
end Go.Proofs.YtdbcfpcicjgghaaGreatDoor

/- Repair: Count, joined. -/
namespace Go.Proofs.YtdbcfpcicjgghaaGreatDoor
open Go.Vc
end Go.Proofs.YtdbcfpcicjgghaaGreatDoor

/- Repair: the cheapest repair of a part. -/
namespace Go.Proofs.YtdbcfpcicjgghaaGreatDoor
open Go.Vc
def costR (cost r:List Int):Int:=sm (r.map fun v=>cost.getD v.toNat default)
def stepC (cost vs:List Int) (b:List Int × Int) (r:List Int):List Int × Int:=if b.2 < 0 ∨ costR cost r < b.2 then (r.map fun v=>vs.getD v.toNat default, costR cost r) else b
def chF (cost vs:List Int) (L:List (List Int)):List Int × Int:=L.foldl (stepC cost vs) ([], -1)
end Go.Proofs.YtdbcfpcicjgghaaGreatDoor

/- Repair: the parts' cheapest repairs. -/
namespace Go.Proofs.YtdbcfpcicjgghaaGreatDoor
open Go.Vc
structure ChI where
 s:SlI
 k:Int
instance:Inhabited ChI:=⟨⟨⟨none, 0, []⟩, 0⟩⟩
end Go.Proofs.YtdbcfpcicjgghaaGreatDoor

/- Repair: Cheapest. -/
namespace Go.Proofs.YtdbcfpcicjgghaaGreatDoor
open Go.Vc
end Go.Proofs.YtdbcfpcicjgghaaGreatDoor
