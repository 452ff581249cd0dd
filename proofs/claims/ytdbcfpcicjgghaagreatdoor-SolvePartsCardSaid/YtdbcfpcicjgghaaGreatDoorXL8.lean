/- Hyper: the walk of law HyperConflicts. -/
import Derived.Test.YtdbcfpcicjgghaaGreatDoorXL3
import Derived.Test.YtdbcfpcicjgghaaGreatDoorXJ
namespace Go.Proofs.YtdbcfpcicjgghaaGreatDoor
set_option maxHeartbeats 16000000
set_option maxRecDepth 100000
open Go.Vc
end Go.Proofs.YtdbcfpcicjgghaaGreatDoor

/- Hyper: the walk of law HyperFixed. -/
namespace Go.Proofs.YtdbcfpcicjgghaaGreatDoor
open Go.Vc
theorem GIn.glen {w:World} {g:GrW} {m:Int} (h:GIn w g) (hf:FewE g.edges m):GLen g:=⟨h.c,h.e.len,fun x hx=>⟨by have:=hf.e x hx;omega,(h.e.each x hx).2.1⟩⟩
end Go.Proofs.YtdbcfpcicjgghaaGreatDoor
