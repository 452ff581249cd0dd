/- Repair: the walk of law RepairExtends. -/
import Derived.Test.YtlnbkoojelhjdaaGreatDoorXR15
import Derived.Test.YtlnbkoojelhjdaaGreatDoorXR16
import Derived.Test.YtlnbkoojelhjdaaGreatDoorXJ
namespace Go.Proofs.YtlnbkoojelhjdaaGreatDoor
open Go.Vc
theorem small_glen {w : World} {g : GrW} {n : Int} (hI : GIn w g) (h : smallB (grV g) n = true) : GLen g :=
  ⟨hI.c, hI.e.len, fun x hx => ⟨by have : x.l.length ≤ 6 := (smallB_iff.1 h).2.2.2 x.l (List.mem_map_of_mem hx); omega, (hI.e.each x hx).2.1⟩⟩
end Go.Proofs.YtlnbkoojelhjdaaGreatDoor
