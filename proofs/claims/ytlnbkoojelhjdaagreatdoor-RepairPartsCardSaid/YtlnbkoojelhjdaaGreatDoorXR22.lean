/- Repair: truth values that come in. -/
import Derived.Test.YtlnbkoojelhjdaaGreatDoorXR20
import Derived.Test.YtlnbkoojelhjdaaGreatDoorXJ
namespace Go.Proofs.YtlnbkoojelhjdaaGreatDoor
open Go.Vc
section
variable {H : Type} {enc : TypeId × Value → H} {w : World} {spare : Nat → Bool} {held : Bool}
theorem dec4 (n : Nat) (cs : List Value) (x : DataW H × List MemPlace) (h : DataW.trod enc Tryz.prog w 0 spare held n 4 cs = some x) : ∃ b, cs = encBo b ∧ True := by
  obtain ⟨b, e, _⟩ := DataW.trod_bool Tryz.underlying4 h
  exact ⟨b, e, trivial⟩
theorem cells4 : Tryz.prog.cellsOf 4 = 1 := by kernel_rfl
end
end Go.Proofs.YtlnbkoojelhjdaaGreatDoor
