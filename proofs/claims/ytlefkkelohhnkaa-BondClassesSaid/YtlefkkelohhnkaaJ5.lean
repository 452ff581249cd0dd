/- Bond: classes that come in. -/
import Derived.Test.YtlefkkelohhnkaaL5
import Derived.Test.YtlefkkelohhnkaaJ
namespace Go.Proofs.Ytlefkkelohhnkaa
open Go.Vc
section
variable {H : Type} {enc : TypeId × Value → H} {w : World} {spare : Nat → Bool} {held : Bool}
theorem cells5 : Try.prog.cellsOf 5 = 1 := by kernel_rfl
set_option maxRecDepth 100000 in
theorem dec5 (n : Nat) (cs : List Value) (x : DataW H × List MemPlace) (h : DataW.trod enc Try.prog w 0 spare held n 5 cs = some x) : ∃ i, cs = encU i := by
  cases n with
  | zero => simp [DataW.trod] at h
  | succ n =>
    unfold DataW.trod at h
    rw [Try.underlying5] at h
    split at h <;> simp_all [encU]
end
end Go.Proofs.Ytlefkkelohhnkaa
