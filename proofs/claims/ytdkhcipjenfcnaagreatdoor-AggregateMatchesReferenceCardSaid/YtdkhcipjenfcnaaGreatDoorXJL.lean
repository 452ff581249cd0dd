/- Hyper: the listed tables: what the walks need of them, and the world that meets the condition. -/
import Derived.Test.YtdkhcipjenfcnaaGreatDoorXL8
import Derived.Test.YtdkhcipjenfcnaaGreatDoorRows
import Derived.WalkKit
import Derived.ProofKit
import Derived.OpenShut
import Derived.ShutString
import Derived.ChangeOld
import Derived.Below
import Derived.LaidMore
import Derived.Stop.Joined
import Derived.Stop.LaidErr
namespace Go.Proofs.YtdkhcipjenfcnaaGreatDoor
open Go.Proofs.Tryz
set_option maxRecDepth 100000
set_option maxHeartbeats 16000000
open Go.ChangeShapes Go.WideShapes Go.ChangeAt Go.RowKit
theorem own_:ownKnob prog.godebug=none:=by kernel_rfl
theorem laidOut:laidOutB prog=true:=by kernel_rfl
theorem okWide_agg_ {r:Reach} {b0:Nat} {W:World} {t:TypeId} {v:Value} {fs:Array Field} (ht:prog.underlying t=some (.struct fs)) (h:Value.okWide prog W r b0 t v):∃ cs:List Value,v=.agg cs.toArray:=by
 simp only [Value.okWide,ht] at h
 obtain ⟨cs,h1,h2,_⟩:=h
 exact ⟨cs.toList,h1⟩
def laid_ : List (String × DataW Unit) := [("math/bits.deBruijn32tab", Rows.laid_math_bits_deBruijn32tab), ("math/bits.deBruijn64tab", Rows.laid_math_bits_deBruijn64tab), ("internal/strconv.uint64pow10", Rows.laid_internal_strconv_uint64pow10)]
theorem door_met (os:Os) (args:Array Value):laidMetH prog laid_ ((World.doorLaid prog 24 os).forCall (fun _ _=>0) ⟨#[],args,[]⟩).memory :=
 laidMetH_of_parts3 (fuel:=8) (laidMet_of_run' 8 (by kernel_rfl) (by kernel_rfl)) (by kernel_rfl) (by kernel_rfl)
theorem of_laid {W:World} (h:laidMetH prog laid_ W):TabW W.heap.size W:=by
 rw [MakeChecks.laidMetH_plain _ _ _ (by kernel_rfl)] at h
 have h3:=laidMet.tail (laidMet.tail h)
 have htab : Lib.TabIs prog W "internal/strconv.uint64pow10" .u64 Lib.pow10Tab := Lib.tabIs_of_head (g := 0) (t := 172) (e := 128) (n := 20) (by kernel_rfl) (by kernel_rfl) underlying172 underlying128 (by kernel_rfl) (by kernel_rfl) h3
 exact Lib.tabBelow_of_tabIs htab
end Go.Proofs.YtdkhcipjenfcnaaGreatDoor
