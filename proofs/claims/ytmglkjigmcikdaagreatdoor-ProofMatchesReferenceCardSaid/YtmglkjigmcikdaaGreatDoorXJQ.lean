/- Proof: how long a certificate's lists can be. -/
import Derived.Test.YtmglkjigmcikdaaGreatDoorXJP
import Derived.Test.YtmglkjigmcikdaaGreatDoorXP30
import Derived.Test.YtmglkjigmcikdaaGreatDoorXVcReach
namespace Go.Proofs.YtmglkjigmcikdaaGreatDoor
open Go.Vc
section
variable {H : Type} {enc : TypeId × Value → H} {w : World} {spare : Nat → Bool} {held : Bool}
theorem bytes3 : Tryz.prog.bytesOf 3 = 8 := by kernel_rfl
theorem ints_sz {n len cap : Nat} {a : Option Addr} {x : DataW H × List MemPlace} (h : DataW.trod enc Tryz.prog w 0 spare held n 22 [.slice a len cap] = some x) (hx : ∀ n ∈ x.1.weights Tryz.prog 22, n ≤ reachBytes) : len ≤ 1152921504606846976 := by
 have := slice_reach Tryz.underlying22 h hx
 rw [bytes3] at this
 unfold reachBytes at this
 omega
theorem claim_sz {n : Nat} {y : ClX} {x : DataW H × List MemPlace} (h : DataW.trod enc Tryz.prog w 0 spare held n 31 (encCl y) = some x) (hx : ∀ n ∈ x.1.weights Tryz.prog 31, n ≤ reachBytes) : ClSz y := by
 obtain ⟨m1, y1, h1, k1⟩ := field_reach Tryz.underlying31 h (i := 1) rfl
 obtain ⟨m2, y2, h2, k2⟩ := field_reach Tryz.underlying31 h (i := 2) rfl
 replace h1 : DataW.trod enc Tryz.prog w 0 spare held m1 22 (((encCl y).drop 1).take (Tryz.prog.cellsOf 22)) = some y1 := h1
 replace h2 : DataW.trod enc Tryz.prog w 0 spare held m2 22 (((encCl y).drop 2).take (Tryz.prog.cellsOf 22)) = some y2 := h2
 rw [cells22] at h1 h2
 have h1 : DataW.trod enc Tryz.prog w 0 spare held m1 22 [.slice y.aa y.A.length y.ac] = some y1 := h1
 have h2 : DataW.trod enc Tryz.prog w 0 spare held m2 22 [.slice y.ba y.B.length y.bc] = some y2 := h2
 exact ⟨ints_sz h1 fun n hn => hx n (k1 n hn), ints_sz h2 fun n hn => hx n (k2 n hn)⟩
end
end Go.Proofs.YtmglkjigmcikdaaGreatDoor
