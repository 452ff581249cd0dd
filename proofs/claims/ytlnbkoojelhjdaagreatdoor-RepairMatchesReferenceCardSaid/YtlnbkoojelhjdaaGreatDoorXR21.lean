/- Repair: the walk of law RepairAll. -/
import Derived.Test.YtlnbkoojelhjdaaGreatDoorXR17
import Derived.Test.YtlnbkoojelhjdaaGreatDoorXR20
namespace Go.Proofs.YtlnbkoojelhjdaaGreatDoor
open Go.Vc
set_option maxRecDepth 100000
set_option maxHeartbeats 16000000
theorem less28_spec (a b : Option Addr) (ca cb : Nat) (l m : List Int) (w : World) (hl : l.length ≤ 9223372036854775807) (hm : m.length ≤ 9223372036854775807) (hS : IntSl w a l) (hT : IntSl w b m) :
  RetsP Tryz.prog 30 #[.slice a l.length ca, .slice b m.length cb] w (.bool (lexB l m)) := by
 refine enter (args := [_, _]) Tryz.func30 rfl Tryz.ntmps30 (by kernel_rfl) rfl ?_
 refine V.seq (V.region (VL.op (R.asB rfl) (VL.nil (V.seq (V.region (VL.op (R.mvS rfl) (VL.op (R.mvS rfl) (VL.callP Tryz.call65 rfl (less_spec a b ca cb l m _ hl hm hS hT) fun w1_2 e1_2 => VL.op (R.asB rfl) (VL.nil (V.ret (fret1 (v := .bool _) rfl rfl rfl (⟨rfl, e1_2⟩))))))))))))
theorem up_at {L : List SlI} (h : Up lexB (vals L)) {i j : Nat} (hij : i < j) (hj : j < L.length) : lexB (L.getD i default).l (L.getD j default).l = true := by
 have hl : (vals L).length = L.length := List.length_map _
 have := List.pairwise_iff_getElem.1 h i j (by omega) (by omega) hij
 rw [← gget (l := vals L) (by omega), ← gget (l := vals L) (by omega)] at this
 rwa [show (vals L).getD i default = (L.getD i default).l from gmap SlI.l L default (by omega), show (vals L).getD j default = (L.getD j default).l from gmap SlI.l L default hj] at this
theorem rep_len {g : Gr} {R : List Int} (hR : IsRep g R) (h0 : 0 ≤ g.n) : (R.length : Int) ≤ g.n := by
 have h5 := setB_iff.1 hR.set
 exact set_len h5.1 h5.2 h0
end Go.Proofs.YtlnbkoojelhjdaaGreatDoor
