/- Repair: the walk of law RepairCounts. -/
import Derived.Test.YtlnbkoojelhjdaaGreatDoorXR17
import Derived.Test.YtlnbkoojelhjdaaGreatDoorXR37
import Derived.Test.YtlnbkoojelhjdaaGreatDoorXR38
namespace Go.Proofs.YtlnbkoojelhjdaaGreatDoor
open Go.Vc
set_option maxRecDepth 100000
set_option maxHeartbeats 16000000
theorem counts28_law (g : GrW) (B : Nat) (w : World) (hI : GIn w g) (hB : B ≤ w.heap.size) (hT : TabW B w) :
  RetsP Tryz.prog 4 #[.agg (encGr g).toArray] w (.bool true) := by
 refine enter (args := [_]) Tryz.func4 rfl Tryz.ntmps4 (by kernel_rfl) rfl ?_
 refine V.seq (V.region (VL.box (v := .agg _) rfl fun b0_0 w0_0 hb0_0 e0_0 hB0_0 => VL.op (R.asB rfl) (VL.nil (V.seq (V.region (VL.callP Tryz.call11 rfl (head_spec28 B _ (Nat.le_trans hB (e0_0).size) (hT.ext hB e0_0)) fun w1_0 e1_0 => VL.op (R.asB rfl) (VL.nil (V.seq (V.seq (V.region (VL.op (R.ldA Tryz.isAgg25 Tryz.sizeOf25 rfl rfl ((show RowAt _ _ _ (encGr g) from ((hB0_0.ext e1_0).rowAt 0 3))) rfl) (VL.callP Tryz.call12 rfl (small_spec g 70 _ (hI.ok.ext (e0_0.trans e1_0)) hI.c hI.e.len (fun x hx => (hI.e.each x hx).1) (by decide) (by decide)) fun w2_1 e2_1 => VL.op (R.not rfl) (VL.op (R.mvB rfl) (VL.or rfl rfl (fun g2_3 => VL.op (R.ldA Tryz.isAgg25 Tryz.sizeOf25 rfl rfl ((show RowAt _ _ _ (encGr g) from (((hB0_0.ext e1_0).ext e2_1).rowAt 0 3))) rfl) (VL.gT rfl rfl (VL.callP Tryz.call22 rfl (narrow_spec g _ (hI.ok.ext ((e0_0.trans e1_0).trans e2_1)) (small_glen hI (by simpa using g2_3)) (by have h : smallB (grV g) 70 = true := (by simpa using g2_3); have := (smallB_iff.1 h).1; have hgn : (grV g).n = g.n := rfl; omega)) fun w2_5 e2_5 => VL.gT rfl rfl (VL.op (R.not rfl) (VL.op (R.pickFB rfl rfl) (VL.nil (V.cond rfl (fun c22 => V.seq (V.region (VL.op (R.mvB rfl) (VL.op (R.asB rfl) (VL.nil (V.ret (fret1 (v := .bool _) rfl rfl rfl (⟨rfl, (((e0_0.trans e1_0).trans e2_1).trans e2_5)⟩)))))))) (fun c22 => V.skip (V.seq (?_)))))))))) (fun g2_3 => VL.gF rfl rfl (VL.gF rfl rfl (VL.op (R.pickTB rfl rfl) (VL.nil (V.condT rfl (V.seq (V.region (VL.op (R.mvB rfl) (VL.op (R.asB rfl) (VL.nil (V.ret (fret1 (v := .bool _) rfl rfl rfl (⟨rfl, ((e0_0.trans e1_0).trans e2_1)⟩)))))))))))))))))))))))))))
 have hsm : smallB (grV g) 70 = true := by simpa using g2_3
 have hnw : narrowB (grV g) = true := by simpa using c22
 have hgl := small_glen hI hsm
 have E2 : Ext w w2_5 := (e0_0.trans e1_0).trans (e2_1.trans e2_5)
 have hX2 : Blk w2_5 b0_0 (.cells (Value.agg (encGr g).toArray).cells 25 (0, 0)) := hB0_0.ext (e1_0.trans (e2_1.trans e2_5))
 have hG := hI.ok
 refine V.region (VL.op (R.ldA Tryz.isAgg25 Tryz.sizeOf25 rfl rfl ((show RowAt _ _ _ (encGr g) from hX2.rowAt 0 3)) rfl) (VL.callX Tryz.call23 rfl (count_spec g B w2_5 (hG.ext E2) hgl (Nat.le_trans hB E2.size) (hT.ext hB E2)) fun x4 w4 h4 e4 => VL.op (R.mvT rfl) (VL.op (R.extr rfl rfl) (VL.op (R.extr rfl rfl) (VL.op (R.asI rfl) (VL.op (R.asI rfl) (VL.nil (V.seq (V.region (VL.op (R.ldA Tryz.isAgg25 Tryz.sizeOf25 rfl rfl ((show RowAt _ _ _ (encGr g) from (hX2.ext e4).rowAt 0 3)) rfl) (VL.callX Tryz.call24 rfl (count28_spec g w4 (hG.ext (E2.trans e4)) hgl hnw) fun x5 w5 h5 e5 => VL.op (R.mvT rfl) (VL.op (R.extr rfl rfl) (VL.op (R.extr rfl rfl) (VL.op (R.asI rfl) (VL.op (R.asI rfl) (VL.nil (V.seq (V.region (VL.op (R.ldA Tryz.isAgg25 Tryz.sizeOf25 rfl rfl ((show RowAt _ _ _ (encGr g) from (hX2.ext (e4.trans e5)).rowAt 0 3)) rfl) (VL.callX Tryz.call25 rfl (cheapest_spec g B w5 (hG.ext (E2.trans (e4.trans e5))) hgl (Nat.le_trans hB (E2.trans (e4.trans e5)).size) (hT.ext hB (E2.trans (e4.trans e5)))) fun x6 w6 h6 e6 => VL.op (R.mvT rfl) (VL.op (R.extr rfl rfl) (VL.op (R.extr rfl rfl) (VL.op (R.extr rfl rfl) (VL.op (R.asS rfl) (VL.op (R.asI rfl) (VL.op (R.asI rfl) (VL.nil (V.seq (V.region (VL.op (R.ldA Tryz.isAgg25 Tryz.sizeOf25 rfl rfl ((show RowAt _ _ _ (encGr g) from (hX2.ext (e4.trans (e5.trans e6))).rowAt 0 3)) rfl) (VL.callX Tryz.call26 rfl (rcheap28_spec g w6 (hG.ext (E2.trans (e4.trans (e5.trans e6)))) hgl hnw) fun x7 w7 h7 e7 => VL.op (R.mvT rfl) (VL.op (R.extr rfl rfl) (VL.op (R.extr rfl rfl) (VL.op (R.extr rfl rfl) (VL.op (R.asS rfl) (VL.op (R.asI rfl) (VL.op (R.asI rfl) (VL.nil (V.seq (?_))))))))))))))))))))))))))))))))))))))))
 obtain ⟨ho6, hv6⟩ := h6
 obtain ⟨hs7, hv7⟩ := h7
 subst h4
 obtain rfl : x5 = countG (grV g) := h5
 have k1 : x6.1.l = x7.1.l := congrArg (fun x : (List Int × Int) × Int => x.1.1) (hv6.trans hv7.symm)
 have k2 : x6.2.1 = x7.2.1 := congrArg (fun x : (List Int × Int) × Int => x.1.2) (hv6.trans hv7.symm)
 have k3 : x6.2.2 = x7.2.2 := congrArg (fun x : (List Int × Int) × Int => x.2) (hv6.trans hv7.symm)
 have hlen : x7.1.l.length ≤ 100 := by
  have h1 : x7.1.l = (cheapG (grV g)).1.1 := congrArg (fun x : (List Int × Int) × Int => x.1.1) hv7
  rw [h1]
  by_cases hv : validG (grV g) = true
  ·obtain ⟨_, hch, _⟩ := cheap_is hv (partsE_narrow hv hnw)
   have hgn : (grV g).n ≤ 70 := (smallB_iff.1 hsm).1
   have := rep_len hch.rep (costB_iff.1 (validG_iff.1 hv).1).1
   omega
  ·have hpe : partsE (grV g) = 1 := by unfold partsE; rw [if_neg hv]
   unfold cheapG
   rw [hpe, if_neg (by decide)]
   exact Nat.zero_le _
 have hs6 : IntSl w7 x6.1.a x6.1.l := (OwnT.sl ho6).ext e7
 have E7 := E2.trans (e4.trans (e5.trans (e6.trans e7)))
 refine V.region (VL.op (R.mvB rfl) (VL.op (R.mvB rfl) (VL.gT rfl rfl (VL.op (R.mvI rfl) (VL.gT rfl rfl (VL.op (R.mvI rfl) (VL.gT rfl rfl (VL.op (R.lit (R.eql rfl rfl) ((decide_eq_true rfl))) (VL.op (R.pickTB rfl rfl) (VL.op (R.mvB rfl) (VL.gT rfl rfl (VL.op (R.mvI rfl) (VL.gT rfl rfl (VL.op (R.mvI rfl) (VL.gT rfl rfl (VL.op (R.lit (R.eql rfl rfl) ((decide_eq_true rfl))) (VL.op (R.pickTB rfl rfl) (VL.op (R.mvB rfl) (VL.gT rfl rfl (VL.op (R.mvI rfl) (VL.gT rfl rfl (VL.op (R.mvI rfl) (VL.gT rfl rfl (VL.op (R.lit (R.eql rfl rfl) ((decide_eq_true k3))) (VL.op (R.pickTB rfl rfl) (VL.op (R.mvB rfl) (VL.gT rfl rfl (VL.op (R.mvI rfl) (VL.gT rfl rfl (VL.op (R.mvI rfl) (VL.gT rfl rfl (VL.op (R.lit (R.eql rfl rfl) ((decide_eq_true k2))) (VL.op (R.pickTB rfl rfl) (VL.op (R.mvB rfl) (VL.gT rfl rfl (VL.op (R.mvS rfl) (VL.gT rfl rfl (VL.buildSl Tryz.runUnderlying23 Tryz.sizeOf22 Tryz.zeroValue22 rfl rfl rfl fun b8_23 w8_23 hb8_23 e8_23 hB8_23 => VL.gT rfl rfl (VL.op (R.mvS rfl) (VL.gT rfl rfl (VL.buildSl Tryz.runUnderlying23 Tryz.sizeOf22 Tryz.zeroValue22 rfl rfl rfl fun b8_25 w8_25 hb8_25 e8_25 hB8_25 => VL.gT rfl rfl (VL.callP Tryz.call21 rfl ((sets_is ([x6.1] : List SlI) ([x7.1] : List SlI) _ _ 1 1 _ (by show [x6.1.l] = [x7.1.l]; rw [k1]) (Nat.le_of_ble_eq_true rfl) (fun x hx => by rw [List.mem_singleton.1 hx, k1]; omega) (fun x hx => by rw [List.mem_singleton.1 hx]; omega) (litL (L := ([x6.1] : List SlI)) (hB8_23.ext e8_25) rfl (fun x hx => by rw [List.mem_singleton.1 hx]; exact hs6.ext (e8_23.trans e8_25))) (litL (L := ([x7.1] : List SlI)) hB8_25 rfl (fun x hx => by rw [List.mem_singleton.1 hx]; exact hs7.ext (e8_23.trans e8_25))))) fun w8_26 e8_26 => VL.op (R.pickTB rfl rfl) (VL.op (R.asB rfl) (VL.nil (V.ret (fret1 (v := .bool _) rfl rfl rfl (⟨rfl, E7.trans ((e8_23.trans e8_25).trans e8_26)⟩)))))))))))))))))))))))))))))))))))))))))))))))
end Go.Proofs.YtlnbkoojelhjdaaGreatDoor
