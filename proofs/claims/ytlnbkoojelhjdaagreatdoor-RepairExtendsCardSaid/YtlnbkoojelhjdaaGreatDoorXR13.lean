/- Repair: what the laws' head asks. -/
import Derived.Test.YtlnbkoojelhjdaaGreatDoorXR5
import Derived.Test.YtlnbkoojelhjdaaGreatDoorXR9
import Derived.Test.YtlnbkoojelhjdaaGreatDoorXR12
import Derived.Test.YtlnbkoojelhjdaaGreatDoorXH22a
namespace Go.Proofs.YtlnbkoojelhjdaaGreatDoor
open Go.Vc
set_option maxRecDepth 100000 in
theorem of_spec28 (ca ea : Option Addr) (cc ec : Nat) (cost : List Int) (E : List SlI) (w : World) :
    RetsP Tryz.prog 37 #[.slice ca cost.length cc, .slice ea E.length ec] w (.agg (encGr ⟨(cost.length : Nat), ca, cc, cost, ea, ec, E⟩).toArray) := by
  refine enter (args := [_, _]) Tryz.func37 rfl Tryz.ntmps37 (by kernel_rfl) rfl ?_
  refine V.seq (V.region (VL.alloc Tryz.zeroValue25 fun b0_0 w0_0 hb0_0 e0_0 hB0_0 => VL.nil (V.seq (V.region (VL.op (R.mvS rfl) (VL.op (R.lenS Tryz.runUnderlying22 rfl) (VL.op (R.mvS rfl) (VL.op (R.mvS rfl) (VL.op (R.build Tryz.zeroValue25 Tryz.runUnderlying25 pl25 rfl) (VL.store (v := .agg _) Tryz.sizeOf25 rfl rfl rfl rfl hB0_0 rfl rfl fun w1_5 m1_5 hs1_5 hB1_5 => VL.nil (V.ret (fretC rfl rfl rfl Tryz.isAgg25 Tryz.sizeOf25 rfl (hB1_5.rowAt 0 3) rfl (⟨rfl, (Mod.own e0_0 m1_5 (Nat.le_of_eq (Eq.symm hb0_0)))⟩)))))))))))))
set_option maxRecDepth 100000 in
set_option maxHeartbeats 4000000 in
theorem lists_is (g : GrW) (a : Option Addr) (c : Nat) (E : List SlI) (B : Nat) (w : World) (h1 : listG (grV g) = (vals E, 0)) (h2 : countG (grV g) = (((E.length : Nat) : Int), 0)) (hG : GOk w g) (hl : GLen g) (hE : LL w a E) (hm : E.length ≤ 1000) (he : ∀ x ∈ E, x.l.length ≤ 1000000) (hB : B ≤ w.heap.size) (hT : TabW B w) :
    RetsP Tryz.prog 38 #[.agg (encGr g).toArray, .slice a E.length c] w (.bool true) := by
  refine enter (args := [_, _]) Tryz.func38 rfl Tryz.ntmps38 (by kernel_rfl) rfl ?_
  refine V.seq (V.region (VL.box (v := .agg _) rfl fun b0_0 w0_0 hb0_0 e0_0 hB0_0 => VL.op (R.asB rfl) (VL.nil (V.seq (V.region (VL.op (R.ldA Tryz.isAgg25 Tryz.sizeOf25 rfl rfl ((show RowAt _ _ _ (encGr g) from (hB0_0.rowAt 0 3))) rfl) (VL.callX Tryz.call15 rfl (list_spec28 g B _ (hG.ext e0_0) hl (Nat.le_trans hB (e0_0).size) (hT.ext hB e0_0)) fun x1 w1 q1 e1 => VL.op (R.mvT rfl) (VL.op (R.extr rfl rfl) (VL.op (R.extr rfl rfl) (VL.op (R.asS rfl) (VL.op (R.asI rfl) (VL.nil (V.seq (V.region (VL.op (R.ldA Tryz.isAgg25 Tryz.sizeOf25 rfl rfl ((show RowAt _ _ _ (encGr g) from (hB0_0.ext e1).rowAt 0 3)) rfl) (VL.callX Tryz.call23 rfl (count_spec g B _ (hG.ext (e0_0.trans e1)) hl (Nat.le_trans hB (e0_0.trans e1).size) (hT.ext hB (e0_0.trans e1))) fun x2 w2 q2 e2 => VL.op (R.mvT rfl) (VL.op (R.extr rfl rfl) (VL.op (R.extr rfl rfl) (VL.op (R.asI rfl) (VL.op (R.asI rfl) (VL.nil (V.seq (?_)))))))))))))))))))))))
  obtain ⟨hL1, hv1⟩ := q1
  obtain ⟨a1, c1, L1, r1⟩ := x1
  dsimp only at hL1 hv1 ⊢
  rw [h1] at hv1
  obtain ⟨hvE, rfl⟩ := Prod.mk.inj hv1
  rw [h2] at q2
  subst q2
  have E2 := (e0_0.trans e1).trans e2
  have hL2 : LL w2 a1 L1 := ⟨hL1.own.sl.ext e2, fun y hy => ((hL1.each y hy).sl).ext e2⟩
  have hle : ∀ y ∈ L1, y.l.length ≤ 1000000 := fun y hy => by
    have : y.l ∈ vals E := by rw [← hvE]; exact List.mem_map_of_mem hy
    obtain ⟨z, hz, hzy⟩ := List.mem_map.1 this
    rw [← hzy]; exact he z hz
  have hsets := sets_is L1 E a1 a c1 c w2 hvE (by omega) (fun y hy => by have := hle y hy; omega) (fun y hy => by have := he y hy; omega) hL2 (hE.ext E2)
  refine V.region (VL.op (R.mvI rfl) (VL.op (R.lit (R.eql rfl rfl) ((decide_eq_true rfl))) (VL.op (R.mvB rfl) (VL.gT rfl rfl (VL.op (R.mvI rfl) (VL.gT rfl rfl (VL.op (R.lit (R.eql rfl rfl) ((decide_eq_true rfl))) (VL.op (R.pickTB rfl rfl) (VL.op (R.mvB rfl) (VL.gT rfl rfl (VL.op (R.mvI rfl) (VL.gT rfl rfl (VL.op (R.mvS rfl) (VL.gT rfl rfl (VL.op (R.lenS Tryz.runUnderlying23 rfl) (VL.gT rfl rfl (VL.op (R.lit (R.eql rfl rfl) ((decide_eq_true rfl))) (VL.op (R.pickTB rfl rfl) (VL.op (R.mvB rfl) (VL.gT rfl rfl (VL.op (R.mvS rfl) (VL.gT rfl rfl (VL.op (R.mvS rfl) (VL.gT rfl rfl (VL.callP Tryz.call21 rfl (hsets) fun w3_15 e3_15 => VL.op (R.pickTB rfl rfl) (VL.op (R.asB rfl) (VL.nil (V.ret (fret1 (v := .bool _) rfl rfl rfl (⟨rfl, E2.trans e3_15⟩))))))))))))))))))))))))))))))
end Go.Proofs.YtlnbkoojelhjdaaGreatDoor
