/- Repair: the walk of law RepairExtends. -/
import Derived.Test.YtlnbkoojelhjdaaGreatDoorXR15
import Derived.Test.YtlnbkoojelhjdaaGreatDoorXR16
import Derived.Test.YtlnbkoojelhjdaaGreatDoorXJ
namespace Go.Proofs.YtlnbkoojelhjdaaGreatDoor
open Go.Vc
theorem small_glen {w : World} {g : GrW} {n : Int} (hI : GIn w g) (h : smallB (grV g) n = true) : GLen g :=
  ⟨hI.c, hI.e.len, fun x hx => ⟨by have : x.l.length ≤ 6 := (smallB_iff.1 h).2.2.2 x.l (List.mem_map_of_mem hx); omega, (hI.e.each x hx).2.1⟩⟩
theorem rep_load {g : Gr} (hg : validG g = true) {R : List Int} (hR : IsRep g R) : loadB g R = true := loadB_iff.2 ⟨hg, hR.set, indB_iff.2 hR.free⟩
theorem rep_ext {g : Gr} (hg : validG g = true) {R : List Int} (hR : IsRep g R) : extF g R = R := by
  obtain ⟨h1, h2⟩ := ext_rep (rep_load hg hR)
  exact (rep_anti hR h1 h2).symm
set_option maxRecDepth 100000 in
set_option maxHeartbeats 16000000 in
theorem extends_law (g : GrW) (sa : Option Addr) (sc B : Nat) (S : List Int) (w : World) (hI : GIn w g) (hS : IntSl w sa S) (hsl : S.length ≤ 9223372036854775807) (hB : B ≤ w.heap.size) (hT : TabW B w) :
    RetsP Tryz.prog 5 #[.agg (encGr g).toArray, .slice sa S.length sc] w (.bool true) := by
  refine enter (args := [_, _]) Tryz.func5 rfl Tryz.ntmps5 (by kernel_rfl) rfl ?_
  refine V.seq (V.region (VL.box (v := .agg _) rfl fun b0_0 w0_0 hb0_0 e0_0 hB0_0 => VL.op (R.asB rfl) (VL.nil (V.seq (V.region (VL.callP Tryz.call11 rfl (head_spec28 B _ (Nat.le_trans hB (e0_0).size) (hT.ext hB e0_0)) fun w1_0 e1_0 => VL.op (R.asB rfl) (VL.nil (V.seq (V.seq (V.region (VL.op (R.ldA Tryz.isAgg25 Tryz.sizeOf25 rfl rfl ((show RowAt _ _ _ (encGr g) from ((hB0_0.ext e1_0).rowAt 0 3))) rfl) (VL.callP Tryz.call12 rfl (small_spec g 40 _ (hI.ok.ext (e0_0.trans e1_0)) hI.c hI.e.len (fun x hx => (hI.e.each x hx).1) (by decide) (by decide)) fun w2_1 e2_1 => VL.op (R.not rfl) (VL.op (R.mvB rfl) (VL.or rfl rfl (fun g2_3 => VL.op (R.mvS rfl) (VL.gT rfl rfl (VL.op (R.lenS Tryz.runUnderlying22 rfl) (VL.gT rfl rfl (VL.op (R.gtr rfl rfl) (VL.op (R.pickFB rfl rfl) (VL.nil (V.condP rfl (fun c18 => V.seq (V.region (VL.op (R.mvB rfl) (VL.op (R.asB rfl) (VL.nil (V.ret (fret1 (v := .bool _) rfl rfl rfl (⟨rfl, ((e0_0.trans e1_0).trans e2_1)⟩)))))))) (fun c18 => V.skip (V.seq (?_))))))))))) (fun g2_3 => VL.gF rfl rfl (VL.gF rfl rfl (VL.op (R.pickTB rfl rfl) (VL.nil (V.condT rfl (V.seq (V.region (VL.op (R.mvB rfl) (VL.op (R.asB rfl) (VL.nil (V.ret (fret1 (v := .bool _) rfl rfl rfl (⟨rfl, ((e0_0.trans e1_0).trans e2_1)⟩)))))))))))))))))))))))))))
  have hsm : smallB (grV g) 40 = true := by simpa using g2_3
  have hgl := small_glen hI hsm
  have hsl2 : S.length ≤ 50 := by omega
  have E2 := (e0_0.trans e1_0).trans e2_1
  have hX2 : Blk w2_1 b0_0 (.cells (Value.agg (encGr g).toArray).cells 25 (0, 0)) := hB0_0.ext (e1_0.trans e2_1)
  refine V.region (VL.op (R.ldA Tryz.isAgg25 Tryz.sizeOf25 rfl rfl ((show RowAt _ _ _ (encGr g) from hX2.rowAt 0 3)) rfl) (VL.op (R.mvS rfl) (VL.callX Tryz.call13 rfl (extend_spec g sa sc S B w2_1 (hI.ok.ext E2) hgl (hS.ext E2) (by omega) (Nat.le_trans hB E2.size) (hT.ext hB E2)) fun x4 w4 h4 e4 => VL.op (R.mvT rfl) (VL.op (R.extr rfl rfl) (VL.op (R.extr rfl rfl) (VL.op (R.asS rfl) (VL.op (R.asI rfl) (VL.nil (V.seq (V.seq (V.region (VL.op (R.ldA Tryz.isAgg25 Tryz.sizeOf25 rfl rfl ((show RowAt _ _ _ (encGr g) from (hX2.ext e4).rowAt 0 3)) rfl) (VL.op (R.mvS rfl) (VL.callP Tryz.call17 rfl (indep_spec g sa sc S B w4 (hI.ok.ext (E2.trans e4)) hgl (hS.ext (E2.trans e4)) (by omega) (Nat.le_trans hB (E2.trans e4).size) (hT.ext hB (E2.trans e4))) fun w5_2 e5_2 => VL.op (R.not rfl) (VL.nil (V.cond rfl (fun c29 => V.seq (?_)) (fun c29 => V.skip (V.seq (?_)))))))))))))))))))
  · have hb : loadB (grV g) S = false := by simpa using c29
    obtain ⟨_, hv4⟩ := h4
    rw [hb, if_neg (by decide)] at hv4
    obtain ⟨⟨a4, c4, l4⟩, r4⟩ := x4
    obtain ⟨h1, h2⟩ := Prod.mk.inj hv4
    dsimp only at h1 h2 ⊢
    subst h1 h2
    refine V.region (VL.op (R.mvB rfl) (VL.op (R.mvB rfl) (VL.gT rfl rfl (VL.op (R.mvI rfl) (VL.gT rfl rfl (VL.op (R.lit (R.eql rfl rfl) ((decide_eq_true rfl))) (VL.op (R.pickTB rfl rfl) (VL.op (R.mvB rfl) (VL.gT rfl rfl (VL.op (R.mvS rfl) (VL.gT rfl rfl (VL.op (R.lenS Tryz.runUnderlying22 rfl) (VL.gT rfl rfl (VL.op (R.lit (R.eql rfl rfl) ((decide_eq_true rfl))) (VL.op (R.pickTB rfl rfl) (VL.op (R.asB rfl) (VL.nil (V.ret (fret1 (v := .bool _) rfl rfl rfl (⟨rfl, (E2.trans e4).trans e5_2⟩))))))))))))))))))))
  · have hb : loadB (grV g) S = true := by simpa using c29
    obtain ⟨ho4, hv4⟩ := h4
    rw [hb, if_pos rfl] at hv4
    obtain ⟨⟨a4, c4, l4⟩, r4⟩ := x4
    obtain ⟨h1, h2⟩ := Prod.mk.inj hv4
    dsimp only at h1 h2 ho4 ⊢
    subst h2
    obtain ⟨hv, hset, _⟩ := loadB_iff.1 hb
    obtain ⟨hrep, hin⟩ := ext_rep hb
    rw [← h1] at hrep hin
    have hcb := costB_iff.1 (validG_iff.1 hv).1
    have hll : l4.length ≤ 4000 := by
      have h5 := setB_iff.1 hrep.set
      have h6 := set_len h5.1 h5.2 hcb.1
      have h0 : (grV g).n ≤ 4000 := hcb.2.1
      omega
    have E5 := (E2.trans e4).trans e5_2
    have hX5 := (hX2.ext e4).ext e5_2
    have hs5 : IntSl w5_2 a4 l4 := ho4.sl.ext e5_2
    refine V.region (VL.op (R.ldA Tryz.isAgg25 Tryz.sizeOf25 rfl rfl ((show RowAt _ _ _ (encGr g) from hX5.rowAt 0 3)) rfl) (VL.op (R.mvS rfl) (VL.callX Tryz.call13 rfl (extend_spec g a4 c4 l4 B w5_2 (hI.ok.ext E5) hgl hs5 (by omega) (Nat.le_trans hB E5.size) (hT.ext hB E5)) fun x7 w7 h7 e7 => VL.op (R.mvT rfl) (VL.op (R.extr rfl rfl) (VL.op (R.extr rfl rfl) (VL.op (R.asS rfl) (VL.op (R.asI rfl) (VL.nil (V.seq (?_))))))))))
    obtain ⟨ho7, hv7⟩ := h7
    rw [rep_load hv hrep, if_pos rfl, rep_ext hv hrep] at hv7
    obtain ⟨⟨a7, c7, l7⟩, r7⟩ := x7
    obtain ⟨h3, h4⟩ := Prod.mk.inj hv7
    dsimp only at h3 h4 ho7 ⊢
    subst h4
    have E7 := E5.trans e7
    have hX7 := hX5.ext e7
    have hs7 := hs5.ext e7
    have hT7 := hT.ext hB E7
    have hB7 := Nat.le_trans hB E7.size
    have his : ∀ w', Ext w7 w' → RetsP Tryz.prog 19 #[.agg (encGr g).toArray, .slice a4 l4.length c4] w' (.bool true) := fun w' e => by
      have := is_spec28 g a4 c4 l4 B w' (hI.ok.ext (E7.trans e)) hgl (hs7.ext e) (by omega) (Nat.le_trans hB7 e.size) (hT7.ext hB7 e)
      rwa [(isB_iff hv).2 hrep] at this
    have hcon : ∀ w', Ext w7 w' → RetsP Tryz.prog 27 #[.slice a4 l4.length c4, .slice sa S.length sc] w' (.bool true) := fun w' e => by
      have := cont_spec a4 sa c4 sc l4 S w' (by omega) hsl (hs7.ext e) (hS.ext (E7.trans e))
      rwa [contF_of (setB_iff.1 hrep.set).1 (setB_iff.1 hset).1 hin] at this
    refine V.region (VL.op (R.mvB rfl) (VL.op (R.mvB rfl) (VL.gT rfl rfl (VL.op (R.mvI rfl) (VL.gT rfl rfl (VL.op (R.lit (R.eql rfl rfl) ((decide_eq_true rfl))) (VL.op (R.pickTB rfl rfl) (VL.op (R.mvB rfl) (VL.gT rfl rfl (VL.op (R.ldA Tryz.isAgg25 Tryz.sizeOf25 rfl rfl ((show RowAt _ _ _ (encGr g) from hX7.rowAt 0 3)) rfl) (VL.gT rfl rfl (VL.op (R.mvS rfl) (VL.gT rfl rfl (VL.callP Tryz.call19 rfl ((his _ (Mod.refl _ _))) fun w8_8 e8_8 => VL.op (R.pickTB rfl rfl) (VL.op (R.mvB rfl) (VL.gT rfl rfl (VL.op (R.mvS rfl) (VL.gT rfl rfl (VL.op (R.mvS rfl) (VL.gT rfl rfl (VL.callP Tryz.call27 rfl ((hcon _ e8_8)) fun w8_13 e8_13 => VL.op (R.pickTB rfl rfl) (VL.op (R.mvB rfl) (VL.gT rfl rfl (VL.op (R.mvI rfl) (VL.gT rfl rfl (VL.op (R.lit (R.eql rfl rfl) ((decide_eq_true rfl))) (VL.op (R.pickTB rfl rfl) (VL.op (R.mvB rfl) (VL.gT rfl rfl (VL.op (R.mvS rfl) (VL.gT rfl rfl (VL.buildSl Tryz.runUnderlying23 Tryz.sizeOf22 Tryz.zeroValue22 rfl rfl rfl fun b8_21 w8_21 hb8_21 e8_21 hB8_21 => VL.gT rfl rfl (VL.op (R.mvS rfl) (VL.gT rfl rfl (VL.buildSl Tryz.runUnderlying23 Tryz.sizeOf22 Tryz.zeroValue22 rfl rfl rfl fun b8_23 w8_23 hb8_23 e8_23 hB8_23 => VL.gT rfl rfl (VL.callP Tryz.call21 rfl ((sets_is ([⟨a4, c4, l4⟩] : List SlI) ([⟨a7, c7, l7⟩] : List SlI) _ _ 1 1 _ (by rw [h3]; rfl) (Nat.le_of_ble_eq_true rfl) (fun x hx => by rw [List.mem_singleton.1 hx]; dsimp only; omega) (fun x hx => by rw [List.mem_singleton.1 hx]; dsimp only; rw [h3]; omega) (litL (L := ([⟨a4, c4, l4⟩] : List SlI)) (hB8_21.ext e8_23) rfl (litA (hs7.ext (((e8_8.trans e8_13).trans e8_21).trans e8_23)) litA0)) (litL (L := ([⟨a7, c7, l7⟩] : List SlI)) hB8_23 rfl (litA (ho7.sl.ext (((e8_8.trans e8_13).trans e8_21).trans e8_23)) litA0)))) fun w8_24 e8_24 => VL.op (R.pickTB rfl rfl) (VL.op (R.asB rfl) (VL.nil (V.ret (fret1 (v := .bool _) rfl rfl rfl (⟨rfl, E7.trans ((((e8_8.trans e8_13).trans e8_21).trans e8_23).trans e8_24)⟩)))))))))))))))))))))))))))))))))))))))))
end Go.Proofs.YtlnbkoojelhjdaaGreatDoor
