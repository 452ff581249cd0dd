/- Proof: the walk of law ProofMonotone. -/
import Derived.Test.YtmglkjigmcikdaaGreatDoorXJP
namespace Go.Proofs.YtmglkjigmcikdaaGreatDoor
open Go.Vc
set_option maxRecDepth 100000
set_option maxHeartbeats 16000000
theorem monotone_law (g : GrW) (wa : Option Addr) (wc : Nat) (W : List WyI) (ma : Option Addr) (mc : Nat) (M : List WyI) (p : PfX) (la : Option Addr) (lc : Nat) (L : List St4) (B : Nat) (w : World) (hI : GIn w g) (hW : WIn30 w wa W) (hxW : wa = none → wc = 0) (hM : WIn30 w ma M) (hxM : ma = none → mc = 0) (hP : PfIn w p) (hL : TSl encS4 4 w la L) (hLm : L.length ≤ 9223372036854775807) (hxL : la = none → lc = 0) (hB : B ≤ w.heap.size) (hT : TabW B w) :
  RetsP Tryz.prog 7 #[.agg (encGr g).toArray, .slice wa W.length wc, .slice ma M.length mc, .agg (encPf p).toArray, .slice la L.length lc] w (.bool true) := by
 refine enter (args := [_, _, _, _, _]) Tryz.func7 rfl Tryz.ntmps7 (by kernel_rfl) rfl ?_
 refine V.seq (V.region (VL.box (v := .agg _) rfl fun b0_0 w0_0 hb0_0 e0_0 hB0_0 => VL.box (v := .agg _) rfl fun b0_1 w0_1 hb0_1 e0_1 hB0_1 => VL.op (R.asB rfl) (VL.nil (V.seq (V.region (VL.callP Tryz.call9 rfl (head_spec30 B _ (Nat.le_trans hB (Vc.Mod.size (e0_0.trans e0_1))) (hT.ext hB (e0_0.trans e0_1))) fun w1_0 e1_0 => VL.op (R.asB rfl) (VL.nil (V.seq (V.seq (?_))))))))))
 have E1 : Ext w w1_0 := (e0_0.trans e0_1).trans e1_0
 have hX0 := (hB0_0.ext e0_1).ext e1_0
 have hX1 := hB0_1.ext e1_0
 have hcG : ∀ {w'}, Ext w1_0 w' → RowAt w' b0_0 0 (encGr g) := fun e => (hX0.ext e).rowAt 0 3
 have hcn : ∀ {w'}, Ext w1_0 w' → w'.cell? ⟨b0_0, 0, none⟩ = some (Value.int .i64 g.n) := fun e => (hX0.ext e).cell 0
 have hcp : ∀ {w'}, Ext w1_0 w' → RowAt w' b0_1 0 [Value.slice p.a p.S.length p.c] := fun e => (hX1.ext e).rowAt 0 1
 refine V.region (VL.op (R.ldA Tryz.isAgg25 Tryz.sizeOf25 rfl rfl ((hcG (Vc.Mod.refl _ _))) rfl) (VL.op (R.mvS rfl) (VL.op (R.ldA Tryz.isAgg29 Tryz.sizeOf29 rfl rfl ((hcp (Vc.Mod.refl _ _))) rfl) (VL.callX Tryz.call10 rfl (few30_spec g wa wc W p.a p.c p.S.length _ (hI.ext E1) (hW.ok.ext E1) hW.m hW.e hP.2.1) fun b2 w2 h2 e2 => VL.op (R.not rfl) (VL.op (R.mvB rfl) (VL.or rfl rfl (fun g2_5 => VL.op (R.ldA Tryz.isAgg25 Tryz.sizeOf25 rfl rfl ((hcG e2)) rfl) (VL.gT rfl rfl (VL.op (R.mvS rfl) (VL.gT rfl rfl (VL.op (R.ldA Tryz.isAgg29 Tryz.sizeOf29 rfl rfl ((hcp e2)) rfl) (VL.gT rfl rfl (VL.callX Tryz.call10 rfl (few30_spec g ma mc M p.a p.c p.S.length _ (hI.ext (E1.trans e2)) (hM.ok.ext (E1.trans e2)) hM.m hM.e hP.2.1) fun b3 w3 h3 e3 => VL.gT rfl rfl (VL.op (R.not rfl) (VL.op (R.pickFB rfl rfl) (VL.op (R.mvB rfl) (VL.or rfl rfl (fun g2_12 => VL.op (R.mvS rfl) (VL.gT rfl rfl (VL.op (R.lenS Tryz.runUnderlying27 rfl) (VL.gT rfl rfl (VL.op (R.gtr rfl rfl) (VL.op (R.pickFB rfl rfl) (VL.nil (V.condP rfl (fun c32 => V.seq (V.region (VL.op (R.mvB rfl) (VL.op (R.asB rfl) (VL.nil (V.ret (fret1 (v := .bool _) rfl rfl rfl (⟨rfl, E1.trans (e2.trans e3)⟩)))))))) (fun c32 => V.skip (V.seq (?_))))))))))) (fun g2_12 => VL.gF rfl rfl (VL.gF rfl rfl (VL.op (R.pickTB rfl rfl) (VL.nil (V.condT rfl (V.seq (V.region (VL.op (R.mvB rfl) (VL.op (R.asB rfl) (VL.nil (V.ret (fret1 (v := .bool _) rfl rfl rfl (⟨rfl, E1.trans (e2.trans e3)⟩)))))))))))))))))))))))) (fun g2_5 => VL.gF rfl rfl (VL.gF rfl rfl (VL.gF rfl rfl (VL.gF rfl rfl (VL.op (R.pickTB rfl rfl) (VL.op (R.mvB rfl) (VL.gF rfl rfl (VL.gF rfl rfl (VL.gF rfl rfl (VL.op (R.pickTB rfl rfl) (VL.nil (V.condT rfl (V.seq (V.region (VL.op (R.mvB rfl) (VL.op (R.asB rfl) (VL.nil (V.ret (fret1 (v := .bool _) rfl rfl rfl (⟨rfl, E1.trans e2⟩))))))))))))))))))))))))))
 have hf := h2 (by simpa using g2_5)
 have hf2 := h3 (by simpa using g2_12)
 have hgl := hI.glen hf.e
 have hwl := hf.wl
 have hml := hf2.wl
 have hw30 := hf.w.w
 have hm30 := hf2.w.w
 have hs200 := hf.w.s
 have E3 : Ext w1_0 w3 := e2.trans e3
 have F3 : Ext w w3 := E1.trans E3
 refine V.region (VL.buildSl Tryz.runUnderlying27 Tryz.sizeOf51 Tryz.zeroValue51 rfl rfl rfl fun b4 v4 hb4 f4 hC4 => VL.op (R.fld' (o := 0) Tryz.runUnderlying29 rfl rfl Tryz.sizeOf27 rfl rfl) (VL.op (R.ld1 Tryz.isAgg27 rfl ((show _ = some (Value.slice p.a p.S.length p.c) from (hX1.ext (E3.trans f4)).cell 0))) (VL.appendT el27 (fun _ => rfl) rfl (rfl) ((OwnT.of0 encS4 4 hC4 (Nat.le_of_eq hb4.symm))) rfl (rfl) ((hP.1.ext (F3.trans f4))) (hP.2.2) (by simp; omega) (by simp [maxLen]; omega) f4.size (show 0 + p.S.length = p.S.length by omega) fun a5 c5 v5 ho5 m5 hf5 => VL.op (R.mvS rfl) (VL.appendT el27 (fun _ => rfl) rfl (rfl) (ho5) rfl (rfl) ((hL.ext (F3.trans (f4.ownA m5 fun x hx => by have := aBlk_some hx; omega)))) (hxL) (by omega) (by unfold maxLen; omega) (Vc.Mod.size (f4.ownA m5 fun x hx => by have := aBlk_some hx; omega)) (show p.S.length + L.length = (p.S ++ L).length by simp) fun a6 c6 v6 ho6 m6 hf6 => VL.op (R.build Tryz.zeroValue29 Tryz.runUnderlying29 pl29 rfl) (VL.allocSt (v := .agg _) Tryz.zeroValue29 Tryz.sizeOf29 rfl rfl rfl rfl rfl fun b4_7 w4_7 hb4_7 e4_7 hB4_7 => VL.nil (V.seq (?_)))))))
 have EA : Ext w3 v5 := f4.ownA m5 fun x hx => by have := aBlk_some hx; omega
 have E6 : Ext w3 v6 := EA.ownA m6 ho5.ge
 have E7 : Ext w3 w4_7 := E6.trans e4_7
 have F7 : Ext w w4_7 := F3.trans E7
 have hXL : Blk w4_7 b4_7 (.cells #[.slice a6 (p.S ++ L).length c6] 29 (0, 0)) := hB4_7
 clear hB4_7 hC4
 have hLong := ho6.sl.ext e4_7
 refine V.region (VL.buildSl Tryz.runUnderlying26 Tryz.sizeOf37 Tryz.zeroValue37 rfl rfl rfl fun b7 v7 hb7 f7 hC7 => VL.op (R.mvS rfl) (VL.appendT el26 (fun _ => rfl) rfl (rfl) ((OwnT.of0 encWy 2 hC7 (Nat.le_of_eq hb7.symm))) rfl (rfl) ((hW.ok.sl.ext (F7.trans f7))) (hxW) (by simp; omega) (by simp [maxLen]; omega) f7.size (show 0 + W.length = W.length by omega) fun a8 c8 v8 ho8 m8 hf8 => VL.op (R.mvS rfl) (VL.appendT el26 (fun _ => rfl) rfl (rfl) (ho8) rfl (rfl) ((hM.ok.sl.ext (F7.trans (f7.ownA m8 fun x hx => by have := aBlk_some hx; omega)))) (hxM) (by omega) (by unfold maxLen; omega) (Vc.Mod.size (f7.ownA m8 fun x hx => by have := aBlk_some hx; omega)) (show W.length + M.length = (W ++ M).length by simp) fun a9 c9 v9 ho9 m9 hf9 => VL.op (R.asS rfl) (VL.nil (V.seq (V.seq (?_)))))))
 have EA8 : Ext w4_7 v8 := f7.ownA m8 fun x hx => by have := aBlk_some hx; omega
 have E9 : Ext w4_7 v9 := EA8.ownA m9 ho8.ge
 have F9 : Ext w v9 := F7.trans E9
 have EE : Ext w1_0 v9 := E3.trans (E7.trans E9)
 have hLong := hLong.ext E9
 have hXL := hXL.ext E9
 have hWide : WL v9 a9 (W ++ M) := ⟨ho9.sl, fun x hx => by
  rcases List.mem_append.1 hx with h | h
  ·exact (hW.ok.ext F9).each x h
  ·exact (hM.ok.ext F9).each x h⟩
 have hwidel : ∀ y ∈ W ++ M, WLen y := fun x hx => (List.mem_append.1 hx).elim (hwl x) (hml x)
 have hlw : (W ++ M).length = W.length + M.length := by simp
 have hlp : (p.S ++ L).length = p.S.length + L.length := by simp
 have hmap : (W ++ M).map wyV = W.map wyV ++ M.map wyV := List.map_append
 have hck : ∀ {w'} (va : Option Addr) (vc : Nat) (V : List WyI) (h : Bool) (pa : Option Addr) (pc : Nat) (P : List St4), WL v9 va V → (∀ y ∈ V, WLen y) → V.length ≤ 1000 → TSl encS4 4 v9 pa P → P.length ≤ 1000 → Ext v9 w' → RetsP Tryz.prog 14 #[.agg (encGr g).toArray, .slice va V.length vc, .bool h, .agg #[.slice pa P.length pc]] w' (.bool (checkA (grV g) (V.map wyV) h P)) := fun va vc V h pa pc P k1 k2 k3 k4 k5 e => checkS g va vc V h pa pc P B _ (hI.ok.ext (F9.trans e)) hgl (k1.ext e) k2 (by omega) (k4.ext e) (by omega) (Nat.le_trans hB (Vc.Mod.size (F9.trans e))) (hT.ext hB (F9.trans e))
 refine V.region (VL.op (R.asI rfl) (VL.nil (V.block (?_))))
 refine V.loop [1, 2, 5, 8, 11, 12, 13, 14] (fun k : Nat => [.slice wa W.length wc, .slice ma M.length mc, .pointer (some ⟨b0_0, 0, none⟩), .pointer (some ⟨b0_1, 0, none⟩), .bool true, .pointer (some ⟨b4_7, 0, none⟩), .slice a9 (W ++ M).length c9, .int .i64 (k : Nat)]) (fun k w' => k ≤ M.length ∧ (∀ i, i < k → wyB g.n (wyV (M.getD i default)) = true) ∧ Ext v9 w') (fun k => M.length - k) 0 rfl ⟨Nat.zero_le _, fun i h => absurd h (Nat.not_lt_zero i), Vc.Mod.refl _ _⟩ ?_
 rintro ρ k v10 ⟨hk, hfm, e10⟩
 have hM10 := hM.ok.ext (F9.trans e10)
 refine V.seq (V.seq (V.region (VL.op (R.mvI rfl) (VL.op (R.mvS rfl) (VL.op (R.lenS Tryz.runUnderlying26 rfl) (VL.op (R.lss rfl rfl) (VL.nil (V.condP rfl (fun c49 => V.skip (V.seq (V.block (V.seq (?_))))) (fun c49 => V.exit (V.seq (V.seq (?_))))))))))))
 ·have hkn : k < M.length := by omega
  refine V.regionQ mixed 8 (by kernel_rfl) rfl (fun w' => Ext _ w') (Ext.drawn _) (VQ.op (fun wq eq => R.mvS rfl) (VQ.op (fun wq eq => R.mvI rfl) (VQ.op (fun wq eq => R.ixS Tryz.runUnderlying26 Tryz.sizeOf37 rfl rfl (by omega) (by omega) (hM10.sl.some (i := k) hkn)) (VQ.op (fun wq eq => R.ldA Tryz.isAgg37 Tryz.sizeOf37 rfl rfl ((show RowAt _ _ _ (encWy (M.getD k default)) from ((hM10.sl.ext eq).row (i := k) hkn))) rfl) (VQ.op (fun wq eq => R.fld' (o := 0) Tryz.runUnderlying25 rfl rfl Tryz.sizeOf3 rfl rfl) (VQ.op (fun wq eq => R.ld1 Tryz.isAgg3 rfl ((hcn (EE.trans (e10.trans eq))))) (VQ.callP (fun _ _ h k => Mod.trans h k) Tryz.call20 rfl (fun wq eq => rformed30_spec (M.getD k default) g.n _ ((hM10.at hkn).ext eq) (hml _ (gmem hkn))) (VQ.op (fun wq eq => R.not rfl) (VQ.nil fun w9q e9q => VL.nil (V.cond rfl (fun c59 => V.seq (V.region (VL.op (R.mvB rfl) (VL.op (R.asB rfl) (VL.nil (V.ret (fret1 (v := .bool _) rfl rfl rfl (⟨rfl, F9.trans (e10.trans e9q)⟩)))))))) (fun c59 => V.skip (V.region (VL.op (R.mvI rfl) (VL.op (R.add rfl rfl (by omega) (by omega)) (VL.op (R.asI rfl) (VL.nil (⟨k + 1, rfl, ⟨by omega, fun i hi => ?_, e10.trans e9q⟩, by omega⟩)))))))))))))))))
  by_cases h : i = k
  ·subst h; simpa using c59
  ·exact hfm i (by omega)
 ·have hkn : k = M.length := by omega
  subst hkn
  have hMall : (M.map wyV).all (wyB g.n) = true := List.all_eq_true.2 fun x hx => by
   obtain ⟨y, hy, rfl⟩ := List.mem_map.1 hx
   obtain ⟨i, hi, rfl⟩ := List.getElem_of_mem hy
   have := hfm i hi
   rwa [gget hi] at this
  have hcG10 : ∀ {w'}, Ext v10 w' → RowAt w' b0_0 0 (encGr g) := fun e => hcG (EE.trans (e10.trans e))
  have hcp10 : ∀ {w'}, Ext v10 w' → RowAt w' b0_1 0 [Value.slice p.a p.S.length p.c] := fun e => hcp (EE.trans (e10.trans e))
  have hcl10 : ∀ {w'}, Ext v10 w' → RowAt w' b4_7 0 [Value.slice a6 (p.S ++ L).length c6] := fun e => (hXL.ext (e10.trans e)).rowAt 0 1
  have kNN : ∀ {w'} (h : Bool), Ext v10 w' → RetsP Tryz.prog 14 #[.agg (encGr g).toArray, .slice wa W.length wc, .bool h, .agg #[.slice p.a p.S.length p.c]] w' (.bool (checkA (grV g) (W.map wyV) h p.S)) := fun h e => hck wa wc W h p.a p.c p.S (hW.ok.ext F9) hwl (by omega) (hP.1.ext F9) (by omega) (e10.trans e)
  have kWN : ∀ {w'} (h : Bool), Ext v10 w' → RetsP Tryz.prog 14 #[.agg (encGr g).toArray, .slice a9 (W ++ M).length c9, .bool h, .agg #[.slice p.a p.S.length p.c]] w' (.bool (checkA (grV g) (W.map wyV ++ M.map wyV) h p.S)) := fun h e => by rw [← hmap]; exact hck a9 c9 (W ++ M) h p.a p.c p.S hWide hwidel (by omega) (hP.1.ext F9) (by omega) (e10.trans e)
  have kNL : ∀ {w'} (h : Bool), Ext v10 w' → RetsP Tryz.prog 14 #[.agg (encGr g).toArray, .slice wa W.length wc, .bool h, .agg #[.slice a6 (p.S ++ L).length c6]] w' (.bool (checkA (grV g) (W.map wyV) h (p.S ++ L))) := fun h e => hck wa wc W h a6 c6 (p.S ++ L) (hW.ok.ext F9) hwl (by omega) hLong (by omega) (e10.trans e)
  have kWL : ∀ {w'} (h : Bool), Ext v10 w' → RetsP Tryz.prog 14 #[.agg (encGr g).toArray, .slice a9 (W ++ M).length c9, .bool h, .agg #[.slice a6 (p.S ++ L).length c6]] w' (.bool (checkA (grV g) (W.map wyV ++ M.map wyV) h (p.S ++ L))) := fun h e => by rw [← hmap]; exact hck a9 c9 (W ++ M) h a6 c6 (p.S ++ L) hWide hwidel (by omega) hLong (by omega) (e10.trans e)
  have hfalse : checkA (grV g) (W.map wyV) false p.S = true → checkA (grV g) (W.map wyV ++ M.map wyV) false p.S = true ∧ checkA (grV g) (W.map wyV) false (p.S ++ L) = true := fun h => by
   have hr := checkA_ready h
   have hr2 : readyG (grV g) (W.map wyV ++ M.map wyV) = true := ready_app hr (by rw [← hmap, List.length_map]; omega) hMall
   refine ⟨?_, check_more (M := []) hr (.inr (.inr rfl)) (by omega) h⟩
   have := check_more (T := []) hr2 (.inl ⟨rfl, rfl⟩) (by rw [List.append_nil]; omega) h
   rwa [List.append_nil] at this
  have htrue : checkA (grV g) (W.map wyV ++ M.map wyV) true p.S = true → checkA (grV g) (W.map wyV) true p.S = true ∧ checkA (grV g) (W.map wyV ++ M.map wyV) true (p.S ++ L) = true := fun h => by
   have hr := checkA_ready h
   refine ⟨?_, check_more (M := []) hr (.inr (.inr rfl)) (by omega) h⟩
   have := check_more (T := []) (ready_left hr) (.inr (.inl ⟨rfl, rfl⟩)) (by rw [List.append_nil]; omega) h
   rwa [List.append_nil] at this
  refine V.regionCut [61, 62, 63, 64, 65, 66, 67, 68, 69, 70, 71, 72, 73, 74, 75, 76, 77, 78] 78 (.bool (false)) (fun w' => Ext _ w') rfl (VL.op (R.ldA Tryz.isAgg25 Tryz.sizeOf25 rfl rfl ((hcG10 (Vc.Mod.refl _ _))) rfl) (VL.op (R.mvS rfl) (VL.op (R.ldA Tryz.isAgg29 Tryz.sizeOf29 rfl rfl ((hcp10 (Vc.Mod.refl _ _))) rfl) (VL.callP Tryz.call14 rfl (kNN false (Vc.Mod.refl _ _)) fun w11_3 e11_3 => VL.op (R.mvB rfl) (VL.and rfl rfl (fun g11_4 => VL.op (R.ldA Tryz.isAgg25 Tryz.sizeOf25 rfl rfl ((hcG10 e11_3)) rfl) (VL.gT rfl rfl (VL.op (R.mvS rfl) (VL.gT rfl rfl (VL.op (R.ldA Tryz.isAgg29 Tryz.sizeOf29 rfl rfl ((hcp10 e11_3)) rfl) (VL.gT rfl rfl (VL.callP Tryz.call14 rfl (kWN false e11_3) fun w11_8 e11_8 => VL.gT rfl rfl (VL.op (R.not rfl) (VL.gT rfl rfl (VL.op (R.mvB rfl) (VL.or rfl rfl (fun g11_10 => VL.op (R.ldA Tryz.isAgg25 Tryz.sizeOf25 rfl rfl ((hcG10 (e11_3.trans e11_8))) rfl) (VL.gT rfl rfl (VL.op (R.mvS rfl) (VL.gT rfl rfl (VL.op (R.ldA Tryz.isAgg29 Tryz.sizeOf29 rfl rfl ((hcl10 (e11_3.trans e11_8))) rfl) (VL.gT rfl rfl (VL.callP Tryz.call14 rfl (kNL false (e11_3.trans e11_8)) fun w11_14 e11_14 => VL.gT rfl rfl (VL.op (R.not rfl) (VL.gT rfl rfl (VL.op (R.pickFB rfl rfl) (VL.op (R.pickTB rfl rfl) (VL.nil ⟨rfl, cutB rfl ?_, (Mod.trans e11_3 (Mod.trans e11_8 e11_14))⟩)))))))))))) (fun g11_10 => VL.gF rfl rfl (VL.gF rfl rfl (VL.gF rfl rfl (VL.gF rfl rfl (VL.gT rfl rfl (VL.op (R.pickTB rfl rfl) (VL.op (R.pickTB rfl rfl) (VL.nil ⟨rfl, cutB rfl ?_, (Mod.trans e11_3 e11_8)⟩))))))))))))))))))) (fun g11_4 => VL.gF rfl rfl (VL.gF rfl rfl (VL.gF rfl rfl (VL.gF rfl rfl (VL.gF rfl rfl (VL.gU rfl rfl (VL.gU rfl rfl (VL.gU rfl rfl (VL.gU rfl rfl (VL.gU rfl rfl (VL.gF rfl rfl (VL.op (R.pickFB rfl rfl) (VL.nil ⟨rfl, cutB rfl ?_, e11_3⟩)))))))))))))))))) (fun rg11 w11c e11c => V.cond rfl (fun c78 => V.seq (V.region (VL.op (R.asB rfl) (VL.nil (V.ret (fret1 (v := .bool _) rfl rfl rfl (?_))))))) (fun c78 => V.skip (V.seq (?_))))
  ·rw [(hfalse g11_4).2]; rfl
  ·rw [(hfalse g11_4).1] at g11_10; cases g11_10
  ·rfl
  ·cases c78
  have F11 : Ext w w11c := F9.trans (e10.trans e11c)
  refine V.region (VL.op (R.mvB rfl) (VL.op (R.mvB rfl) (VL.gT rfl rfl (VL.op (R.ldA Tryz.isAgg25 Tryz.sizeOf25 rfl rfl ((hcG10 e11c)) rfl) (VL.gT rfl rfl (VL.op (R.mvS rfl) (VL.gT rfl rfl (VL.op (R.ldA Tryz.isAgg29 Tryz.sizeOf29 rfl rfl ((hcp10 e11c)) rfl) (VL.gT rfl rfl (VL.callP Tryz.call14 rfl (kWN true e11c) fun w13_5 e13_5 => VL.gT rfl rfl (VL.op (R.not rfl) (VL.gT rfl rfl (VL.op (R.mvB rfl) (VL.or rfl rfl (fun g13_7 => VL.op (R.ldA Tryz.isAgg25 Tryz.sizeOf25 rfl rfl ((hcG10 (e11c.trans e13_5))) rfl) (VL.gT rfl rfl (VL.op (R.mvS rfl) (VL.gT rfl rfl (VL.op (R.ldA Tryz.isAgg29 Tryz.sizeOf29 rfl rfl ((hcp10 (e11c.trans e13_5))) rfl) (VL.gT rfl rfl (VL.callP Tryz.call14 rfl (kNN true (e11c.trans e13_5)) fun w13_11 e13_11 => VL.gT rfl rfl (VL.op (R.mvB rfl) (VL.and rfl rfl (fun g13_12 => VL.op (R.ldA Tryz.isAgg25 Tryz.sizeOf25 rfl rfl ((hcG10 (e11c.trans (e13_5.trans e13_11)))) rfl) (VL.gT rfl rfl (VL.op (R.mvS rfl) (VL.gT rfl rfl (VL.op (R.ldA Tryz.isAgg29 Tryz.sizeOf29 rfl rfl ((hcl10 (e11c.trans (e13_5.trans e13_11)))) rfl) (VL.gT rfl rfl (VL.callP Tryz.call14 rfl (kWL true (e11c.trans (e13_5.trans e13_11))) fun w13_16 e13_16 => VL.gT rfl rfl (VL.op (R.pickTB rfl rfl) (VL.gT rfl rfl (VL.op (R.pickFB rfl rfl) (VL.op (R.pickTB rfl rfl) (VL.op (R.asB rfl) (VL.nil (V.ret (fret1 (v := .bool _) rfl rfl rfl (⟨congrArg Value.bool ?_, F11.trans ((e13_5.trans e13_11).trans e13_16)⟩)))))))))))))))) (fun g13_12 => VL.gF rfl rfl (VL.gF rfl rfl (VL.gF rfl rfl (VL.gT rfl rfl (VL.op (R.pickFB rfl rfl) (VL.gT rfl rfl (VL.op (R.pickFB rfl rfl) (VL.op (R.pickTB rfl rfl) (VL.op (R.asB rfl) (VL.nil (V.ret (fret1 (v := .bool _) rfl rfl rfl (⟨congrArg Value.bool ?_, F11.trans (e13_5.trans e13_11)⟩)))))))))))))))))))))) (fun g13_7 => VL.gF rfl rfl (VL.gF rfl rfl (VL.gF rfl rfl (VL.gF rfl rfl (VL.gU rfl rfl (VL.gU rfl rfl (VL.gU rfl rfl (VL.gU rfl rfl (VL.gF rfl rfl (VL.gT rfl rfl (VL.op (R.pickTB rfl rfl) (VL.op (R.pickTB rfl rfl) (VL.op (R.asB rfl) (VL.nil (V.ret (fret1 (v := .bool _) rfl rfl rfl (⟨congrArg Value.bool ?_, F11.trans e13_5⟩)))))))))))))))))))))))))))))))
  ·exact (htrue (by simpa using g13_7)).2
  ·rw [(htrue (by simpa using g13_7)).1] at g13_12; cases g13_12
  ·rfl
end Go.Proofs.YtmglkjigmcikdaaGreatDoor
