/- Proof: the walk of law ProofCut. -/
import Derived.Test.YtmglkjigmcikdaaGreatDoorXJP
namespace Go.Proofs.YtmglkjigmcikdaaGreatDoor
open Go.Vc
set_option maxRecDepth 100000
set_option maxHeartbeats 16000000
def cutK (W : List Wy) (S : List St4) (k : Nat) : List St4 := (S.take k).map (cutS W) ++ S.drop k
theorem cutK_len (W : List Wy) (S : List St4) (k : Nat) : (cutK W S k).length = S.length := by
 unfold cutK
 rw [List.length_append, List.length_map, ← List.length_append, List.take_append_drop]
theorem cutK_get {W : List Wy} {S : List St4} {k : Nat} (h : k < S.length) : (cutK W S k).getD k default = S.getD k default := by
 unfold cutK
 rw [List.getD, List.getElem?_append_right (by rw [List.length_map, List.length_take]; omega), List.length_map, List.length_take, Nat.min_eq_left (by omega), Nat.sub_self, List.getElem?_drop]; rfl
theorem cutK_succ {W : List Wy} {S : List St4} {k : Nat} (h : k < S.length) : cutK W S (k + 1) = (cutK W S k).set k (cutS W (S.getD k default)) := by
 unfold cutK
 rw [List.set_append_right _ _ (by rw [List.length_map, List.length_take]; omega), List.length_map, List.length_take, Nat.min_eq_left (by omega), Nat.sub_self, List.drop_eq_getElem_cons h, List.set_cons_zero, List.take_succ_eq_append_getElem h, List.map_append, List.append_assoc, gget h]; rfl
theorem cutK_skip {W : List Wy} {S : List St4} {k : Nat} (h : k < S.length) (hk : (S.getD k default).k = 1) : cutK W S (k + 1) = cutK W S k := by
 unfold cutK
 rw [List.take_succ_eq_append_getElem h, List.map_append, List.append_assoc]
 conv => rhs; rhs; rw [List.drop_eq_getElem_cons h]
 rw [gget h] at hk
 rw [List.map_cons, List.map_nil, show cutS W S[k] = S[k] by unfold cutS; rw [if_pos hk]]
 rfl
theorem cutK_all (W : List Wy) (S : List St4) : cutK W S S.length = S.map (cutS W) := by
 unfold cutK
 rw [List.take_length, List.drop_length, List.append_nil]
theorem cut_law (g : GrW) (wa : Option Addr) (wc : Nat) (W : List WyI) (h : Bool) (p : PfX) (B : Nat) (w : World) (hI : GIn w g) (hW : WIn30 w wa W) (hP : PfIn w p) (hB : B ≤ w.heap.size) (hT : TabW B w) :
  RetsP Tryz.prog 8 #[.agg (encGr g).toArray, .slice wa W.length wc, .bool h, .agg (encPf p).toArray] w (.bool true) := by
 refine enter (args := [_, _, _, _]) Tryz.func8 rfl Tryz.ntmps8 (by kernel_rfl) rfl ?_
 refine V.seq (V.region (VL.box (v := .agg _) rfl fun b0_0 w0_0 hb0_0 e0_0 hB0_0 => VL.box (v := .agg _) rfl fun b0_1 w0_1 hb0_1 e0_1 hB0_1 => VL.op (R.asB rfl) (VL.nil (V.seq (V.region (VL.callP Tryz.call9 rfl (head_spec30 B _ (Nat.le_trans hB (Vc.Mod.size (e0_0.trans e0_1))) (hT.ext hB (e0_0.trans e0_1))) fun w1_0 e1_0 => VL.op (R.asB rfl) (VL.nil (V.seq (V.seq (?_))))))))))
 have E1 : Ext w w1_0 := (e0_0.trans e0_1).trans e1_0
 have hX0 := (hB0_0.ext e0_1).ext e1_0
 have hX1 := hB0_1.ext e1_0
 have hcG : ∀ {w'}, Ext w1_0 w' → RowAt w' b0_0 0 (encGr g) := fun e => (hX0.ext e).rowAt 0 3
 have hcp : ∀ {w'}, Ext w1_0 w' → RowAt w' b0_1 0 [Value.slice p.a p.S.length p.c] := fun e => (hX1.ext e).rowAt 0 1
 refine V.region (VL.op (R.ldA Tryz.isAgg25 Tryz.sizeOf25 rfl rfl ((hcG (Vc.Mod.refl _ _))) rfl) (VL.op (R.mvS rfl) (VL.op (R.ldA Tryz.isAgg29 Tryz.sizeOf29 rfl rfl ((hcp (Vc.Mod.refl _ _))) rfl) (VL.callX Tryz.call10 rfl (few30_spec g wa wc W p.a p.c p.S.length _ (hI.ext E1) (hW.ok.ext E1) hW.m hW.e hP.2.1) fun b2 w2 h2 e2 => VL.op (R.not rfl) (VL.op (R.mvB rfl) (VL.or rfl rfl (fun g2_5 => VL.op (R.ldA Tryz.isAgg25 Tryz.sizeOf25 rfl rfl ((hcG e2)) rfl) (VL.gT rfl rfl (VL.callP Tryz.call19 rfl (rvalid_spec g _ (hI.ok.ext (E1.trans e2)) (hI.glen (h2 (by simpa using g2_5)).e)) fun w2_7 e2_7 => VL.gT rfl rfl (VL.op (R.not rfl) (VL.op (R.pickFB rfl rfl) (VL.nil (V.cond rfl (fun c23 => V.seq (V.region (VL.op (R.mvB rfl) (VL.op (R.asB rfl) (VL.nil (V.ret (fret1 (v := .bool _) rfl rfl rfl (⟨rfl, E1.trans (e2.trans e2_7)⟩)))))))) (fun c23 => V.skip (V.seq (?_)))))))))) (fun g2_5 => VL.gF rfl rfl (VL.gF rfl rfl (VL.op (R.pickTB rfl rfl) (VL.nil (V.condT rfl (V.seq (V.region (VL.op (R.mvB rfl) (VL.op (R.asB rfl) (VL.nil (V.ret (fret1 (v := .bool _) rfl rfl rfl (⟨rfl, E1.trans e2⟩)))))))))))))))))))
 have hf := h2 (by simpa using g2_5)
 have hv : validG (grV g) = true := by simpa using c23
 have hgl := hI.glen hf.e
 have hwl := hf.wl
 have hw30 := hf.w.w
 have hs200 := hf.w.s
 have E3 : Ext w1_0 w2_7 := e2.trans e2_7
 have F3 : Ext w w2_7 := E1.trans E3
 refine V.region (VL.op (R.build Tryz.zeroValue51 Tryz.runUnderlying51 pl51 rfl) (VL.buildSl Tryz.runUnderlying27 Tryz.sizeOf51 Tryz.zeroValue51 rfl rfl rfl fun b4_1 w4_1 hb4_1 e4_1 hB4_1 => VL.op (R.build Tryz.zeroValue29 Tryz.runUnderlying29 pl29 rfl) (VL.allocSt (v := .agg _) Tryz.zeroValue29 Tryz.sizeOf29 rfl rfl rfl rfl rfl fun b4_3 w4_3 hb4_3 e4_3 hB4_3 => VL.nil (V.seq (V.seq (?_))))))
 have hN : TSl encS4 4 w4_3 (some ⟨b4_1, 0, none⟩) sN := OwnT.sl (B := 0) (OwnT.of1 encS4 4 (⟨5, 0, 0, 0⟩ : St4) (hB4_1.ext e4_3) (Nat.zero_le _) rfl rfl)
 have hXN : Blk w4_3 b4_3 (.cells #[.slice (some ⟨b4_1, 0, none⟩) 1 1] 29 (0, 0)) := hB4_3
 clear hB4_3 hB4_1
 have E4 : Ext w1_0 w4_3 := E3.trans (e4_1.trans e4_3)
 have hn0 : ∀ {w'} (h : Bool) (b : Bool), checkA (grV g) [] h sN = b → Ext w4_3 w' → RetsP Tryz.prog 14 #[.agg (encGr g).toArray, .slice none 0 0, .bool h, .agg #[.slice (some ⟨b4_1, 0, none⟩) 1 1]] w' (.bool b) := fun h b hb e => by
  rw [← hb]
  exact checkS g none 0 [] h (some ⟨b4_1, 0, none⟩) 1 sN B _ (hI.ok.ext (E1.trans (E4.trans e))) hgl ⟨TSl.nil _ _ _ _, fun x h => nomatch h⟩ (fun y h => nomatch h) (Nat.zero_le _) (hN.ext e) (Nat.le_of_ble_eq_true rfl) (Nat.le_trans hB (Vc.Mod.size (E1.trans (E4.trans e)))) (hT.ext hB (E1.trans (E4.trans e)))
 obtain ⟨hn1, hn2⟩ := none_steps hv
 refine V.region (VL.op (R.ldA Tryz.isAgg25 Tryz.sizeOf25 rfl rfl ((hcG E4)) rfl) (VL.op (R.ldA Tryz.isAgg29 Tryz.sizeOf29 rfl rfl ((show RowAt _ _ _ [Value.slice (some ⟨b4_1, 0, none⟩) 1 1] from hXN.rowAt 0 1)) rfl) (VL.callP Tryz.call14 rfl ((hn0 true true hn1 (Vc.Mod.refl _ _))) fun w5_2 e5_2 => VL.op (R.not rfl) (VL.op (R.mvB rfl) (VL.gT rfl rfl (VL.op (R.ldA Tryz.isAgg25 Tryz.sizeOf25 rfl rfl ((hcG (E4.trans e5_2))) rfl) (VL.gT rfl rfl (VL.op (R.ldA Tryz.isAgg29 Tryz.sizeOf29 rfl rfl ((show RowAt _ _ _ [Value.slice (some ⟨b4_1, 0, none⟩) 1 1] from (hXN.ext e5_2).rowAt 0 1)) rfl) (VL.gT rfl rfl (VL.callP Tryz.call14 rfl ((hn0 false false hn2 e5_2)) fun w5_7 e5_7 => VL.op (R.pickFB rfl rfl) (VL.nil (V.condF rfl (V.skip (V.seq (V.seq (?_))))))))))))))))
 have E5 : Ext w1_0 w5_7 := E4.trans (e5_2.trans e5_7)
 have hck : ∀ {w'} (pa : Option Addr) (pc : Nat) (P : List St4), TSl encS4 4 w' pa P → P.length ≤ 1000 → Ext w1_0 w' → RetsP Tryz.prog 14 #[.agg (encGr g).toArray, .slice wa W.length wc, .bool h, .agg #[.slice pa P.length pc]] w' (.bool (checkA (grV g) (W.map wyV) h P)) := fun pa pc P k4 k5 e => checkS g wa wc W h pa pc P B _ (hI.ok.ext (E1.trans e)) hgl (hW.ok.ext (E1.trans e)) hwl (by omega) k4 (by omega) (Nat.le_trans hB (Vc.Mod.size (E1.trans e))) (hT.ext hB (E1.trans e))
 refine V.region (VL.op (R.ldA Tryz.isAgg25 Tryz.sizeOf25 rfl rfl ((hcG E5)) rfl) (VL.op (R.mvS rfl) (VL.op (R.mvB rfl) (VL.op (R.ldA Tryz.isAgg29 Tryz.sizeOf29 rfl rfl ((hcp E5)) rfl) (VL.callP Tryz.call14 rfl (hck p.a p.c p.S (hP.1.ext (E1.trans E5)) (by omega) E5) fun w7_4 e7_4 => VL.op (R.not rfl) (VL.nil (V.cond rfl (fun c42 => V.seq (V.region (VL.op (R.mvB rfl) (VL.op (R.asB rfl) (VL.nil (V.ret (fret1 (v := .bool _) rfl rfl rfl (⟨rfl, E1.trans (E5.trans e7_4)⟩)))))))) (fun c42 => V.skip (V.seq (?_))))))))))
 have E7 : Ext w1_0 w7_4 := E5.trans e7_4
 refine V.region (VL.buildSl Tryz.runUnderlying27 Tryz.sizeOf51 Tryz.zeroValue51 rfl rfl rfl fun b9 v9 hb9 f9 hC9 => VL.op (R.fld' (o := 0) Tryz.runUnderlying29 rfl rfl Tryz.sizeOf27 rfl rfl) (VL.op (R.ld1 Tryz.isAgg27 rfl ((show _ = some (Value.slice p.a p.S.length p.c) from (hX1.ext (E7.trans f9)).cell 0))) (VL.appendT el27 (fun _ => rfl) rfl (rfl) ((OwnT.of0 encS4 4 hC9 (Nat.le_of_eq hb9.symm))) rfl (rfl) ((hP.1.ext (E1.trans (E7.trans f9)))) (hP.2.2) (by simp; omega) (by simp [maxLen]; omega) f9.size (show 0 + p.S.length = p.S.length by omega) fun a10 c10 v10 ho10 m10 hf10 => VL.op (R.asS rfl) (VL.nil (V.seq (V.seq (?_)))))))
 rw [List.nil_append] at ho10
 have E10 : Ext w7_4 v10 := f9.ownA m10 fun x hx => by have := aBlk_some hx; omega
 refine V.region (VL.op (R.asI rfl) (VL.nil (V.block (?_))))
 refine V.loop [1, 2, 4, 9, 11, 12] (fun k : Nat => [.slice wa W.length wc, .bool h, .pointer (some ⟨b0_0, 0, none⟩), .bool true, .slice a10 p.S.length c10, .int .i64 (k : Nat)]) (fun k w' => k ≤ p.S.length ∧ OwnT encS4 4 51 w7_4.heap.size w' a10 c10 (cutK (W.map wyV) p.S k) ∧ Ext w7_4 w') (fun k => p.S.length - k) 0 rfl ⟨Nat.zero_le _, ho10, E10⟩ ?_
 rintro ρ k v11 ⟨hk, ho, e11⟩
 have hlen := cutK_len (W.map wyV) p.S k
 refine V.seq (V.seq (V.region (VL.op (R.mvI rfl) (VL.op (R.mvS rfl) (VL.op (R.lenS Tryz.runUnderlying27 rfl) (VL.op (R.lss rfl rfl) (VL.nil (V.condP rfl (fun c51 => V.skip (V.seq (V.block (V.seq (?_))))) (fun c51 => V.exit (V.seq (?_)))))))))))
 ·have hkn : k < p.S.length := by omega
  have hget := cutK_get (W := W.map wyV) hkn
  refine V.region (VL.op (R.mvS rfl) (VL.op (R.mvI rfl) (VL.op (R.ixS Tryz.runUnderlying27 Tryz.sizeOf51 rfl rfl (by omega) (by omega) (ho.sl.some (i := k) (by omega))) (VL.op (R.fld' (o := 0) Tryz.runUnderlying51 rfl rfl Tryz.sizeOf3 rfl rfl) (VL.op (R.ld1 Tryz.isAgg3 rfl (((ho.sl.row (i := k) (by omega)).cell (i := 0) rfl))) (VL.op (R.neq rfl rfl) (VL.nil (V.condP rfl (fun c59 => V.region (VL.op (R.mvS rfl) (VL.op (R.mvI rfl) (VL.op (R.mvS rfl) (VL.op (R.lenS Tryz.runUnderlying26 rfl) (VL.op (R.build Tryz.zeroValue51 Tryz.runUnderlying51 pl51 rfl) (VL.op (R.ixS Tryz.runUnderlying27 Tryz.sizeOf51 rfl rfl (by omega) (by omega) (ho.sl.some (i := k) (by omega))) (VL.ownSt eltS4 (v := .agg _) Tryz.sizeOf51 (ho) k 0 (⟨4, ((W.length : Nat) : Int), 0, 0⟩ : St4) rfl rfl (by omega) rfl rfl rfl rfl rfl fun v12 ho12 m12 hs12 => VL.nil (V.region (VL.op (R.mvI rfl) (VL.op (R.add rfl rfl (by omega) (by omega)) (VL.op (R.asI rfl) (VL.nil (?_)))))))))))))) (fun c59 => V.skip (V.region (VL.op (R.mvI rfl) (VL.op (R.add rfl rfl (by omega) (by omega)) (VL.op (R.asI rfl) (VL.nil (?_)))))))))))))))
  ·rw [hget] at c59
   refine ⟨k + 1, rfl, ⟨by omega, ?_, e11.ownA m12 ho.ge⟩, by omega⟩
   rw [cutK_succ hkn, show cutS (W.map wyV) (p.S.getD k default) = ⟨4, ((W.length : Nat) : Int), 0, 0⟩ by unfold cutS; rw [if_neg c59, List.length_map]]
   exact ho12
  ·rw [hget] at c59
   refine ⟨k + 1, rfl, ⟨by omega, ?_, e11⟩, by omega⟩
   rw [cutK_skip hkn (by omega)]
   exact ho
 ·have hkn : k = p.S.length := by omega
  subst hkn
  rw [cutK_all] at ho
  have hlast : RetsP Tryz.prog 14 #[.agg (encGr g).toArray, .slice wa W.length wc, .bool h, .agg #[.slice a10 p.S.length c10]] v11 (.bool false) := by
   have := hck a10 c10 (p.S.map (cutS (W.map wyV))) ho.sl (by rw [List.length_map]; omega) (E7.trans e11)
   rwa [cut_none, List.length_map] at this
  refine V.region (VL.op (R.mvB rfl) (VL.op (R.mvB rfl) (VL.gT rfl rfl (VL.op (R.ldA Tryz.isAgg25 Tryz.sizeOf25 rfl rfl ((hcG (E7.trans e11))) rfl) (VL.gT rfl rfl (VL.op (R.mvS rfl) (VL.gT rfl rfl (VL.op (R.mvB rfl) (VL.gT rfl rfl (VL.op (R.mvS rfl) (VL.gT rfl rfl (VL.op (R.build Tryz.zeroValue29 Tryz.runUnderlying29 pl29 rfl) (VL.gT rfl rfl (VL.callP Tryz.call14 rfl (hlast) fun w15_7 e15_7 => VL.gT rfl rfl (VL.op (R.not rfl) (VL.op (R.pickTB rfl rfl) (VL.op (R.asB rfl) (VL.nil (V.ret (fret1 (v := .bool _) rfl rfl rfl (⟨rfl, E1.trans (E7.trans (e11.trans e15_7))⟩)))))))))))))))))))))
end Go.Proofs.YtmglkjigmcikdaaGreatDoor
