/- Solve: the walk of law SolveWays. -/
import Derived.Test.YtdbcfpcicjgghaaGreatDoorXS30
namespace Go.Proofs.YtdbcfpcicjgghaaGreatDoor
open Go.Vc
set_option maxRecDepth 100000
set_option maxHeartbeats 16000000
theorem rev_next {α : Type} [Inhabited α] (l : List α) {k : Nat} (hk : k < l.length) : l.reverse.take (k + 1) = l.reverse.take k ++ [l.getD (l.length - 1 - k) default] := by
 rw [List.take_succ_eq_append_getElem (by rw [List.length_reverse]; exact hk), List.getElem_reverse, gget (by omega)]
theorem ways29_law (g : GrW) (wa : Option Addr) (wc : Nat) (W : List WyI) (va : Option Addr) (vc : Nat) (U : List WyI) (B : Nat) (w : World) (hI : GIn w g) (hW : WIn29 w wa W) (hwx : wa = none → wc = 0) (hV : WIn29 w va U) (hvx : va = none → vc = 0) (hB : B ≤ w.heap.size) (hT : TabW B w) :
  RetsP Tryz.prog 6 #[.agg (encGr g).toArray, .slice wa W.length wc, .slice va U.length vc] w (.bool true) := by
 refine enter (args := [_, _, _]) Tryz.func6 rfl Tryz.ntmps6 (by kernel_rfl) rfl ?_
 refine V.seq (V.region (VL.box (v := .agg _) rfl fun b0_0 w0_0 hb0_0 e0_0 hB0_0 => VL.op (R.asB rfl) (VL.nil (V.seq (V.region (VL.callP Tryz.call10 rfl (head29_spec B _ (Nat.le_trans hB (Vc.Mod.size e0_0)) (hT.ext hB e0_0)) fun w1_0 e1_0 => VL.op (R.asB rfl) (VL.nil (V.seq (V.seq (V.region (VL.op (R.ldA Tryz.isAgg25 Tryz.sizeOf25 rfl rfl ((show RowAt _ _ _ (encGr g) from (hB0_0.ext e1_0).rowAt 0 3)) rfl) (VL.op (R.mvS rfl) (VL.callX Tryz.call11 rfl (few29_spec g wa wc W 14 _ (hI.ext (e0_0.trans e1_0)) (hW.ok.ext (e0_0.trans e1_0)) hW.m hW.e) fun b2 w2 h2 e2 => VL.op (R.not rfl) (VL.op (R.mvB rfl) (VL.or rfl rfl (fun g2_4 => VL.op (R.ldA Tryz.isAgg25 Tryz.sizeOf25 rfl rfl ((show RowAt _ _ _ (encGr g) from (hB0_0.ext (e1_0.trans e2)).rowAt 0 3)) rfl) (VL.gT rfl rfl (VL.op (R.mvS rfl) (VL.gT rfl rfl (VL.callX Tryz.call11 rfl (few29_spec g va vc U 14 _ (hI.ext ((e0_0.trans e1_0).trans e2)) (hV.ok.ext ((e0_0.trans e1_0).trans e2)) hV.m hV.e) fun b7 w7 h7 e7 => VL.gT rfl rfl (VL.op (R.not rfl) (VL.op (R.pickFB rfl rfl) (VL.nil (V.cond rfl (fun c27 => V.seq (V.region (VL.op (R.mvB rfl) (VL.op (R.asB rfl) (VL.nil (V.ret (fret1 (v := .bool _) rfl rfl rfl (⟨rfl, (((e0_0.trans e1_0).trans e2).trans e7)⟩)))))))) (fun c27 => V.skip (V.seq (?_)))))))))))) (fun g2_4 => VL.gF rfl rfl (VL.gF rfl rfl (VL.gF rfl rfl (VL.op (R.pickTB rfl rfl) (VL.nil (V.condT rfl (V.seq (V.region (VL.op (R.mvB rfl) (VL.op (R.asB rfl) (VL.nil (V.ret (fret1 (v := .bool _) rfl rfl rfl (⟨rfl, ((e0_0.trans e1_0).trans e2)⟩)))))))))))))))))))))))))))))
 have hsm := h2 (by simpa using g2_4)
 have hsv := h7 (by simpa using c27)
 have hgn := hsm.n
 have hgl := hI.glen hsm.e
 have hwn := hsm.w.w
 have hvn := hsv.w.w
 have hwl := hsm.w.wl (by decide)
 have hvl := hsv.w.wl (by decide)
 have E2 := ((e0_0.trans e1_0).trans e2).trans e7
 have hX2 : Blk w7 b0_0 (.cells (Value.agg (encGr g).toArray).cells 25 (0, 0)) := hB0_0.ext ((e1_0.trans e2).trans e7)
 have hW2 := hW.ok.ext E2
 have hV2 := hV.ok.ext E2
 refine V.region (VL.buildSl Tryz.runUnderlying26 Tryz.sizeOf53 Tryz.zeroValue53 rfl rfl rfl fun b4 w4 hb4 e4 hB4 => VL.op (R.mvS rfl) (VL.appendT el26 (fun _ => rfl) rfl (rfl) ((OwnT.of0 encWy 2 hB4 (Nat.le_of_eq hb4.symm))) rfl (rfl) ((hW2.sl.ext e4)) (hwx) (by simp; omega) (by simp [maxLen]; omega) e4.size (show 0 + W.length = ([] ++ W : List WyI).length by simp) fun a5 c5 w5 ho5 m5 hf5 => VL.op (R.mvS rfl) (VL.appendT el26 (fun _ => rfl) rfl (rfl) (ho5) rfl (rfl) ((hV2.sl.ext (e4.ownA m5 fun q hq => by have := hb4; have h1 := aBlk_some hq; omega))) (hvx) (by simp; omega) (by simp [maxLen]; omega) (Nat.le_trans e4.size m5.size) (show (([] ++ W : List WyI)).length + U.length = (([] ++ W) ++ U : List WyI).length by simp) fun a6 c6 w6 ho6 m6 hf6 => VL.op (R.asS rfl) (VL.nil (V.seq (?_))))))
 have E4 : Ext w w4 := E2.trans e4
 have n5 : ∀ q, aBlk (some ⟨b4, 0, none⟩) q → w7.heap.size ≤ q := fun q hq => by have h1 := aBlk_some hq; omega
 have E5 : Ext w7 w5 := e4.ownA m5 n5
 have n6 : ∀ q, aBlk a5 q → w7.heap.size ≤ q := fun q hq => by
  rcases hf5 q hq with h | h
  ·exact n5 q h
  ·exact Nat.le_trans e4.size h
 have E67 : Ext w7 w6 := E5.ownA m6 n6
 have E6 : Ext w w6 := E2.trans E67
 have hX6 := hX2.ext E67
 have ho6 : OwnT encWy 2 53 w7.heap.size w6 a6 c6 (W ++ U) := ho6
 have hlen : (W ++ U).length ≤ 24 := by rw [List.length_append]; omega
 have hWU : ∀ w', Ext w w' → ∀ x ∈ W ++ U, WyOk w' x := fun w' e x hx => by
  rcases List.mem_append.1 hx with h | h
  ·exact (hW.ok.each x h).ext e
  ·exact (hV.ok.each x h).ext e
 have hwul : ∀ x ∈ W ++ U, WLen x := fun x hx => by
  rcases List.mem_append.1 hx with h | h
  ·exact hwl x h
  ·exact hvl x h
 refine V.region (VL.op (R.asS rfl) (VL.nil (V.seq (V.seq (V.region (VL.op (R.asI rfl) (VL.nil (V.block (?_)))))))))
 refine V.loop [1, 2, 3, 7, 8, 9, 10] (fun x : Nat × Option Addr × Nat => [.slice wa W.length wc, .slice va U.length vc, .pointer (some ⟨b0_0, 0, none⟩), .bool true, .slice a6 (W ++ U).length c6, .slice x.2.1 ((W ++ U).reverse.take x.1).length x.2.2, .int .i64 (x.1 : Nat)]) (fun x w' => x.1 ≤ (W ++ U).length ∧ OwnT encWy 2 53 w6.heap.size w' x.2.1 x.2.2 ((W ++ U).reverse.take x.1) ∧ Ext w6 w') (fun x => (W ++ U).length - x.1) (0, none, 0) rfl ⟨Nat.zero_le _, OwnT.nil _ _ _ _ _, Vc.Mod.refl _ _⟩ ?_
 rintro ρ ⟨k, a, c⟩ w8 ⟨hk, ho, e8⟩
 dsimp only at hk ho e8 ⊢
 have hA8 := ho6.sl.ext e8
 refine V.seq (V.seq (V.region (VL.op (R.mvI rfl) (VL.op (R.mvS rfl) (VL.op (R.lenS Tryz.runUnderlying26 rfl) (VL.op (R.lss rfl rfl) (VL.nil (V.condP rfl (fun c37 => V.skip (V.seq (V.block (?_)))) (fun c37 => V.exit (V.seq (?_)))))))))))
 ·have hkl : k < (W ++ U).length := by omega
  have hrl : ((W ++ U).reverse.take k).length = k := by rw [List.length_take, List.length_reverse]; omega
  refine V.region (VL.op (R.mvS rfl) (VL.op (R.mvS rfl) (VL.op (R.mvS rfl) (VL.op (R.lenS Tryz.runUnderlying26 rfl) (VL.op (R.sub rfl rfl (by omega) (by omega)) (VL.op (R.mvI rfl) (VL.op (R.sub rfl rfl (by omega) (by omega)) (VL.op (R.ixS Tryz.runUnderlying26 Tryz.sizeOf53 rfl rfl (by omega) (by omega) (hA8.some (i := ((((W ++ U).length : Nat) : Int) - 1 - (k : Nat)).toNat) (by omega))) (VL.op (R.ldA Tryz.isAgg53 Tryz.sizeOf53 rfl rfl ((show RowAt _ _ _ (encWy ((W ++ U).getD ((((W ++ U).length : Nat) : Int) - 1 - (k : Nat)).toNat default)) from (hA8.row (i := ((((W ++ U).length : Nat) : Int) - 1 - (k : Nat)).toNat) (by omega)))) rfl) (VL.append1 el26 Tryz.runUnderlying26 Tryz.sizeOf53 Tryz.zeroValue53 rfl (((W ++ U).getD ((((W ++ U).length : Nat) : Int) - 1 - (k : Nat)).toNat default)) rfl rfl rfl ho rfl rfl rfl (by omega) (by unfold maxLen; omega) e8.size fun a9 c9 w9 vt9 ho9 m9 hf9 => VL.op (R.asS rfl) (VL.nil (V.region (VL.op (R.mvI rfl) (VL.op (R.add rfl rfl (by omega) (by omega)) (VL.op (R.asI rfl) (VL.nil (?_)))))))))))))))))
  have hi : ((((W ++ U).length : Nat) : Int) - 1 - (k : Nat)).toNat = (W ++ U).length - 1 - k := by omega
  rw [hi] at ho9
  rw [← rev_next _ hkl] at ho9
  have hr1 : ((W ++ U).reverse.take (k + 1)).length = ((W ++ U).reverse.take k).length + 1 := by rw [rev_next _ hkl, List.length_append]; rfl
  exact ⟨(k + 1, a9, c9), by dsimp only; rw [hr1]; rfl, ⟨by dsimp only; omega, ho9, e8.ownA m9 fun q hq => ho.ge q hq⟩, by dsimp only; omega⟩
 ·have hke : k = (W ++ U).length := by omega
  subst hke
  have hrv : (W ++ U).reverse.take (W ++ U).length = (W ++ U).reverse := List.take_of_length_le (by rw [List.length_reverse]; exact Nat.le_refl _)
  rw [hrv] at ho ⊢
  have E8 : Ext w w8 := E6.trans e8
  have hX8 := hX6.ext e8
  have hlr : (W ++ U).reverse.length = (W ++ U).length := List.length_reverse
  have hbk : WL w8 a (W ++ U).reverse := ⟨ho.sl, fun x hx => hWU w8 E8 x (List.mem_reverse.1 hx)⟩
  have hal : WL w8 a6 (W ++ U) := ⟨hA8, hWU w8 E8⟩
  have hax : ∀ x ∈ W ++ U, (x.p.a = none → x.p.c = 0) ∧ (x.n.a = none → x.n.c = 0) := fun x hx => by
   rcases List.mem_append.1 hx with h | h
   ·exact hW.h x h
   ·exact hV.h x h
  refine V.region (VL.op (R.ldA Tryz.isAgg25 Tryz.sizeOf25 rfl rfl ((show RowAt _ _ _ (encGr g) from hX8.rowAt 0 3)) rfl) (VL.op (R.mvS rfl) (VL.callX Tryz.call13 rfl (decide29_spec g wa wc W B w8 (hI.ok.ext E8) hgl (hW.ok.ext E8) hwl hW.h (by omega) (Nat.le_trans hB E8.size) (hT.ext hB E8)) fun z1 w10 h10 e10 => VL.op (R.mvT rfl) (VL.op (R.extr rfl rfl) (VL.op (R.extr rfl rfl) (VL.allocSt (v := .agg _) Tryz.zeroValue33 Tryz.sizeOf33 rfl rfl rfl rfl rfl fun b10_6 w10_6 hb10_6 e10_6 hB10_6 => VL.op (R.asI rfl) (VL.nil (V.seq (?_)))))))))
  have E10 : Ext w w10_6 := E8.trans (e10.trans e10_6)
  have hY10 : Blk w10_6 b10_6 (.cells (Value.agg (encCm z1.1).toArray).cells 33 (0, 0)) := hB10_6
  have hX10 := hX8.ext (e10.trans e10_6)
  have hD1 := h10.e
  clear hB10_6
  refine V.region (VL.op (R.ldA Tryz.isAgg25 Tryz.sizeOf25 rfl rfl ((show RowAt _ _ _ (encGr g) from hX10.rowAt 0 3)) rfl) (VL.op (R.mvS rfl) (VL.callX Tryz.call13 rfl (decide29_spec g a6 c6 (W ++ U) B _ (hI.ok.ext E10) hgl (hal.ext (e10.trans e10_6)) hwul hax (by omega) (Nat.le_trans hB E10.size) (hT.ext hB E10)) fun z2 w11 h11 e11 => VL.op (R.mvT rfl) (VL.op (R.extr rfl rfl) (VL.op (R.extr rfl rfl) (VL.allocSt (v := .agg _) Tryz.zeroValue33 Tryz.sizeOf33 rfl rfl rfl rfl rfl fun b11_6 w11_6 hb11_6 e11_6 hB11_6 => VL.op (R.asI rfl) (VL.nil (V.seq (?_)))))))))
  have E11 : Ext w w11_6 := E10.trans (e11.trans e11_6)
  have hY11 : Blk w11_6 b11_6 (.cells (Value.agg (encCm z2.1).toArray).cells 33 (0, 0)) := hB11_6
  have hX11 := hX10.ext (e11.trans e11_6)
  have hY10b := hY10.ext (e11.trans e11_6)
  have hD2 := h11.e
  clear hB11_6
  have e8b := (e10.trans e10_6).trans (e11.trans e11_6)
  refine V.region (VL.op (R.ldA Tryz.isAgg25 Tryz.sizeOf25 rfl rfl ((show RowAt _ _ _ (encGr g) from hX11.rowAt 0 3)) rfl) (VL.op (R.mvS rfl) (VL.callX Tryz.call13 rfl (decide29_spec g a c (W ++ U).reverse B _ (hI.ok.ext E11) hgl (hbk.ext e8b) (fun x hx => hwul x (List.mem_reverse.1 hx)) (fun x hx => hax x (List.mem_reverse.1 hx)) (by omega) (Nat.le_trans hB E11.size) (hT.ext hB E11)) fun z3 w12 h12 e12 => VL.op (R.mvT rfl) (VL.op (R.extr rfl rfl) (VL.op (R.extr rfl rfl) (VL.allocSt (v := .agg _) Tryz.zeroValue33 Tryz.sizeOf33 rfl rfl rfl rfl rfl fun b12_6 w12_6 hb12_6 e12_6 hB12_6 => VL.op (R.asI rfl) (VL.nil (V.seq (V.seq (?_))))))))))
  have E12 : Ext w w12_6 := E11.trans (e12.trans e12_6)
  have hY12 : Blk w12_6 b12_6 (.cells (Value.agg (encCm z3.1).toArray).cells 33 (0, 0)) := hB12_6
  have hYa := hY10b.ext (e12.trans e12_6)
  have hYb := hY11.ext (e12.trans e12_6)
  have hD3 := h12.e
  have hi2 := (h11.i.ext (e11_6.trans (e12.trans e12_6))).sl
  have ho2 := (h11.o.ext (e11_6.trans (e12.trans e12_6))).sl
  have hi3 := (h12.i.ext e12_6).sl
  have ho3 := (h12.o.ext e12_6).sl
  have hn15 : (grV g).n ≤ 15 := by show g.n ≤ 15; omega
  have hmem : ∀ x, x ∈ (W ++ U).map wyV ↔ x ∈ (W ++ U).reverse.map wyV := fun x => by rw [List.map_reverse, List.mem_reverse]
  have hlen2 : ((W ++ U).map wyV).length = ((W ++ U).reverse.map wyV).length := by rw [List.length_map, List.length_map, hlr]
  obtain ⟨k1, k2⟩ := ready_len (W := W.map wyV) hn15
  obtain ⟨k3, k4⟩ := ready_len (W := (W ++ U).map wyV) hn15
  obtain ⟨k5, k6⟩ := ready_len (W := (W ++ U).reverse.map wyV) hn15
  have herr : (decideF (grV g) ((W ++ U).map wyV)).2 = (decideF (grV g) ((W ++ U).reverse.map wyV)).2 := by rw [k4, k6, k3, k5, ready_congr hlen2 hmem]
  have hsame : (decideF (grV g) ((W ++ U).map wyV)).1.1 = (decideF (grV g) ((W ++ U).reverse.map wyV)).1.1 ∧ (decideF (grV g) ((W ++ U).map wyV)).1.2.1 = (decideF (grV g) ((W ++ U).reverse.map wyV)).1.2.1 ∧ (decideF (grV g) ((W ++ U).map wyV)).1.2.2.1 = (decideF (grV g) ((W ++ U).reverse.map wyV)).1.2.2.1 := by
   by_cases h0 : (decideF (grV g) ((W ++ U).map wyV)).2 = 0
   ·exact dc_congr h0 (by rw [← herr]; exact h0) (some_congr hmem)
   ·have h1 := (dc_err h0).1
    have h2 := (dc_err (by rw [← herr]; exact h0)).1
    rw [h1, h2]; exact ⟨rfl, rfl, rfl⟩
  have hl2 := dc_len (g := grV g) (W := (W ++ U).map wyV)
  have hl3 := dc_len (g := grV g) (W := (W ++ U).reverse.map wyV)
  rw [← hD2, ← hD3] at hsame herr
  rw [← hD2] at hl2
  rw [← hD3] at hl3
  dsimp only at hsame herr hl2 hl3
  obtain ⟨q1, q2, q3⟩ := hsame
  have hE1 : z1.2 ≠ 0 → z2.2 ≠ 0 := fun h h0 => by
   have h1 : (decideF (grV g) (W.map wyV)).2 ≠ 0 := by rw [← hD1]; exact h
   have h2 : (decideF (grV g) ((W ++ U).map wyV)).2 = 0 := by rw [← hD2]; exact h0
   rw [k2, k1] at h1
   rw [k4, k3] at h2
   have hr : readyG (grV g) ((W ++ U).map wyV) = true := by
    cases hr : readyG (grV g) ((W ++ U).map wyV) with
    | true => rfl
    | false => rw [hr, if_neg (by decide)] at h2; cases h2
   rw [List.map_append] at hr
   rw [if_pos (ready_app hr)] at h1
   exact h1 rfl
  have hM : z1.2 = 0 → z2.2 = 0 → (z1.1.v = 1 → z2.1.v = 1) ∧ (z2.1.v = 3 → z1.1.v = 3) := fun h0 h1 => by
   have h2 : (decideF (grV g) (W.map wyV)).2 = 0 := by rw [← hD1]; exact h0
   have h3 : (decideF (grV g) (W.map wyV ++ U.map wyV)).2 = 0 := by rw [← List.map_append, ← hD2]; exact h1
   have := dc_more h2 h3
   rw [← List.map_append, ← hD1, ← hD2] at this
   exact this
  clear hB12_6
  refine V.region (VL.op (R.mvI rfl) (VL.op (R.mvI rfl) (VL.op (R.lit (R.neq rfl rfl) ((decide_eq_false (fun h => h herr)))) (VL.op (R.mvB rfl) (VL.gT rfl rfl (VL.op (R.fld' (o := 0) Tryz.runUnderlying33 rfl rfl Tryz.sizeOf3 rfl rfl) (VL.gT rfl rfl (VL.op (R.ld1 Tryz.isAgg3 rfl ((show _ = some (Value.int .i64 z2.1.v) from hYb.cell 0))) (VL.gT rfl rfl (VL.op (R.fld' (o := 0) Tryz.runUnderlying33 rfl rfl Tryz.sizeOf3 rfl rfl) (VL.gT rfl rfl (VL.op (R.ld1 Tryz.isAgg3 rfl ((show _ = some (Value.int .i64 z3.1.v) from hY12.cell 0))) (VL.gT rfl rfl (VL.op (R.lit (R.neq rfl rfl) ((decide_eq_false (fun h => h q1)))) (VL.op (R.pickFB rfl rfl) (VL.op (R.mvB rfl) (VL.gT rfl rfl (VL.op (R.fld' (o := 1) Tryz.runUnderlying33 rfl rfl Tryz.sizeOf22 rfl rfl) (VL.gT rfl rfl (VL.op (R.ld1 Tryz.isAgg22 rfl ((show _ = some (Value.slice z2.1.i.a z2.1.i.l.length z2.1.i.c) from hYb.cell 1))) (VL.gT rfl rfl (VL.op (R.fld' (o := 2) Tryz.runUnderlying33 rfl rfl Tryz.sizeOf22 rfl rfl) (VL.gT rfl rfl (VL.op (R.ld1 Tryz.isAgg22 rfl ((show _ = some (Value.slice z2.1.o.a z2.1.o.l.length z2.1.o.c) from hYb.cell 2))) (VL.gT rfl rfl (VL.buildSl Tryz.runUnderlying23 Tryz.sizeOf22 Tryz.zeroValue22 rfl rfl rfl fun b13_15 w13_15 hb13_15 e13_15 hB13_15 => VL.gT rfl rfl (VL.op (R.fld' (o := 1) Tryz.runUnderlying33 rfl rfl Tryz.sizeOf22 rfl rfl) (VL.gT rfl rfl (VL.op (R.ld1 Tryz.isAgg22 rfl ((show _ = some (Value.slice z3.1.i.a z3.1.i.l.length z3.1.i.c) from (hY12.ext e13_15).cell 1))) (VL.gT rfl rfl (VL.op (R.fld' (o := 2) Tryz.runUnderlying33 rfl rfl Tryz.sizeOf22 rfl rfl) (VL.gT rfl rfl (VL.op (R.ld1 Tryz.isAgg22 rfl ((show _ = some (Value.slice z3.1.o.a z3.1.o.l.length z3.1.o.c) from (hY12.ext e13_15).cell 2))) (VL.gT rfl rfl (VL.buildSl Tryz.runUnderlying23 Tryz.sizeOf22 Tryz.zeroValue22 rfl rfl rfl fun b13_20 w13_20 hb13_20 e13_20 hB13_20 => VL.gT rfl rfl (VL.callP Tryz.call14 rfl ((sets_is ([z2.1.i, z2.1.o] : List SlI) ([z3.1.i, z3.1.o] : List SlI) _ _ 2 2 _ (by show [z2.1.i.l, z2.1.o.l] = [z3.1.i.l, z3.1.o.l]; rw [q2, q3]) (Nat.le_of_ble_eq_true rfl) (fun x hx => by simp only [List.mem_cons, List.not_mem_nil, or_false] at hx; rcases hx with hx | hx <;> rw [hx] <;> omega) (fun x hx => by simp only [List.mem_cons, List.not_mem_nil, or_false] at hx; rcases hx with hx | hx <;> rw [hx] <;> omega) (litL (L := ([z2.1.i, z2.1.o] : List SlI)) (hB13_15.ext e13_20) rfl (litA (hi2.ext (e13_15.trans e13_20)) (litA (ho2.ext (e13_15.trans e13_20)) litA0))) (litL (L := ([z3.1.i, z3.1.o] : List SlI)) hB13_20 rfl (litA (hi3.ext (e13_15.trans e13_20)) (litA (ho3.ext (e13_15.trans e13_20)) litA0))))) fun w13_21 e13_21 => VL.gT rfl rfl (VL.op (R.not rfl) (VL.op (R.pickFB rfl rfl) (VL.nil (V.condF rfl (V.skip (V.seq (V.seq (?_))))))))))))))))))))))))))))))))))))))))))))
  have eQ := (e13_15.trans e13_20).trans e13_21
  have hYa' := hYa.ext eQ
  have hYb' := hYb.ext eQ
  refine V.region (VL.op (R.mvI rfl) (VL.op (R.neq rfl rfl) (VL.op (R.mvB rfl) (VL.orP rfl rfl (fun g15_2 => VL.op (R.mvI rfl) (VL.gT rfl rfl (VL.op (R.neq rfl rfl) (VL.op (R.pickFB rfl rfl) (VL.nil (V.condP rfl (fun c98 => V.seq (?_)) (fun c98 => V.skip (V.seq (?_))))))))) (fun g15_2 => VL.gF rfl rfl (VL.op (R.pickTB rfl rfl) (VL.nil (V.condT rfl (V.seq (?_))))))))))
  ·refine V.region (VL.op (R.mvB rfl) (VL.op (R.mvB rfl) (VL.gT rfl rfl (VL.op (R.mvI rfl) (VL.gT rfl rfl (VL.op (R.lit (R.eql rfl rfl) ((decide_eq_true (by omega)))) (VL.gT rfl rfl (VL.op (R.mvB rfl) (VL.gF rfl rfl (VL.gF rfl rfl (VL.gT rfl rfl (VL.op (R.pickTB rfl rfl) (VL.op (R.pickTB rfl rfl) (VL.op (R.asB rfl) (VL.nil (V.ret (fret1 (v := .bool _) rfl rfl rfl (⟨rfl, E12.trans eQ⟩))))))))))))))))))
  ·obtain ⟨m1, m2⟩ := hM (by omega) (by omega)
   by_cases c1 : z1.1.v = 1
   ·by_cases c3 : z2.1.v = 3
    ·exact absurd (m1 c1) (by omega)
    ·refine V.region (VL.op (R.mvB rfl) (VL.op (R.mvB rfl) (VL.gT rfl rfl (VL.op (R.fld' (o := 0) Tryz.runUnderlying33 rfl rfl Tryz.sizeOf3 rfl rfl) (VL.gT rfl rfl (VL.op (R.ld1 Tryz.isAgg3 rfl ((show _ = some (Value.int .i64 z1.1.v) from hYa'.cell 0))) (VL.gT rfl rfl (VL.op (R.lit (R.neq rfl rfl) ((decide_eq_false (by omega)))) (VL.gT rfl rfl (VL.op (R.mvB rfl) (VL.gT rfl rfl (VL.op (R.fld' (o := 0) Tryz.runUnderlying33 rfl rfl Tryz.sizeOf3 rfl rfl) (VL.gT rfl rfl (VL.op (R.ld1 Tryz.isAgg3 rfl ((show _ = some (Value.int .i64 z2.1.v) from hYb'.cell 0))) (VL.gT rfl rfl (VL.op (R.lit (R.eql rfl rfl) ((decide_eq_true (m1 c1)))) (VL.gT rfl rfl (VL.op (R.pickFB rfl rfl) (VL.op (R.pickTB rfl rfl) (VL.op (R.mvB rfl) (VL.gT rfl rfl (VL.op (R.fld' (o := 0) Tryz.runUnderlying33 rfl rfl Tryz.sizeOf3 rfl rfl) (VL.gT rfl rfl (VL.op (R.ld1 Tryz.isAgg3 rfl ((show _ = some (Value.int .i64 z2.1.v) from hYb'.cell 0))) (VL.gT rfl rfl (VL.op (R.lit (R.neq rfl rfl) ((decide_eq_true c3))) (VL.gT rfl rfl (VL.op (R.mvB rfl) (VL.gF rfl rfl (VL.gF rfl rfl (VL.gF rfl rfl (VL.gT rfl rfl (VL.op (R.pickTB rfl rfl) (VL.op (R.pickTB rfl rfl) (VL.op (R.asB rfl) (VL.nil (V.ret (fret1 (v := .bool _) rfl rfl rfl (⟨rfl, E12.trans eQ⟩)))))))))))))))))))))))))))))))))))))))
   ·by_cases c3 : z2.1.v = 3
    ·refine V.region (VL.op (R.mvB rfl) (VL.op (R.mvB rfl) (VL.gT rfl rfl (VL.op (R.fld' (o := 0) Tryz.runUnderlying33 rfl rfl Tryz.sizeOf3 rfl rfl) (VL.gT rfl rfl (VL.op (R.ld1 Tryz.isAgg3 rfl ((show _ = some (Value.int .i64 z1.1.v) from hYa'.cell 0))) (VL.gT rfl rfl (VL.op (R.lit (R.neq rfl rfl) ((decide_eq_true c1))) (VL.gT rfl rfl (VL.op (R.mvB rfl) (VL.gF rfl rfl (VL.gF rfl rfl (VL.gF rfl rfl (VL.gT rfl rfl (VL.op (R.pickTB rfl rfl) (VL.op (R.pickTB rfl rfl) (VL.op (R.mvB rfl) (VL.gT rfl rfl (VL.op (R.fld' (o := 0) Tryz.runUnderlying33 rfl rfl Tryz.sizeOf3 rfl rfl) (VL.gT rfl rfl (VL.op (R.ld1 Tryz.isAgg3 rfl ((show _ = some (Value.int .i64 z2.1.v) from hYb'.cell 0))) (VL.gT rfl rfl (VL.op (R.lit (R.neq rfl rfl) ((decide_eq_false (by omega)))) (VL.gT rfl rfl (VL.op (R.mvB rfl) (VL.gT rfl rfl (VL.op (R.fld' (o := 0) Tryz.runUnderlying33 rfl rfl Tryz.sizeOf3 rfl rfl) (VL.gT rfl rfl (VL.op (R.ld1 Tryz.isAgg3 rfl ((show _ = some (Value.int .i64 z1.1.v) from hYa'.cell 0))) (VL.gT rfl rfl (VL.op (R.lit (R.eql rfl rfl) ((decide_eq_true (m2 c3)))) (VL.gT rfl rfl (VL.op (R.pickFB rfl rfl) (VL.op (R.pickTB rfl rfl) (VL.op (R.asB rfl) (VL.nil (V.ret (fret1 (v := .bool _) rfl rfl rfl (⟨rfl, E12.trans eQ⟩)))))))))))))))))))))))))))))))))))))))
    ·refine V.region (VL.op (R.mvB rfl) (VL.op (R.mvB rfl) (VL.gT rfl rfl (VL.op (R.fld' (o := 0) Tryz.runUnderlying33 rfl rfl Tryz.sizeOf3 rfl rfl) (VL.gT rfl rfl (VL.op (R.ld1 Tryz.isAgg3 rfl ((show _ = some (Value.int .i64 z1.1.v) from hYa'.cell 0))) (VL.gT rfl rfl (VL.op (R.lit (R.neq rfl rfl) ((decide_eq_true c1))) (VL.gT rfl rfl (VL.op (R.mvB rfl) (VL.gF rfl rfl (VL.gF rfl rfl (VL.gF rfl rfl (VL.gT rfl rfl (VL.op (R.pickTB rfl rfl) (VL.op (R.pickTB rfl rfl) (VL.op (R.mvB rfl) (VL.gT rfl rfl (VL.op (R.fld' (o := 0) Tryz.runUnderlying33 rfl rfl Tryz.sizeOf3 rfl rfl) (VL.gT rfl rfl (VL.op (R.ld1 Tryz.isAgg3 rfl ((show _ = some (Value.int .i64 z2.1.v) from hYb'.cell 0))) (VL.gT rfl rfl (VL.op (R.lit (R.neq rfl rfl) ((decide_eq_true c3))) (VL.gT rfl rfl (VL.op (R.mvB rfl) (VL.gF rfl rfl (VL.gF rfl rfl (VL.gF rfl rfl (VL.gT rfl rfl (VL.op (R.pickTB rfl rfl) (VL.op (R.pickTB rfl rfl) (VL.op (R.asB rfl) (VL.nil (V.ret (fret1 (v := .bool _) rfl rfl rfl (⟨rfl, E12.trans eQ⟩))))))))))))))))))))))))))))))))))))
  ·refine V.region (VL.op (R.mvB rfl) (VL.op (R.mvB rfl) (VL.gT rfl rfl (VL.op (R.mvI rfl) (VL.gT rfl rfl (VL.op (R.lit (R.eql rfl rfl) ((decide_eq_false (by omega)))) (VL.gT rfl rfl (VL.op (R.mvB rfl) (VL.gT rfl rfl (VL.op (R.mvI rfl) (VL.gT rfl rfl (VL.op (R.lit (R.neq rfl rfl) ((decide_eq_true (hE1 (by omega))))) (VL.gT rfl rfl (VL.op (R.pickFB rfl rfl) (VL.op (R.pickTB rfl rfl) (VL.op (R.asB rfl) (VL.nil (V.ret (fret1 (v := .bool _) rfl rfl rfl (⟨rfl, E12.trans eQ⟩))))))))))))))))))))
end Go.Proofs.YtdbcfpcicjgghaaGreatDoor
