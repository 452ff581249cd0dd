/- Bound: the walks of the laws BoundWays and BoundMatchesReference. -/
import Derived.Test.YtbfejgbeaehbmaaGreatDoorN15
import Derived.Test.YtbfejgbeaehbmaaGreatDoorN18
namespace Go.Proofs.YtbfejgbeaehbmaaGreatDoor
open Go.Vc
set_option maxRecDepth 100000 in
set_option maxHeartbeats 8000000 in
theorem matches_law (g : GrW) (wa va : Option Addr) (wc vc B : Nat) (W : List WyI) (ws : List Int) (w : World) (hI : GIn w g) (hW : WIn w wa W) (hV : IntSl w va ws) (hvl : ws.length ≤ 9223372036854775807) (hB : B ≤ w.heap.size) (hT : TabW B w) :
    RetsP Tryz.prog 3 #[.agg (encGr g).toArray, .slice wa W.length wc, .slice va ws.length vc] w (.bool true) := by
  refine enter (args := [_, _, _]) Tryz.func3 rfl Tryz.ntmps3 (by kernel_rfl) rfl ?_
  refine V.seq (V.region (VL.box (v := .agg _) rfl fun b0_0 w0_0 hb0_0 e0_0 hB0_0 => VL.op (R.asB rfl) (VL.nil (V.seq (V.region (VL.callP Tryz.call10 rfl (head32_spec B _ (Nat.le_trans hB (e0_0).size) (hT.ext hB e0_0)) fun w1_0 e1_0 => VL.op (R.asB rfl) (VL.nil (V.seq (V.seq (V.region (VL.op (R.ldA Tryz.isAgg25 Tryz.sizeOf25 rfl rfl ((show RowAt _ _ _ (encGr g) from ((hB0_0.ext e1_0).rowAt 0 3))) rfl) (VL.op (R.mvS rfl) (VL.callX Tryz.call11 rfl (few32_spec g W wa wc 45 _ (hI.ext (e0_0.trans e1_0)) (hW.ext (e0_0.trans e1_0))) fun b2 w2 h2 e2 => VL.op (R.not rfl) (VL.op (R.mvB rfl) (VL.or rfl rfl (fun g2_4 => VL.op (R.mvS rfl) (VL.gT rfl rfl (VL.op (R.lenS Tryz.runUnderlying22 rfl) (VL.gT rfl rfl (VL.op (R.gtr rfl rfl) (VL.op (R.pickFB rfl rfl) (VL.nil (V.condP rfl (fun c23 => V.seq (V.region (VL.op (R.mvB rfl) (VL.op (R.asB rfl) (VL.nil (V.ret (fret1 (v := .bool _) rfl rfl rfl (⟨rfl, ((e0_0.trans e1_0).trans e2)⟩)))))))) (fun c23 => V.skip (V.seq (?_))))))))))) (fun g2_4 => VL.gF rfl rfl (VL.gF rfl rfl (VL.op (R.pickTB rfl rfl) (VL.nil (V.condT rfl (V.seq (V.region (VL.op (R.mvB rfl) (VL.op (R.asB rfl) (VL.nil (V.ret (fret1 (v := .bool _) rfl rfl rfl (⟨rfl, ((e0_0.trans e1_0).trans e2)⟩))))))))))))))))))))))))))))
  have hsm := h2 (by simpa using g2_4)
  have hgl := hI.glen hsm.2.2.1
  have hwn := hsm.2.2.2.n
  have hwl := hsm.2.2.2.wlen (by decide)
  have hvn : ws.length ≤ 60 := by omega
  have E2 := (e0_0.trans e1_0).trans e2
  have hX2 : Blk w2 b0_0 (.cells (Value.agg (encGr g).toArray).cells 25 (0, 0)) := hB0_0.ext (e1_0.trans e2)
  refine V.region (VL.op (R.ldA Tryz.isAgg25 Tryz.sizeOf25 rfl rfl ((show RowAt _ _ _ (encGr g) from hX2.rowAt 0 3)) rfl) (VL.op (R.mvS rfl) (VL.callP Tryz.call12 rfl (range_spec g va vc ws B w2 (hI.ok.ext E2) hgl (hV.ext E2) (by omega) (Nat.le_trans hB E2.size) (hT.ext hB E2)) fun w4_2 e4_2 => VL.op (R.mvT rfl) (VL.op (R.extr rfl rfl) (VL.op (R.extr rfl rfl) (VL.op (R.extr rfl rfl) (VL.op (R.asI rfl) (VL.op (R.asI rfl) (VL.op (R.asI rfl) (VL.nil (V.seq (V.region (VL.op (R.ldA Tryz.isAgg25 Tryz.sizeOf25 rfl rfl ((show RowAt _ _ _ (encGr g) from (hX2.ext e4_2).rowAt 0 3)) rfl) (VL.op (R.mvS rfl) (VL.callP Tryz.call13 rfl (rrange_spec g va vc ws _ ((hI.ok.ext E2).ext e4_2) hgl ((hV.ext E2).ext e4_2) (by omega)) fun w5_2 e5_2 => VL.op (R.mvT rfl) (VL.op (R.extr rfl rfl) (VL.op (R.extr rfl rfl) (VL.op (R.extr rfl rfl) (VL.op (R.asI rfl) (VL.op (R.asI rfl) (VL.op (R.asI rfl) (VL.nil (V.seq (?_))))))))))))))))))))))))
  have E5 := (E2.trans e4_2).trans e5_2
  have hX5 := (hX2.ext e4_2).ext e5_2
  refine V.regionQ mixed 26 (by kernel_rfl) rfl (fun w' => Ext _ w') (Ext.drawn _) (VQ.op (fun wq eq => R.mvB rfl) (VQ.op (fun wq eq => R.mvB rfl) (VQ.gT rfl rfl (VQ.op (fun wq eq => R.ldA Tryz.isAgg25 Tryz.sizeOf25 rfl rfl ((show RowAt _ _ _ (encGr g) from (hX5.ext eq).rowAt 0 3)) rfl) (VQ.gT rfl rfl (VQ.op (fun wq eq => R.mvS rfl) (VQ.gT rfl rfl (VQ.callP (fun _ _ h k => Mod.trans h k) Tryz.call14 rfl (fun wq eq => quick_spec g wa wc W B _ (hI.ok.ext (E5.trans eq)) hgl (hW.sl.ext (E5.trans eq)) (by omega) hwl (Nat.le_trans hB (E5.trans eq).size) (hT.ext hB (E5.trans eq))) (VQ.gT rfl rfl (VQ.op (fun wq eq => R.ldA Tryz.isAgg25 Tryz.sizeOf25 rfl rfl ((show RowAt _ _ _ (encGr g) from (hX5.ext eq).rowAt 0 3)) rfl) (VQ.gT rfl rfl (VQ.op (fun wq eq => R.mvS rfl) (VQ.gT rfl rfl (VQ.callP (fun _ _ h k => Mod.trans h k) Tryz.call15 rfl (fun wq eq => rquick_spec g W wa wc _ (hI.ok.ext (E5.trans eq)) hgl (hW.sl.ext (E5.trans eq)) (by omega) hwl) (VQ.gT rfl rfl (VQ.op (fun wq eq => R.lit (R.eql rfl rfl) ((decide_eq_true rfl))) (VQ.op (fun wq eq => R.pickTB rfl rfl) (VQ.op (fun wq eq => R.mvB rfl) (VQ.gT rfl rfl (VQ.op (fun wq eq => R.mvI rfl) (VQ.gT rfl rfl (VQ.op (fun wq eq => R.mvI rfl) (VQ.gT rfl rfl (VQ.op (fun wq eq => R.lit (R.eql rfl rfl) ((decide_eq_true rfl))) (VQ.op (fun wq eq => R.pickTB rfl rfl) (VQ.op (fun wq eq => R.mvB rfl) (VQ.gT rfl rfl (VQ.op (fun wq eq => R.mvI rfl) (VQ.gT rfl rfl (VQ.op (fun wq eq => R.mvI rfl) (VQ.gT rfl rfl (VQ.op (fun wq eq => R.lit (R.eql rfl rfl) ((decide_eq_true rfl))) (VQ.op (fun wq eq => R.pickTB rfl rfl) (VQ.op (fun wq eq => R.mvB rfl) (VQ.gT rfl rfl (VQ.op (fun wq eq => R.mvI rfl) (VQ.gT rfl rfl (VQ.op (fun wq eq => R.mvI rfl) (VQ.gT rfl rfl (VQ.op (fun wq eq => R.lit (R.eql rfl rfl) ((decide_eq_true rfl))) (VQ.op (fun wq eq => R.pickTB rfl rfl) (VQ.op (fun wq eq => R.asB rfl) (VQ.nil fun w6q e6q => VL.nil (V.ret (fret1 (v := .bool _) rfl rfl rfl (⟨rfl, E5.trans e6q⟩))))))))))))))))))))))))))))))))))))))))))))))
theorem rev_next {α : Type} [Inhabited α] (l : List α) {k : Nat} (hk : k < l.length) : l.reverse.take (k + 1) = l.reverse.take k ++ [l.getD (l.length - 1 - k) default] := by
  rw [List.take_succ_eq_append_getElem (by rw [List.length_reverse]; exact hk), List.getElem_reverse, gget (by omega)]
theorem eltWy : Elt encWy 2 := ⟨fun _ => rfl, fun _ => rfl, by decide⟩
set_option maxRecDepth 100000 in
set_option maxHeartbeats 8000000 in
theorem ways_law (g : GrW) (wa va : Option Addr) (wc vc B : Nat) (W U : List WyI) (w : World) (hI : GIn w g) (hW : WIn w wa W) (hV : WIn w va U) (hwx : wa = none → wc = 0) (hvx : va = none → vc = 0) (hB : B ≤ w.heap.size) (hT : TabW B w) :
    RetsP Tryz.prog 6 #[.agg (encGr g).toArray, .slice wa W.length wc, .slice va U.length vc] w (.bool true) := by
  refine enter (args := [_, _, _]) Tryz.func6 rfl Tryz.ntmps6 (by kernel_rfl) rfl ?_
  refine V.seq (V.region (VL.box (v := .agg _) rfl fun b0_0 w0_0 hb0_0 e0_0 hB0_0 => VL.op (R.asB rfl) (VL.nil (V.seq (V.region (VL.callP Tryz.call10 rfl (head32_spec B _ (Nat.le_trans hB (e0_0).size) (hT.ext hB e0_0)) fun w1_0 e1_0 => VL.op (R.asB rfl) (VL.nil (V.seq (V.seq (V.region (VL.op (R.ldA Tryz.isAgg25 Tryz.sizeOf25 rfl rfl ((show RowAt _ _ _ (encGr g) from ((hB0_0.ext e1_0).rowAt 0 3))) rfl) (VL.op (R.mvS rfl) (VL.callX Tryz.call11 rfl (few32_spec g W wa wc 45 _ (hI.ext (e0_0.trans e1_0)) (hW.ext (e0_0.trans e1_0))) fun b2 w2 h2 e2 => VL.op (R.not rfl) (VL.op (R.mvB rfl) (VL.or rfl rfl (fun g2_4 => VL.op (R.ldA Tryz.isAgg25 Tryz.sizeOf25 rfl rfl ((show RowAt _ _ _ (encGr g) from (((hB0_0.ext e1_0).ext e2).rowAt 0 3))) rfl) (VL.gT rfl rfl (VL.op (R.mvS rfl) (VL.gT rfl rfl (VL.callX Tryz.call11 rfl (few32_spec g U va vc 45 _ (hI.ext ((e0_0.trans e1_0).trans e2)) (hV.ext ((e0_0.trans e1_0).trans e2))) fun b7 w7 h7 e7 => VL.gT rfl rfl (VL.op (R.not rfl) (VL.op (R.pickFB rfl rfl) (VL.nil (V.cond rfl (fun c25 => V.seq (V.region (VL.op (R.mvB rfl) (VL.op (R.asB rfl) (VL.nil (V.ret (fret1 (v := .bool _) rfl rfl rfl (⟨rfl, (((e0_0.trans e1_0).trans e2).trans e7)⟩)))))))) (fun c25 => V.skip (V.seq (?_)))))))))))) (fun g2_4 => VL.gF rfl rfl (VL.gF rfl rfl (VL.gF rfl rfl (VL.op (R.pickTB rfl rfl) (VL.nil (V.condT rfl (V.seq (V.region (VL.op (R.mvB rfl) (VL.op (R.asB rfl) (VL.nil (V.ret (fret1 (v := .bool _) rfl rfl rfl (⟨rfl, ((e0_0.trans e1_0).trans e2)⟩)))))))))))))))))))))))))))))
  have hsm := h2 (by simpa using g2_4)
  have hsv := h7 (by simpa using c25)
  have hgl := hI.glen hsm.2.2.1
  have hwn := hsm.2.2.2.n
  have hvn := hsv.2.2.2.n
  have hwl := hsm.2.2.2.wlen (by decide)
  have hvl := hsv.2.2.2.wlen (by decide)
  have E2 := ((e0_0.trans e1_0).trans e2).trans e7
  have hX2 : Blk w7 b0_0 (.cells (Value.agg (encGr g).toArray).cells 25 (0, 0)) := hB0_0.ext ((e1_0.trans e2).trans e7)
  have hW2 := hW.ext E2
  have hV2 := hV.ext E2
  refine V.region (VL.buildSl Tryz.runUnderlying26 Tryz.sizeOf46 Tryz.zeroValue46 rfl rfl rfl fun b4 w4 hb4 e4 hB4 => VL.op (R.mvS rfl) (VL.appendT el26 (fun _ => rfl) rfl (rfl) ((OwnT.of0 encWy 2 hB4 (Nat.le_of_eq hb4.symm))) rfl (rfl) ((hW2.sl.sl.ext e4)) (hwx) (by simp; omega) (by simp [maxLen]; omega) e4.size (show 0 + W.length = ([] ++ W : List WyI).length by simp) fun a5 c5 w5 ho5 m5 hf5 => VL.op (R.mvS rfl) (VL.appendT el26 (fun _ => rfl) rfl (rfl) (ho5) rfl (rfl) ((hV2.sl.sl.ext (e4.ownA m5 fun q hq => by have := hb4; have h1 := aBlk_some hq; omega))) (hvx) (by simp; omega) (by simp [maxLen]; omega) (Nat.le_trans e4.size m5.size) (show (([] ++ W : List WyI)).length + U.length = (([] ++ W) ++ U : List WyI).length by simp) fun a6 c6 w6 ho6 m6 hf6 => VL.op (R.asS rfl) (VL.nil (V.seq (?_))))))
  have E4 : Ext w w4 := E2.trans e4
  have n5 : ∀ q, aBlk (some ⟨b4, 0, none⟩) q → w7.heap.size ≤ q := fun q hq => by have h1 := aBlk_some hq; omega
  have E5 : Ext w7 w5 := e4.ownA m5 n5
  have n6 : ∀ q, aBlk a5 q → w7.heap.size ≤ q := fun q hq => by
    rcases hf5 q hq with h | h
    · exact n5 q h
    · exact Nat.le_trans e4.size h
  have E67 : Ext w7 w6 := E5.ownA m6 n6
  have E6 : Ext w w6 := E2.trans E67
  have hX6 := hX2.ext E67
  have ho6 : OwnT encWy 2 46 w7.heap.size w6 a6 c6 (W ++ U) := ho6
  have hlen : (W ++ U).length ≤ 24 := by rw [List.length_append]; omega
  have hWU : ∀ w', Ext w w' → ∀ x ∈ W ++ U, WyOk w' x := fun w' e x hx => by
    rcases List.mem_append.1 hx with h | h
    · exact (hW.sl.each x h).ext e
    · exact (hV.sl.each x h).ext e
  have hwul : ∀ x ∈ W ++ U, WLen x := fun x hx => by
    rcases List.mem_append.1 hx with h | h
    · exact hwl x h
    · exact hvl x h
  refine V.region (VL.op (R.asS rfl) (VL.nil (V.seq (V.seq (V.region (VL.op (R.asI rfl) (VL.nil (V.block (?_)))))))))
  refine V.loop [1, 2, 3, 7, 8, 9, 10] (fun x : Nat × Option Addr × Nat => [.slice wa W.length wc, .slice va U.length vc, .pointer (some ⟨b0_0, 0, none⟩), .bool true, .slice a6 (W ++ U).length c6, .slice x.2.1 ((W ++ U).reverse.take x.1).length x.2.2, .int .i64 (x.1 : Nat)]) (fun x w' => x.1 ≤ (W ++ U).length ∧ OwnT encWy 2 46 w6.heap.size w' x.2.1 x.2.2 ((W ++ U).reverse.take x.1) ∧ Ext w6 w') (fun x => (W ++ U).length - x.1) (0, none, 0) rfl ⟨Nat.zero_le _, OwnT.nil _ _ _ _ _, Vc.Mod.refl _ _⟩ ?_
  rintro ρ ⟨k, a, c⟩ w8 ⟨hk, ho, e8⟩
  dsimp only at hk ho e8 ⊢
  have hA8 := ho6.sl.ext e8
  refine V.seq (V.seq (V.region (VL.op (R.mvI rfl) (VL.op (R.mvS rfl) (VL.op (R.lenS Tryz.runUnderlying26 rfl) (VL.op (R.lss rfl rfl) (VL.nil (V.condP rfl (fun c35 => V.skip (V.seq (V.block (?_)))) (fun c35 => V.exit (V.seq (?_)))))))))))
  · have hkl : k < (W ++ U).length := by omega
    have hrl : ((W ++ U).reverse.take k).length = k := by rw [List.length_take, List.length_reverse]; omega
    refine V.region (VL.op (R.mvS rfl) (VL.op (R.mvS rfl) (VL.op (R.mvS rfl) (VL.op (R.lenS Tryz.runUnderlying26 rfl) (VL.op (R.sub rfl rfl (by omega) (by omega)) (VL.op (R.mvI rfl) (VL.op (R.sub rfl rfl (by omega) (by omega)) (VL.op (R.ixS Tryz.runUnderlying26 Tryz.sizeOf46 rfl rfl (by omega) (by omega) (hA8.some (i := ((((W ++ U).length : Nat) : Int) - 1 - (k : Nat)).toNat) (by omega))) (VL.op (R.ldA Tryz.isAgg46 Tryz.sizeOf46 rfl rfl ((show RowAt _ _ _ (encWy ((W ++ U).getD ((((W ++ U).length : Nat) : Int) - 1 - (k : Nat)).toNat default)) from (hA8.row (i := ((((W ++ U).length : Nat) : Int) - 1 - (k : Nat)).toNat) (by omega)))) rfl) (VL.append1 el26 Tryz.runUnderlying26 Tryz.sizeOf46 Tryz.zeroValue46 rfl (((W ++ U).getD ((((W ++ U).length : Nat) : Int) - 1 - (k : Nat)).toNat default)) rfl rfl rfl ho rfl rfl rfl (by omega) (by unfold maxLen; omega) e8.size fun a9 c9 w9 vt9 ho9 m9 hf9 => VL.op (R.asS rfl) (VL.nil (V.region (VL.op (R.mvI rfl) (VL.op (R.add rfl rfl (by omega) (by omega)) (VL.op (R.asI rfl) (VL.nil (?_)))))))))))))))))
    have hi : ((((W ++ U).length : Nat) : Int) - 1 - (k : Nat)).toNat = (W ++ U).length - 1 - k := by omega
    rw [hi] at ho9
    rw [← rev_next _ hkl] at ho9
    have hr1 : ((W ++ U).reverse.take (k + 1)).length = ((W ++ U).reverse.take k).length + 1 := by rw [rev_next _ hkl, List.length_append]; rfl
    exact ⟨(k + 1, a9, c9), by dsimp only; rw [hr1]; rfl, ⟨by dsimp only; omega, ho9, e8.ownA m9 fun q hq => ho.ge q hq⟩, by dsimp only; omega⟩
  · have hke : k = (W ++ U).length := by omega
    subst hke
    have hrv : (W ++ U).reverse.take (W ++ U).length = (W ++ U).reverse := List.take_of_length_le (by rw [List.length_reverse]; exact Nat.le_refl _)
    rw [hrv] at ho ⊢
    have E8 : Ext w w8 := E6.trans e8
    have hX8 := hX6.ext e8
    have hlr : (W ++ U).reverse.length = (W ++ U).length := List.length_reverse
    have hbk : WL w8 a (W ++ U).reverse := ⟨ho.sl, fun x hx => hWU w8 E8 x (List.mem_reverse.1 hx)⟩
    have hal : WL w8 a6 (W ++ U) := ⟨hA8, hWU w8 E8⟩
    have hq : quickF (grV g) ((W ++ U).reverse.map wyV) = quickF (grV g) ((W ++ U).map wyV) := quick_congr (by rw [List.length_map, List.length_map, hlr]) fun x => by simp [or_comm]
    have hqb := fun w' (e : Ext w8 w') => quick_spec g a c (W ++ U).reverse B w' (hI.ok.ext (E8.trans e)) hgl (hbk.ext e) (by omega) (fun x hx => hwul x (List.mem_reverse.1 hx)) (Nat.le_trans hB (E8.trans e).size) (hT.ext hB (E8.trans e))
    rw [hq] at hqb
    refine V.region (VL.op (R.ldA Tryz.isAgg25 Tryz.sizeOf25 rfl rfl ((show RowAt _ _ _ (encGr g) from hX8.rowAt 0 3)) rfl) (VL.op (R.mvS rfl) (VL.callP Tryz.call14 rfl (quick_spec g wa wc W B _ (hI.ok.ext (E8.trans (Mod.refl _ _))) hgl (hW.sl.ext (E8.trans (Mod.refl _ _))) (by omega) hwl (Nat.le_trans hB (E8.trans (Mod.refl _ _)).size) (hT.ext hB (E8.trans (Mod.refl _ _)))) fun w10_2 e10_2 => VL.op (R.asI rfl) (VL.nil (V.seq (V.region (VL.op (R.ldA Tryz.isAgg25 Tryz.sizeOf25 rfl rfl ((show RowAt _ _ _ (encGr g) from (hX8.ext e10_2).rowAt 0 3)) rfl) (VL.op (R.mvS rfl) (VL.callP Tryz.call14 rfl (quick_spec g a6 c6 (W ++ U) B _ (hI.ok.ext (E8.trans e10_2)) hgl (hal.ext e10_2) (by omega) hwul (Nat.le_trans hB (E8.trans e10_2).size) (hT.ext hB (E8.trans e10_2))) fun w11_2 e11_2 => VL.op (R.asI rfl) (VL.nil (V.seq (V.seq (V.region (VL.op (R.ldA Tryz.isAgg25 Tryz.sizeOf25 rfl rfl ((show RowAt _ _ _ (encGr g) from (hX8.ext (e10_2.trans e11_2)).rowAt 0 3)) rfl) (VL.op (R.mvS rfl) (VL.callP Tryz.call14 rfl (hqb _ (e10_2.trans e11_2)) fun w12_2 e12_2 => VL.op (R.mvI rfl) (VL.op (R.lit (R.neq rfl rfl) ((decide_eq_false (fun h => h rfl)))) (VL.nil (V.condF rfl (V.skip (V.seq (?_))))))))))))))))))))))
    have E12 := (e10_2.trans e11_2).trans e12_2
    have hX12 := hX8.ext E12
    refine V.region (VL.op (R.ldA Tryz.isAgg25 Tryz.sizeOf25 rfl rfl ((show RowAt _ _ _ (encGr g) from hX12.rowAt 0 3)) rfl) (VL.callX Tryz.call19 rfl (extend_spec g none 0 [] B _ (hI.ok.ext (E8.trans E12)) hgl (TSl.nil _ _ _ _) (by decide) (Nat.le_trans hB (E8.trans E12).size) (hT.ext hB (E8.trans E12))) fun x14 w14 h14 e14 => VL.op (R.mvT rfl) (VL.op (R.extr rfl rfl) (VL.op (R.extr rfl rfl) (VL.op (R.asS rfl) (VL.op (R.asI rfl) (VL.nil (V.seq (V.seq (V.region (VL.op (R.mvI rfl) (VL.op (R.neq rfl rfl) (VL.op (R.mvB rfl) (VL.orP rfl rfl (fun g15_2 => VL.op (R.ldA Tryz.isAgg25 Tryz.sizeOf25 rfl rfl ((show RowAt _ _ _ (encGr g) from (hX12.ext e14).rowAt 0 3)) rfl) (VL.gT rfl rfl (VL.op (R.mvS rfl) (VL.gT rfl rfl (VL.callP Tryz.call21 rfl (rready_spec g (W ++ U) a6 c6 _ ((hI.ok.ext (E8.trans E12)).ext e14) hgl ((hal.ext E12).ext e14) (by omega) hwul) fun w15_5 e15_5 => VL.gT rfl rfl (VL.op (R.not rfl) (VL.op (R.pickFB rfl rfl) (VL.nil (V.cond rfl (fun c72 => V.seq (V.region (VL.op (R.mvB rfl) (VL.op (R.asB rfl) (VL.nil (V.ret (fret1 (v := .bool _) rfl rfl rfl (⟨rfl, (E8.trans E12).trans (e14.trans e15_5)⟩)))))))) (fun c72 => V.skip (V.seq (?_)))))))))))) (fun g15_2 => VL.gF rfl rfl (VL.gF rfl rfl (VL.gF rfl rfl (VL.op (R.pickTB rfl rfl) (VL.nil (V.condT rfl (V.seq (V.region (VL.op (R.mvB rfl) (VL.op (R.asB rfl) (VL.nil (V.ret (fret1 (v := .bool _) rfl rfl rfl (⟨rfl, (E8.trans E12).trans e14⟩))))))))))))))))))))))))))))
    have hr : readyG (grV g) (W.map wyV ++ U.map wyV) = true := by rw [← List.map_append]; simpa using c72
    have happ := quick_app hr
    rw [← List.map_append] at happ
    refine V.region (VL.op (R.mvB rfl) (VL.op (R.mvB rfl) (VL.gT rfl rfl (VL.op (R.mvI rfl) (VL.gT rfl rfl (VL.op (R.neq rfl rfl) (VL.gT rfl rfl (VL.op (R.mvB rfl) (VL.orP rfl rfl (fun g17_4 => VL.op (R.mvI rfl) (VL.gT rfl rfl (VL.op (R.eql rfl rfl) (VL.gT rfl rfl (VL.op (R.pickFB rfl rfl) (VL.op (R.pickTB rfl rfl) (VL.op (R.mvB rfl) (VL.andP rfl rfl (fun g17_9 => VL.op (R.mvI rfl) (VL.gT rfl rfl (VL.op (R.neq rfl rfl) (VL.gT rfl rfl (VL.op (R.mvB rfl) (VL.orP rfl rfl (fun g17_12 => VL.op (R.mvI rfl) (VL.gT rfl rfl (VL.op (R.eql rfl rfl) (VL.gT rfl rfl (VL.op (R.pickFB rfl rfl) (VL.op (R.pickTB rfl rfl) (VL.op (R.asB rfl) (VL.nil (V.ret (fret1 (v := .bool _) rfl rfl rfl (⟨?_, ((E8.trans E12).trans (e14.trans e15_5)).trans (Mod.refl _ _)⟩))))))))))) (fun g17_12 => VL.gF rfl rfl (VL.gT rfl rfl (VL.op (R.pickTB rfl rfl) (VL.op (R.pickTB rfl rfl) (VL.op (R.asB rfl) (VL.nil (V.ret (fret1 (v := .bool _) rfl rfl rfl (⟨?_, ((E8.trans E12).trans (e14.trans e15_5)).trans (Mod.refl _ _)⟩))))))))))))))) (fun g17_9 => VL.gF rfl rfl (VL.gF rfl rfl (VL.gU rfl rfl (VL.gU rfl rfl (VL.gF rfl rfl (VL.op (R.pickFB rfl rfl) (VL.op (R.asB rfl) (VL.nil (V.ret (fret1 (v := .bool _) rfl rfl rfl (⟨?_, ((E8.trans E12).trans (e14.trans e15_5)).trans (Mod.refl _ _)⟩))))))))))))))))))) (fun g17_4 => VL.gF rfl rfl (VL.gT rfl rfl (VL.op (R.pickTB rfl rfl) (VL.op (R.pickTB rfl rfl) (VL.op (R.mvB rfl) (VL.gT rfl rfl (VL.op (R.mvI rfl) (VL.gT rfl rfl (VL.op (R.neq rfl rfl) (VL.gT rfl rfl (VL.op (R.mvB rfl) (VL.orP rfl rfl (fun g17_12 => VL.op (R.mvI rfl) (VL.gT rfl rfl (VL.op (R.eql rfl rfl) (VL.gT rfl rfl (VL.op (R.pickFB rfl rfl) (VL.op (R.pickTB rfl rfl) (VL.op (R.asB rfl) (VL.nil (V.ret (fret1 (v := .bool _) rfl rfl rfl (⟨?_, ((E8.trans E12).trans (e14.trans e15_5)).trans (Mod.refl _ _)⟩))))))))))) (fun g17_12 => VL.gF rfl rfl (VL.gT rfl rfl (VL.op (R.pickTB rfl rfl) (VL.op (R.pickTB rfl rfl) (VL.op (R.asB rfl) (VL.nil (V.ret (fret1 (v := .bool _) rfl rfl rfl (⟨?_, ((E8.trans E12).trans (e14.trans e15_5)).trans (Mod.refl _ _)⟩))))))))))))))))))))))))))))))
    · rw [decide_eq_true (happ.2 (by omega))]
    · rfl
    · exact absurd (happ.1 (by omega)) g17_9
    · rw [decide_eq_true (happ.2 (by omega))]
    · rfl
end Go.Proofs.YtbfejgbeaehbmaaGreatDoor
