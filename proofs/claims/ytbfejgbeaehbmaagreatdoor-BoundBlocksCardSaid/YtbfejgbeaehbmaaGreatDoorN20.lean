/- Bound: the walk of law BoundBlocks. -/
import Derived.Test.YtbfejgbeaehbmaaGreatDoorN18
import Derived.Test.YtbfejgbeaehbmaaGreatDoorVcPick
namespace Go.Proofs.YtbfejgbeaehbmaaGreatDoor
open Go.Vc
set_option maxRecDepth 100000 in
set_option maxHeartbeats 16000000 in
theorem blocks_law (g : GrW) (wa : Option Addr) (wc B : Nat) (ws : List Int) (w : World) (hI : GIn w g) (hW : IntSl w wa ws) (hwl : ws.length ≤ 9223372036854775807) (hB : B ≤ w.heap.size) (hT : TabW B w) :
    RetsP Tryz.prog 8 #[.agg (encGr g).toArray, .slice wa ws.length wc] w (.bool true) := by
  refine enter (args := [_, _]) Tryz.func8 rfl Tryz.ntmps8 (by kernel_rfl) rfl ?_
  refine V.seq (V.region (VL.box (v := .agg _) rfl fun b0_0 w0_0 hb0_0 e0_0 hB0_0 => VL.op (R.asB rfl) (VL.nil (V.seq (V.region (VL.callP Tryz.call10 rfl (head32_spec B _ (Nat.le_trans hB (e0_0).size) (hT.ext hB e0_0)) fun w1_0 e1_0 => VL.op (R.asB rfl) (VL.nil (V.seq (V.seq (V.region (VL.op (R.ldA Tryz.isAgg25 Tryz.sizeOf25 rfl rfl ((show RowAt _ _ _ (encGr g) from ((hB0_0.ext e1_0).rowAt 0 3))) rfl) (VL.callX Tryz.call11 rfl (few32_spec g [] none 0 45 _ (hI.ext (e0_0.trans e1_0)) (WIn.nil _)) fun b2 w2 h2 e2 => VL.op (R.not rfl) (VL.op (R.mvB rfl) (VL.or rfl rfl (fun g2_3 => VL.op (R.mvS rfl) (VL.gT rfl rfl (VL.op (R.lenS Tryz.runUnderlying22 rfl) (VL.gT rfl rfl (VL.op (R.gtr rfl rfl) (VL.op (R.pickFB rfl rfl) (VL.nil (V.condP rfl (fun c27 => V.seq (V.region (VL.op (R.mvB rfl) (VL.op (R.asB rfl) (VL.nil (V.ret (fret1 (v := .bool _) rfl rfl rfl (⟨rfl, ((e0_0.trans e1_0).trans e2)⟩)))))))) (fun c27 => V.skip (V.seq (?_))))))))))) (fun g2_3 => VL.gF rfl rfl (VL.gF rfl rfl (VL.op (R.pickTB rfl rfl) (VL.nil (V.condT rfl (V.seq (V.region (VL.op (R.mvB rfl) (VL.op (R.asB rfl) (VL.nil (V.ret (fret1 (v := .bool _) rfl rfl rfl (⟨rfl, ((e0_0.trans e1_0).trans e2)⟩)))))))))))))))))))))))))))
  have hsm := h2 (by simpa using g2_3)
  have hgl := hI.glen hsm.2.2.1
  have hvn : ws.length ≤ 60 := by omega
  have E2 := (e0_0.trans e1_0).trans e2
  have hX2 : Blk w2 b0_0 (.cells (Value.agg (encGr g).toArray).cells 25 (0, 0)) := hB0_0.ext (e1_0.trans e2)
  refine V.region (VL.op (R.ldA Tryz.isAgg25 Tryz.sizeOf25 rfl rfl ((show RowAt _ _ _ (encGr g) from hX2.rowAt 0 3)) rfl) (VL.op (R.mvS rfl) (VL.callP Tryz.call12 rfl (range_spec g wa wc ws B w2 (hI.ok.ext E2) hgl (hW.ext E2) (by omega) (Nat.le_trans hB E2.size) (hT.ext hB E2)) fun w4_2 e4_2 => VL.op (R.mvT rfl) (VL.op (R.extr rfl rfl) (VL.op (R.extr rfl rfl) (VL.op (R.extr rfl rfl) (VL.op (R.asI rfl) (VL.op (R.asI rfl) (VL.op (R.asI rfl) (VL.nil (V.seq (V.seq (V.region (VL.op (R.mvI rfl) (VL.op (R.neq rfl rfl) (VL.nil (V.condP rfl (fun c37 => V.seq (V.region (VL.op (R.mvB rfl) (VL.op (R.asB rfl) (VL.nil (V.ret (fret1 (v := .bool _) rfl rfl rfl (⟨rfl, E2.trans e4_2⟩)))))))) (fun c37 => V.skip (V.seq (?_))))))))))))))))))))
  have hz : (sumsF (grV g) ws).2.2 = 0 := by simpa using c37
  have hwt : wtB (grV g) ws = true := by
    cases hb : wtB (grV g) ws with
    | true => rfl
    | false => unfold sumsF at hz; rw [hb, if_neg (by decide)] at hz; cases hz
  obtain ⟨hv, hwn, hwb⟩ := wtB_iff.1 hwt
  rw [show (grV g).n = g.n from rfl] at hwn
  have E4 := E2.trans e4_2
  have hX4 := hX2.ext e4_2
  refine V.region (VL.op (R.ldA Tryz.isAgg25 Tryz.sizeOf25 rfl rfl ((show RowAt _ _ _ (encGr g) from hX4.rowAt 0 3)) rfl) (VL.callX Tryz.call16 rfl (comps_spec g B _ (hI.ok.ext E4) hgl (Nat.le_trans hB E4.size) (hT.ext hB E4)) fun z w7 h7 e7 => VL.op (R.asS rfl) (VL.nil (V.seq (V.seq (V.region (VL.op (R.asI rfl) (VL.nil (V.block (?_))))))))))
  obtain ⟨hz1, hZ⟩ := h7
  have E7 := E4.trans e7
  have hX7 := hX4.ext e7
  have hW7 := hW.ext E7
  have hzl : z.1.length ≤ 45 := by
    have h1 := comps_len hv
    rw [← hz1, List.length_map, show (grV g).n = g.n from rfl] at h1
    omega
  have hmem : ∀ k, k < z.1.length → (z.1.getD k default).l ∈ compsG (grV g) := fun k hk => by rw [← hz1]; exact List.mem_map_of_mem (gmem hk)
  have hcl : ∀ k, k < z.1.length → 0 < (z.1.getD k default).l.length ∧ (z.1.getD k default).l.length ≤ 45 := fun k hk => by
    have h1 := comp_pos hv (hmem k hk)
    have h2 := comp_len hv (hmem k hk)
    rw [show (grV g).n = g.n from rfl] at h2
    omega
  have hcs : ∀ k, k < z.1.length → ∀ v ∈ (z.1.getD k default).l, 0 ≤ v ∧ v < (ws.length : Int) := fun k hk v hv2 => by
    have := (setB_iff.1 (comps_set hv (hmem k hk))).2 v hv2
    rw [show (grV g).n = g.n from rfl] at this
    omega
  refine V.loop [1, 2, 5, 6, 7, 9, 10] (fun t : Nat => [.slice wa ws.length wc, .pointer (some ⟨b0_0, 0, none⟩), .bool true, .int .i64 (sumsF (grV g) ws).1, .int .i64 (sumsF (grV g) ws).2.1, .slice z.2.1 z.1.length z.2.2, .int .i64 (t : Nat)]) (fun t w' => t ≤ 2 ∧ Ext w7 w') (fun t => 2 - t) 0 rfl ⟨by decide, Vc.Mod.refl _ _⟩ ?_
  rintro ρ t w8 ⟨ht, e8⟩
  have E8 := E7.trans e8
  refine V.seq (V.seq (V.region (VL.op (R.mvI rfl) (VL.op (R.lss rfl rfl) (VL.nil (V.condP rfl (fun c42 => V.skip (V.seq (V.block (V.seq (?_))))) (fun c42 => V.exit (V.seq (V.region (VL.op (R.mvB rfl) (VL.op (R.asB rfl) (VL.nil (V.ret (fret1 (v := .bool _) rfl rfl rfl (⟨rfl, E8.trans (Mod.refl _ _)⟩)))))))))))))))
  have ht2 : t < 2 := by omega
  refine V.region (VL.op (R.asS rfl) (VL.nil (V.seq (V.seq (V.region (VL.op (R.asI rfl) (VL.nil (V.block (?_)))))))))
  refine V.loop [1, 2, 5, 6, 7, 9, 10, 11, 12] (fun x : Nat × Option Addr × Nat => [.slice wa ws.length wc, .pointer (some ⟨b0_0, 0, none⟩), .bool true, .int .i64 (sumsF (grV g) ws).1, .int .i64 (sumsF (grV g) ws).2.1, .slice z.2.1 z.1.length z.2.2, .int .i64 (t : Nat), .slice x.2.1 (pks t ws (vals (z.1.take x.1))).length x.2.2, .int .i64 (x.1 : Nat)])
    (fun x w' => x.1 ≤ z.1.length ∧ OwnT Vc.encI 1 3 w8.heap.size w' x.2.1 x.2.2 (pks t ws (vals (z.1.take x.1))) ∧ (∀ i, i < x.1 → (z.1.getD i default).l.length ≠ 1 → blockB (vals g.edges) (z.1.getD i default).l = true) ∧ Ext w8 w') (fun x => z.1.length - x.1) (0, none, 0) rfl ⟨Nat.zero_le _, OwnT.nil _ _ _ _ _, fun i h => absurd h (Nat.not_lt_zero i), Vc.Mod.refl _ _⟩ ?_
  rintro ρ ⟨k, a, c⟩ w9 ⟨hk, ho, hbl, e9⟩
  dsimp only at hk ho hbl e9 ⊢
  have E9 := E8.trans e9
  have hZ9 := hZ.ext (e8.trans e9)
  have hX9 := hX7.ext (e8.trans e9)
  have hW9 := hW.ext E9
  have hpl : (pks t ws (vals (z.1.take k))).length ≤ 45 := by
    have := pks_len t ws (vals (z.1.take k))
    rw [List.length_map, List.length_take] at this
    omega
  refine V.seq (V.seq (V.region (VL.op (R.mvI rfl) (VL.op (R.mvS rfl) (VL.op (R.lenS Tryz.runUnderlying23 rfl) (VL.op (R.lss rfl rfl) (VL.nil (V.condP rfl (fun c48 => V.skip (V.seq (V.block (V.seq (V.seq (?_)))))) (fun c48 => V.exit (V.seq (?_)))))))))))
  · have hkl : k < z.1.length := by omega
    obtain ⟨C, hCd⟩ : ∃ C, C = z.1.getD k default := ⟨_, rfl⟩
    have hC := hcl k hkl
    have hCm := hmem k hkl
    have hCs := hcs k hkl
    have hx9 := hZ9.at hkl
    have hvt : vals (z.1.take (k + 1)) = vals (z.1.take k) ++ [(z.1.getD k default).l] := by
      rw [List.take_succ_eq_append_getElem hkl, gget hkl]; unfold vals; rw [List.map_append]; rfl
    have hps := pks_snoc t ws (vals (z.1.take k)) (z.1.getD k default).l
    rw [← hvt] at hps
    have hblk := rblock_spec g (z.1.getD k default).a (z.1.getD k default).c (z.1.getD k default).l
    rw [show blkR (vals g.edges) (z.1.getD k default).l = blockB (vals g.edges) (z.1.getD k default).l from blkR_block hv hCm] at hblk
    refine V.region (VL.op (R.mvS rfl) (VL.op (R.mvI rfl) (VL.op (R.ixS Tryz.runUnderlying23 Tryz.sizeOf22 rfl rfl (by omega) (by omega) ((hZ9.sl).some (i := k) (by omega))) (VL.op (R.ld1 Tryz.isAgg22 rfl (((((hZ9.sl).ext (Mod.refl _ _)).row (i := k) (by omega)).cell (i := 0) rfl))) (VL.op (R.lenS Tryz.runUnderlying22 rfl) (VL.op (R.eql rfl rfl) (VL.nil (V.condP rfl (fun c56 => V.exit (V.region (VL.op (R.mvI rfl) (VL.op (R.add rfl rfl (by omega) (by omega)) (VL.op (R.asI rfl) (VL.nil (?_))))))) (fun c56 => V.skip (V.seq (V.seq (V.regionQ mixed 7 (by kernel_rfl) rfl (fun w' => Ext _ w') (Ext.drawn _) (VQ.op (fun wq eq => R.ldA Tryz.isAgg25 Tryz.sizeOf25 rfl rfl ((show RowAt _ _ _ (encGr g) from (hX9.ext eq).rowAt 0 3)) rfl) (VQ.op (fun wq eq => R.mvS rfl) (VQ.op (fun wq eq => R.mvI rfl) (VQ.op (fun wq eq => R.ixS Tryz.runUnderlying23 Tryz.sizeOf22 rfl rfl (by omega) (by omega) ((hZ9.sl.ext eq).some (i := k) hkl)) (VQ.op (fun wq eq => R.ld1 Tryz.isAgg22 rfl ((((hZ9.sl.ext eq).row (i := k) hkl).cell (i := 0) rfl))) (VQ.callP (fun _ _ h k => Mod.trans h k) Tryz.call22 rfl (fun wq eq => hblk wq (hI.ok.ext (E9.trans eq)) hgl (hx9.ext eq) (by omega)) (VQ.op (fun wq eq => R.not rfl) (VQ.nil fun w16q e16q => VL.nil (V.cond rfl (fun c63 => V.seq (V.region (VL.op (R.mvB rfl) (VL.op (R.asB rfl) (VL.nil (V.ret (fret1 (v := .bool _) rfl rfl rfl (⟨rfl, E9.trans e16q⟩)))))))) (fun c63 => V.skip (V.seq (?_))))))))))))))))))))))))
    · rw [if_pos (by omega), List.append_nil] at hps
      exact ⟨(k + 1, a, c), by dsimp only; rw [hps]; rfl, ⟨by dsimp only; omega, by dsimp only; rw [hps]; exact ho, fun i h hn => by
        by_cases h2 : i = k
        · subst h2; omega
        · exact hbl i (by dsimp only at h; omega) hn, e9⟩, by dsimp only; omega⟩
    · rw [if_neg (by omega)] at hps
      have hbk : blockB (vals g.edges) (z.1.getD k default).l = true := by simpa using c63
      have hZ10 := hZ9.ext e16q
      have hx10 := hx9.ext e16q
      have hW10 := hW9.ext e16q
      refine V.region (VL.op (R.mvS rfl) (VL.op (R.mvI rfl) (VL.op (R.ixS Tryz.runUnderlying23 Tryz.sizeOf22 rfl rfl (by omega) (by omega) ((hZ10.sl).some (i := k) (by omega))) (VL.op (R.ld1 Tryz.isAgg22 rfl (((((hZ10.sl).ext (Mod.refl _ _)).row (i := k) (by omega)).cell (i := 0) rfl))) (VL.op (R.ixS Tryz.runUnderlying22 Tryz.sizeOf3 rfl rfl (by omega) (by omega) (hx10.some (i := 0) hC.1)) (VL.op (R.ld1 Tryz.isAgg3 rfl (((hx10.row (i := 0) hC.1).cell (i := 0) rfl))) (VL.op (R.asI rfl) (VL.nil (V.seq (V.seq (V.region (VL.op (R.asI rfl) (VL.nil (V.block (?_)))))))))))))))
      refine V.loop [1, 2, 5, 6, 7, 9, 10, 11, 12, 13, 14] (fun q : Nat => [.slice wa ws.length wc, .pointer (some ⟨b0_0, 0, none⟩), .bool true, .int .i64 (sumsF (grV g) ws).1, .int .i64 (sumsF (grV g) ws).2.1, .slice z.2.1 z.1.length z.2.2, .int .i64 (t : Nat), .slice a (pks t ws (vals (z.1.take k))).length c, .int .i64 (k : Nat), .int .i64 (bstK t ws (z.1.getD k default).l q), .int .i64 (q : Nat)]) (fun q w' => q ≤ (z.1.getD k default).l.length ∧ Ext w16q w') (fun q => (z.1.getD k default).l.length - q) 0 rfl ⟨Nat.zero_le _, Vc.Mod.refl _ _⟩ ?_
      rintro ρ q w11 ⟨hq, e11⟩
      have hZ11 := hZ10.ext e11
      have hx11 := hx10.ext e11
      have hW11 := hW10.ext e11
      have hbm := hCs _ (bst_mem (t := t) (ws := ws) hC.1 hq)
      refine V.seq (V.seq (V.region (VL.op (R.mvI rfl) (VL.op (R.mvS rfl) (VL.op (R.mvI rfl) (VL.op (R.ixS Tryz.runUnderlying23 Tryz.sizeOf22 rfl rfl (by omega) (by omega) ((hZ11.sl).some (i := k) (by omega))) (VL.op (R.ld1 Tryz.isAgg22 rfl (((((hZ11.sl).ext (Mod.refl _ _)).row (i := k) (by omega)).cell (i := 0) rfl))) (VL.op (R.lenS Tryz.runUnderlying22 rfl) (VL.op (R.lss rfl rfl) (VL.nil (V.condP rfl (fun c77 => V.skip (V.seq (V.block (V.seq (?_))))) (fun c77 => V.exit (?_)))))))))))))
      · have hql : q < (z.1.getD k default).l.length := by omega
        have hqm := hCs _ (gmem hql)
        refine V.regionQ mixed 40 (by kernel_rfl) rfl (fun w' => Ext _ w') (Ext.drawn _) (VQ.op (fun wq eq => R.mvI rfl) (VQ.op (fun wq eq => R.eql rfl rfl) (VQ.op (fun wq eq => R.mvB rfl) (VQ.andP rfl rfl (fun g22_2 => VQ.op (fun wq eq => R.mvS rfl) (VQ.gT rfl rfl (VQ.op (fun wq eq => R.mvS rfl) (VQ.gT rfl rfl (VQ.op (fun wq eq => R.mvI rfl) (VQ.gT rfl rfl (VQ.op (fun wq eq => R.ixS Tryz.runUnderlying23 Tryz.sizeOf22 rfl rfl (by omega) (by omega) ((hZ11.sl).some (i := k) (by omega))) (VQ.gT rfl rfl (VQ.op (fun wq eq => R.ld1 Tryz.isAgg22 rfl (((((hZ11.sl).ext eq).row (i := k) (by omega)).cell (i := 0) rfl))) (VQ.gT rfl rfl (VQ.op (fun wq eq => R.mvI rfl) (VQ.gT rfl rfl (VQ.op (fun wq eq => R.ixS Tryz.runUnderlying22 Tryz.sizeOf3 rfl rfl (by omega) (by omega) ((hx11.ext eq).some (i := q) hql)) (VQ.gT rfl rfl (VQ.op (fun wq eq => R.ld1 Tryz.isAgg3 rfl ((((hx11.ext eq).row (i := q) hql).cell (i := 0) rfl))) (VQ.gT rfl rfl (VQ.op (fun wq eq => R.ixS Tryz.runUnderlying22 Tryz.sizeOf3 rfl rfl (by omega) (by omega) ((hW11.ext eq).some (i := ((z.1.getD k default).l.getD q default).toNat) (by omega))) (VQ.gT rfl rfl (VQ.op (fun wq eq => R.ld1 Tryz.isAgg3 rfl ((((hW11.ext eq).row (i := ((z.1.getD k default).l.getD q default).toNat) (by omega)).cell (i := 0) rfl))) (VQ.gT rfl rfl (VQ.op (fun wq eq => R.mvS rfl) (VQ.gT rfl rfl (VQ.op (fun wq eq => R.mvI rfl) (VQ.gT rfl rfl (VQ.op (fun wq eq => R.ixS Tryz.runUnderlying22 Tryz.sizeOf3 rfl rfl (by omega) (by omega) ((hW11.ext eq).some (i := (bstK t ws (z.1.getD k default).l q).toNat) (by omega))) (VQ.gT rfl rfl (VQ.op (fun wq eq => R.ld1 Tryz.isAgg3 rfl ((((hW11.ext eq).row (i := (bstK t ws (z.1.getD k default).l q).toNat) (by omega)).cell (i := 0) rfl))) (VQ.gT rfl rfl (VQ.op (fun wq eq => R.lss rfl rfl) (VQ.op (fun wq eq => R.pickTB rfl rfl) (VQ.op (fun wq eq => R.mvB rfl) (VQ.orP rfl rfl (fun g22_19 => VQ.op (fun wq eq => R.mvI rfl) (VQ.gT rfl rfl (VQ.op (fun wq eq => R.eql rfl rfl) (VQ.gT rfl rfl (VQ.op (fun wq eq => R.mvB rfl) (VQ.andP rfl rfl (fun g22_22 => VQ.op (fun wq eq => R.mvS rfl) (VQ.gT rfl rfl (VQ.op (fun wq eq => R.mvS rfl) (VQ.gT rfl rfl (VQ.op (fun wq eq => R.mvI rfl) (VQ.gT rfl rfl (VQ.op (fun wq eq => R.ixS Tryz.runUnderlying23 Tryz.sizeOf22 rfl rfl (by omega) (by omega) ((hZ11.sl).some (i := k) (by omega))) (VQ.gT rfl rfl (VQ.op (fun wq eq => R.ld1 Tryz.isAgg22 rfl (((((hZ11.sl).ext eq).row (i := k) (by omega)).cell (i := 0) rfl))) (VQ.gT rfl rfl (VQ.op (fun wq eq => R.mvI rfl) (VQ.gT rfl rfl (VQ.op (fun wq eq => R.ixS Tryz.runUnderlying22 Tryz.sizeOf3 rfl rfl (by omega) (by omega) ((hx11.ext eq).some (i := q) hql)) (VQ.gT rfl rfl (VQ.op (fun wq eq => R.ld1 Tryz.isAgg3 rfl ((((hx11.ext eq).row (i := q) hql).cell (i := 0) rfl))) (VQ.gT rfl rfl (VQ.op (fun wq eq => R.ixS Tryz.runUnderlying22 Tryz.sizeOf3 rfl rfl (by omega) (by omega) ((hW11.ext eq).some (i := ((z.1.getD k default).l.getD q default).toNat) (by omega))) (VQ.gT rfl rfl (VQ.op (fun wq eq => R.ld1 Tryz.isAgg3 rfl ((((hW11.ext eq).row (i := ((z.1.getD k default).l.getD q default).toNat) (by omega)).cell (i := 0) rfl))) (VQ.gT rfl rfl (VQ.op (fun wq eq => R.mvS rfl) (VQ.gT rfl rfl (VQ.op (fun wq eq => R.mvI rfl) (VQ.gT rfl rfl (VQ.op (fun wq eq => R.ixS Tryz.runUnderlying22 Tryz.sizeOf3 rfl rfl (by omega) (by omega) ((hW11.ext eq).some (i := (bstK t ws (z.1.getD k default).l q).toNat) (by omega))) (VQ.gT rfl rfl (VQ.op (fun wq eq => R.ld1 Tryz.isAgg3 rfl ((((hW11.ext eq).row (i := (bstK t ws (z.1.getD k default).l q).toNat) (by omega)).cell (i := 0) rfl))) (VQ.gT rfl rfl (VQ.op (fun wq eq => R.gtr rfl rfl) (VQ.gT rfl rfl (VQ.op (fun wq eq => R.pickTB rfl rfl) (VQ.op (fun wq eq => R.pickFB rfl rfl) (VQ.nil fun w22q e22q => VL.nil (V.condP rfl (fun c119 => V.region (VL.op (R.mvS rfl) (VL.op (R.mvI rfl) (VL.op (R.ixS Tryz.runUnderlying23 Tryz.sizeOf22 rfl rfl (by omega) (by omega) ((hZ11.sl).some (i := k) (by omega))) (VL.op (R.ld1 Tryz.isAgg22 rfl (((((hZ11.sl).ext e22q).row (i := k) (by omega)).cell (i := 0) rfl))) (VL.op (R.mvI rfl) (VL.op (R.ixS Tryz.runUnderlying22 Tryz.sizeOf3 rfl rfl (by omega) (by omega) ((hx11.ext e22q).some (i := q) hql)) (VL.op (R.ld1 Tryz.isAgg3 rfl ((((hx11.ext e22q).row (i := q) hql).cell (i := 0) rfl))) (VL.op (R.asI rfl) (VL.nil (V.region (VL.op (R.mvI rfl) (VL.op (R.add rfl rfl (by omega) (by omega)) (VL.op (R.asI rfl) (VL.nil (⟨q + 1, ?_, ⟨by omega, e11.trans e22q⟩, by omega⟩)))))))))))))))) (fun c119 => V.skip (V.region (VL.op (R.mvI rfl) (VL.op (R.add rfl rfl (by omega) (by omega)) (VL.op (R.asI rfl) (VL.nil (⟨q + 1, ?_, ⟨by omega, e11.trans e22q⟩, by omega⟩))))))))))))))))))))))))))))))))))))))))) (fun g22_22 => VQ.gF rfl rfl (VQ.gF rfl rfl (VQ.gF rfl rfl (VQ.gF rfl rfl (VQ.gF rfl rfl (VQ.gF rfl rfl (VQ.gF rfl rfl (VQ.gF rfl rfl (VQ.gF rfl rfl (VQ.gF rfl rfl (VQ.gF rfl rfl (VQ.gF rfl rfl (VQ.gF rfl rfl (VQ.gF rfl rfl (VQ.gT rfl rfl (VQ.op (fun wq eq => R.pickFB rfl rfl) (VQ.op (fun wq eq => R.pickFB rfl rfl) (VQ.nil fun w22q e22q => VL.nil (V.condF rfl (V.skip (V.region (VL.op (R.mvI rfl) (VL.op (R.add rfl rfl (by omega) (by omega)) (VL.op (R.asI rfl) (VL.nil (⟨q + 1, ?_, ⟨by omega, e11.trans e22q⟩, by omega⟩)))))))))))))))))))))))))))))))) (fun g22_19 => VQ.gF rfl rfl (VQ.gF rfl rfl (VQ.gU rfl rfl (VQ.gU rfl rfl (VQ.gU rfl rfl (VQ.gU rfl rfl (VQ.gU rfl rfl (VQ.gU rfl rfl (VQ.gU rfl rfl (VQ.gU rfl rfl (VQ.gU rfl rfl (VQ.gU rfl rfl (VQ.gU rfl rfl (VQ.gU rfl rfl (VQ.gU rfl rfl (VQ.gU rfl rfl (VQ.gU rfl rfl (VQ.gF rfl rfl (VQ.op (fun wq eq => R.pickTB rfl rfl) (VQ.nil fun w22q e22q => VL.nil (V.condT rfl (V.region (VL.op (R.mvS rfl) (VL.op (R.mvI rfl) (VL.op (R.ixS Tryz.runUnderlying23 Tryz.sizeOf22 rfl rfl (by omega) (by omega) ((hZ11.sl).some (i := k) (by omega))) (VL.op (R.ld1 Tryz.isAgg22 rfl (((((hZ11.sl).ext e22q).row (i := k) (by omega)).cell (i := 0) rfl))) (VL.op (R.mvI rfl) (VL.op (R.ixS Tryz.runUnderlying22 Tryz.sizeOf3 rfl rfl (by omega) (by omega) ((hx11.ext e22q).some (i := q) hql)) (VL.op (R.ld1 Tryz.isAgg3 rfl ((((hx11.ext e22q).row (i := q) hql).cell (i := 0) rfl))) (VL.op (R.asI rfl) (VL.nil (V.region (VL.op (R.mvI rfl) (VL.op (R.add rfl rfl (by omega) (by omega)) (VL.op (R.asI rfl) (VL.nil (⟨q + 1, ?_, ⟨by omega, e11.trans e22q⟩, by omega⟩))))))))))))))))))))))))))))))))))))))))))))))))))))))))))))))))))))) (fun g22_2 => VQ.gF rfl rfl (VQ.gF rfl rfl (VQ.gF rfl rfl (VQ.gF rfl rfl (VQ.gF rfl rfl (VQ.gF rfl rfl (VQ.gF rfl rfl (VQ.gF rfl rfl (VQ.gF rfl rfl (VQ.gF rfl rfl (VQ.gF rfl rfl (VQ.gF rfl rfl (VQ.gF rfl rfl (VQ.gF rfl rfl (VQ.op (fun wq eq => R.pickFB rfl rfl) (VQ.op (fun wq eq => R.mvB rfl) (VQ.gT rfl rfl (VQ.op (fun wq eq => R.mvI rfl) (VQ.gT rfl rfl (VQ.op (fun wq eq => R.eql rfl rfl) (VQ.gT rfl rfl (VQ.op (fun wq eq => R.mvB rfl) (VQ.andP rfl rfl (fun g22_22 => VQ.op (fun wq eq => R.mvS rfl) (VQ.gT rfl rfl (VQ.op (fun wq eq => R.mvS rfl) (VQ.gT rfl rfl (VQ.op (fun wq eq => R.mvI rfl) (VQ.gT rfl rfl (VQ.op (fun wq eq => R.ixS Tryz.runUnderlying23 Tryz.sizeOf22 rfl rfl (by omega) (by omega) ((hZ11.sl).some (i := k) (by omega))) (VQ.gT rfl rfl (VQ.op (fun wq eq => R.ld1 Tryz.isAgg22 rfl (((((hZ11.sl).ext eq).row (i := k) (by omega)).cell (i := 0) rfl))) (VQ.gT rfl rfl (VQ.op (fun wq eq => R.mvI rfl) (VQ.gT rfl rfl (VQ.op (fun wq eq => R.ixS Tryz.runUnderlying22 Tryz.sizeOf3 rfl rfl (by omega) (by omega) ((hx11.ext eq).some (i := q) hql)) (VQ.gT rfl rfl (VQ.op (fun wq eq => R.ld1 Tryz.isAgg3 rfl ((((hx11.ext eq).row (i := q) hql).cell (i := 0) rfl))) (VQ.gT rfl rfl (VQ.op (fun wq eq => R.ixS Tryz.runUnderlying22 Tryz.sizeOf3 rfl rfl (by omega) (by omega) ((hW11.ext eq).some (i := ((z.1.getD k default).l.getD q default).toNat) (by omega))) (VQ.gT rfl rfl (VQ.op (fun wq eq => R.ld1 Tryz.isAgg3 rfl ((((hW11.ext eq).row (i := ((z.1.getD k default).l.getD q default).toNat) (by omega)).cell (i := 0) rfl))) (VQ.gT rfl rfl (VQ.op (fun wq eq => R.mvS rfl) (VQ.gT rfl rfl (VQ.op (fun wq eq => R.mvI rfl) (VQ.gT rfl rfl (VQ.op (fun wq eq => R.ixS Tryz.runUnderlying22 Tryz.sizeOf3 rfl rfl (by omega) (by omega) ((hW11.ext eq).some (i := (bstK t ws (z.1.getD k default).l q).toNat) (by omega))) (VQ.gT rfl rfl (VQ.op (fun wq eq => R.ld1 Tryz.isAgg3 rfl ((((hW11.ext eq).row (i := (bstK t ws (z.1.getD k default).l q).toNat) (by omega)).cell (i := 0) rfl))) (VQ.gT rfl rfl (VQ.op (fun wq eq => R.gtr rfl rfl) (VQ.gT rfl rfl (VQ.op (fun wq eq => R.pickTB rfl rfl) (VQ.op (fun wq eq => R.pickFB rfl rfl) (VQ.nil fun w22q e22q => VL.nil (V.condP rfl (fun c119 => V.region (VL.op (R.mvS rfl) (VL.op (R.mvI rfl) (VL.op (R.ixS Tryz.runUnderlying23 Tryz.sizeOf22 rfl rfl (by omega) (by omega) ((hZ11.sl).some (i := k) (by omega))) (VL.op (R.ld1 Tryz.isAgg22 rfl (((((hZ11.sl).ext e22q).row (i := k) (by omega)).cell (i := 0) rfl))) (VL.op (R.mvI rfl) (VL.op (R.ixS Tryz.runUnderlying22 Tryz.sizeOf3 rfl rfl (by omega) (by omega) ((hx11.ext e22q).some (i := q) hql)) (VL.op (R.ld1 Tryz.isAgg3 rfl ((((hx11.ext e22q).row (i := q) hql).cell (i := 0) rfl))) (VL.op (R.asI rfl) (VL.nil (V.region (VL.op (R.mvI rfl) (VL.op (R.add rfl rfl (by omega) (by omega)) (VL.op (R.asI rfl) (VL.nil (⟨q + 1, ?_, ⟨by omega, e11.trans e22q⟩, by omega⟩)))))))))))))))) (fun c119 => V.skip (V.region (VL.op (R.mvI rfl) (VL.op (R.add rfl rfl (by omega) (by omega)) (VL.op (R.asI rfl) (VL.nil (⟨q + 1, ?_, ⟨by omega, e11.trans e22q⟩, by omega⟩))))))))))))))))))))))))))))))))))))))))) (fun g22_22 => VQ.gF rfl rfl (VQ.gF rfl rfl (VQ.gF rfl rfl (VQ.gF rfl rfl (VQ.gF rfl rfl (VQ.gF rfl rfl (VQ.gF rfl rfl (VQ.gF rfl rfl (VQ.gF rfl rfl (VQ.gF rfl rfl (VQ.gF rfl rfl (VQ.gF rfl rfl (VQ.gF rfl rfl (VQ.gF rfl rfl (VQ.gT rfl rfl (VQ.op (fun wq eq => R.pickFB rfl rfl) (VQ.op (fun wq eq => R.pickFB rfl rfl) (VQ.nil fun w22q e22q => VL.nil (V.condF rfl (V.skip (V.region (VL.op (R.mvI rfl) (VL.op (R.add rfl rfl (by omega) (by omega)) (VL.op (R.asI rfl) (VL.nil (⟨q + 1, ?_, ⟨by omega, e11.trans e22q⟩, by omega⟩)))))))))))))))))))))))))))))))))))))))))))))))))))))
        all_goals
          have hy : ((t = 0 ∧ ws.getD ((z.1.getD k default).l.getD q default).toNat default < ws.getD (bstK t ws (z.1.getD k default).l q).toNat default) ∨ (t = 1 ∧ ws.getD (bstK t ws (z.1.getD k default).l q).toNat default < ws.getD ((z.1.getD k default).l.getD q default).toNat default)) → bstK t ws (z.1.getD k default).l (q + 1) = (z.1.getD k default).l.getD q default := fun h => by rw [bst_succ]; exact if_pos h
          have hn : ¬((t = 0 ∧ ws.getD ((z.1.getD k default).l.getD q default).toNat default < ws.getD (bstK t ws (z.1.getD k default).l q).toNat default) ∨ (t = 1 ∧ ws.getD (bstK t ws (z.1.getD k default).l q).toNat default < ws.getD ((z.1.getD k default).l.getD q default).toNat default)) → bstK t ws (z.1.getD k default).l (q + 1) = bstK t ws (z.1.getD k default).l q := fun h => by rw [bst_succ]; exact if_neg h
          first | (exfalso; omega) | (rw [hy (by omega)]; rfl) | (rw [hn (by omega)]; rfl)
      · have hqe : q = (z.1.getD k default).l.length := by omega
        subst hqe
        refine V.region (VL.op (R.mvS rfl) (VL.op (R.mvI rfl) (VL.append1 el22 Tryz.runUnderlying22 Tryz.sizeOf3 Tryz.zeroValue3 rfl ((bstK t ws (z.1.getD k default).l (z.1.getD k default).l.length)) rfl rfl rfl (ho.ext (e16q.trans e11)) rfl rfl rfl (by omega) (by unfold maxLen; omega) ((e9.trans (e16q.trans e11)).size) fun a24 c24 w24 vt24 ho24 m24 hf24 => VL.op (R.asS rfl) (VL.nil (V.region (VL.op (R.mvI rfl) (VL.op (R.add rfl rfl (by omega) (by omega)) (VL.op (R.asI rfl) (VL.nil (?_))))))))))
        rw [← hps] at ho24
        have hpl2 : (pks t ws (vals (z.1.take (k + 1)))).length = (pks t ws (vals (z.1.take k))).length + 1 := by rw [hps, List.length_append]; rfl
        exact ⟨(k + 1, a24, c24), by dsimp only; rw [hpl2]; rfl, ⟨by dsimp only; omega, ho24, fun i h hn => by
          by_cases h2 : i = k
          · subst h2; exact hbk
          · exact hbl i (by dsimp only at h; omega) hn, (e9.trans (e16q.trans e11)).ownA m24 fun q hq => ho.ge q hq⟩, by dsimp only; omega⟩
  · have hke : k = z.1.length := by omega
    subst hke
    have hvz : vals (z.1.take z.1.length) = compsG (grV g) := by rw [List.take_length]; exact hz1
    rw [hvz] at ho hpl ⊢
    have hb : ∀ c ∈ compsG (grV g), c.length ≠ 1 → blockB (grV g).edges c = true := fun c hc h1 => by
      rw [← hz1] at hc
      obtain ⟨i, hi, rfl⟩ := vals_mem.1 hc
      exact hbl i hi h1
    have hld := pks_load hv t ws hb
    obtain ⟨hR, hRs⟩ := ext_rep hld
    have hsum := pks_sum (t := t) hwt hb hR fun x hx => hRs x ((setF_mem _ _).2 hx)
    obtain ⟨P, hP⟩ : ∃ P, P = pks t ws (compsG (grV g)) := ⟨_, rfl⟩
    rw [← hP] at ho hpl hld hR hsum ⊢
    refine V.regionS mixed 9 (by kernel_rfl) rfl (fun us => VS.op (fun wq eq => R.ldA Tryz.isAgg25 Tryz.sizeOf25 rfl rfl ((show RowAt _ _ _ (encGr g) from (hX9.ext eq).rowAt 0 3)) rfl) (VS.op (fun wq eq => R.mvS rfl) (VS.callX (fun u w' => ∃ s : Option Addr × Nat, u = .slice s.1 (setF P).length s.2 ∧ IntSl w' s.1 (setF P)) (fun u a b _ ⟨s, h1, h3⟩ eb => ⟨s, h1, h3.ext eb⟩) Tryz.call17 rfl (fun wq eq hq => Rets.mono (rset_spec a c P wq (by omega) (ho.sl.ext eq)) fun u w' ⟨s, h1, h3, h4⟩ => ⟨⟨s, h1, OwnT.sl h3⟩, h4⟩) (VS.callX (fun u w' => ∃ x : SlI, u = .tuple #[.slice x.a x.l.length x.c, .int .i64 0] ∧ x.l = extF (grV g) (setF P) ∧ IntSl w' x.a x.l) (fun u a b _ ⟨s, h1, h2, h3⟩ eb => ⟨s, h1, h2, h3.ext eb⟩) Tryz.call19 rfl (fun wq eq hq => by
          obtain ⟨s, h1, h3⟩ := hq 2 (by kernel_rfl)
          rw [h1]
          have hsl := setF_len P
          refine Rets.mono (extend_spec g s.1 s.2 (setF P) B wq (hI.ok.ext (E9.trans eq)) hgl h3 (by omega) (Nat.le_trans hB (E9.trans eq).size) (hT.ext hB (E9.trans eq))) ?_
          rintro u w' ⟨x, rfl, ⟨k1, k2⟩, he⟩
          rw [if_pos hld] at k2
          have k4 : x.2 = 0 := congrArg Prod.snd k2
          exact ⟨⟨x.1, by dsimp only; rw [k4], congrArg Prod.fst k2, k1.sl⟩, he⟩) (VS.spec (fun u w' => ∃ x : SlI, u = .tuple #[.slice x.a x.l.length x.c, .int .i64 0] ∧ x.l = extF (grV g) (setF P) ∧ IntSl w' x.a x.l) (fun u a b _ ⟨s, h1, h2, h3⟩ eb => ⟨s, h1, h2, h3.ext eb⟩) rfl (fun wq eq hq => by
          obtain ⟨x, h1, h2⟩ := hq 3 (by kernel_rfl)
          exact yieldsR_op (R.mv h1) ⟨⟨x, rfl, h2⟩, Vc.Mod.refl _ _⟩) (VS.spec (fun u w' => ∃ x : SlI, u = .slice x.a x.l.length x.c ∧ x.l = extF (grV g) (setF P) ∧ IntSl w' x.a x.l) (fun u a b _ ⟨s, h1, h2, h3⟩ eb => ⟨s, h1, h2, h3.ext eb⟩) rfl (fun wq eq hq => by
          obtain ⟨x, h1, h2⟩ := hq 4 (by kernel_rfl)
          exact yieldsR_op (R.extr h1 rfl) ⟨⟨x, rfl, h2⟩, Vc.Mod.refl _ _⟩) (VS.spec (fun u _ => u = .int .i64 0) (fun u a b _ h eb => h) rfl (fun wq eq hq => by
          obtain ⟨x, h1, h2⟩ := hq 4 (by kernel_rfl)
          exact yieldsR_op (R.extr h1 rfl) ⟨rfl, Vc.Mod.refl _ _⟩) (VS.spec (fun u w' => ∃ x : SlI, u = .slice x.a x.l.length x.c ∧ x.l = extF (grV g) (setF P) ∧ IntSl w' x.a x.l) (fun u a b _ ⟨s, h1, h2, h3⟩ eb => ⟨s, h1, h2, h3.ext eb⟩) rfl (fun wq eq hq => by
          obtain ⟨x, h1, h2⟩ := hq 5 (by kernel_rfl)
          exact yieldsR_op (R.as h1) ⟨⟨x, rfl, h2⟩, Vc.Mod.refl _ _⟩) (VS.spec (fun u _ => u = .int .i64 0) (fun u a b _ h eb => h) rfl (fun wq eq hq => by
          have h1 := hq 6 (by kernel_rfl)
          exact yieldsR_op (R.as h1) ⟨rfl, Vc.Mod.refl _ _⟩) (VS.nil (fun w25 e25 h25 => ?_))))))))))) rfl
    obtain ⟨x, hx7, hxl, hxs⟩ := h25 7
    have hx8 : us 8 = _ := h25 8
    rw [show us 7 = _ from hx7, hx8]
    rw [← hxl] at hR hsum
    have hrb := (setB_iff.1 hR.set).2
    rw [show (grV g).n = g.n from rfl] at hrb
    have hxn : x.l.length ≤ 1000000 := by
      rw [hxl]; unfold extF
      have := memK_len (extK (grV g).edges (setF P) (grV g).n.toNat) (grV g).n.toNat
      have h1 := hsm.1
      rw [show (grV g).n = g.n from rfl] at this ⊢
      omega
    have hwv : ∀ i, i < x.l.length → -1000000000 ≤ wtF ws (x.l.getD i default) ∧ wtF ws (x.l.getD i default) ≤ 1000000000 := fun i hi => by
      have := hrb _ (gmem hi)
      exact hwb _ (wtF_at this.1 (by omega))
    have hsb : ∀ k, k ≤ x.l.length → -(1000000000 * (k : Int)) ≤ sm ((x.l.take k).map (wtF ws)) ∧ sm ((x.l.take k).map (wtF ws)) ≤ 1000000000 * (k : Int) := fun k hk => sm_part hwv hk
    refine VL.nil (V.seq (V.region (VL.op (R.asI rfl) (VL.nil (V.seq (V.seq (V.region (VL.op (R.asI rfl) (VL.nil (V.block (?_)))))))))))
    refine V.loop [1, 2, 5, 6, 7, 9, 10, 15, 16, 17, 18] (fun k : Nat => [.slice wa ws.length wc, .pointer (some ⟨b0_0, 0, none⟩), .bool true, .int .i64 (sumsF (grV g) ws).1, .int .i64 (sumsF (grV g) ws).2.1, .slice z.2.1 z.1.length z.2.2, .int .i64 (t : Nat), .slice x.a x.l.length x.c, .int .i64 0, .int .i64 (sm ((x.l.take k).map (wtF ws))), .int .i64 (k : Nat)]) (fun k w' => k ≤ x.l.length ∧ Ext w25 w') (fun k => x.l.length - k) 0 rfl ⟨Nat.zero_le _, Vc.Mod.refl _ _⟩ ?_
    rintro ρ k w26 ⟨hk, e26⟩
    have hx26 := hxs.ext e26
    have hW26 := hW9.ext (e25.trans e26)
    refine V.seq (V.seq (V.region (VL.op (R.mvI rfl) (VL.op (R.mvS rfl) (VL.op (R.lenS Tryz.runUnderlying22 rfl) (VL.op (R.lss rfl rfl) (VL.nil (V.condP rfl (fun c141 => V.skip (V.seq (V.block (?_)))) (fun c141 => V.exit (V.seq (?_)))))))))))
    · have hkl : k < x.l.length := by omega
      have hv := hrb _ (gmem hkl)
      have hwk := hwv k hkl
      have hs := hsb k hk
      unfold wtF at hwk
      refine V.region (VL.op (R.mvI rfl) (VL.op (R.mvS rfl) (VL.op (R.mvS rfl) (VL.op (R.mvI rfl) (VL.op (R.ixS Tryz.runUnderlying22 Tryz.sizeOf3 rfl rfl (by omega) (by omega) ((hx26).some (i := k) (by omega))) (VL.op (R.ld1 Tryz.isAgg3 rfl (((((hx26).ext (Mod.refl _ _)).row (i := k) (by omega)).cell (i := 0) rfl))) (VL.op (R.ixS Tryz.runUnderlying22 Tryz.sizeOf3 rfl rfl (by omega) (by omega) (hW26.some (i := (x.l.getD k default).toNat) (by omega))) (VL.op (R.ld1 Tryz.isAgg3 rfl (((hW26.row (i := (x.l.getD k default).toNat) (by omega)).cell (i := 0) rfl))) (VL.op (R.add rfl rfl (by omega) (by omega)) (VL.op (R.asI rfl) (VL.nil (V.region (VL.op (R.mvI rfl) (VL.op (R.add rfl rfl (by omega) (by omega)) (VL.op (R.asI rfl) (VL.nil (⟨k + 1, ?_, ⟨by omega, e26.trans (Mod.refl _ _)⟩, by omega⟩)))))))))))))))))
      have hs1 : sm ((x.l.take (k + 1)).map (wtF ws)) = sm ((x.l.take k).map (wtF ws)) + wtF ws (x.l.getD k default) := by rw [List.take_succ_eq_append_getElem hkl, List.map_append, List.map_cons, List.map_nil, sm_snoc, ← gget hkl]
      rw [hs1]; rfl
    · have hke : k = x.l.length := by omega
      subst hke
      rw [List.take_length]
      refine V.region (VL.op (R.mvI rfl) (VL.op (R.lit (R.neq rfl rfl) ((decide_eq_false (by decide)))) (VL.op (R.mvB rfl) (VL.gT rfl rfl (VL.op (R.mvI rfl) (VL.gT rfl rfl (VL.op (R.eql rfl rfl) (VL.gT rfl rfl (VL.op (R.mvB rfl) (VL.andP rfl rfl (fun g31_5 => VL.op (R.mvI rfl) (VL.gT rfl rfl (VL.op (R.mvI rfl) (VL.gT rfl rfl (VL.op (R.neq rfl rfl) (VL.gT rfl rfl (VL.op (R.pickTB rfl rfl) (VL.op (R.pickFB rfl rfl) (VL.op (R.mvB rfl) (VL.orP rfl rfl (fun g31_11 => VL.op (R.mvI rfl) (VL.gT rfl rfl (VL.op (R.eql rfl rfl) (VL.gT rfl rfl (VL.op (R.mvB rfl) (VL.andP rfl rfl (fun g31_14 => VL.op (R.mvI rfl) (VL.gT rfl rfl (VL.op (R.mvI rfl) (VL.gT rfl rfl (VL.op (R.neq rfl rfl) (VL.gT rfl rfl (VL.op (R.pickTB rfl rfl) (VL.op (R.pickFB rfl rfl) (VL.nil (V.condP rfl (fun c172 => V.seq (V.region (VL.op (R.asB rfl) (VL.nil (V.ret (fret1 (v := .bool _) rfl rfl rfl (?_))))))) (fun c172 => V.skip (V.region (VL.op (R.mvI rfl) (VL.op (R.add rfl rfl (by omega) (by omega)) (VL.op (R.asI rfl) (VL.nil (⟨t + 1, rfl, ⟨by omega, (((e8.trans e9).trans e25).trans e26).trans (Mod.refl _ _)⟩, by omega⟩))))))))))))))))) (fun g31_14 => VL.gF rfl rfl (VL.gF rfl rfl (VL.gT rfl rfl (VL.op (R.pickFB rfl rfl) (VL.op (R.pickFB rfl rfl) (VL.nil (V.condF rfl (V.skip (V.region (VL.op (R.mvI rfl) (VL.op (R.add rfl rfl (by omega) (by omega)) (VL.op (R.asI rfl) (VL.nil (⟨t + 1, rfl, ⟨by omega, (((e8.trans e9).trans e25).trans e26).trans (Mod.refl _ _)⟩, by omega⟩)))))))))))))))))))) (fun g31_11 => VL.gF rfl rfl (VL.gF rfl rfl (VL.gU rfl rfl (VL.gU rfl rfl (VL.gU rfl rfl (VL.gF rfl rfl (VL.op (R.pickTB rfl rfl) (VL.nil (V.condT rfl (V.seq (V.region (VL.op (R.asB rfl) (VL.nil (V.ret (fret1 (v := .bool _) rfl rfl rfl (?_)))))))))))))))))))))))))) (fun g31_5 => VL.gF rfl rfl (VL.gF rfl rfl (VL.gT rfl rfl (VL.op (R.pickFB rfl rfl) (VL.op (R.pickFB rfl rfl) (VL.op (R.mvB rfl) (VL.gT rfl rfl (VL.op (R.mvI rfl) (VL.gT rfl rfl (VL.op (R.eql rfl rfl) (VL.gT rfl rfl (VL.op (R.mvB rfl) (VL.andP rfl rfl (fun g31_14 => VL.op (R.mvI rfl) (VL.gT rfl rfl (VL.op (R.mvI rfl) (VL.gT rfl rfl (VL.op (R.neq rfl rfl) (VL.gT rfl rfl (VL.op (R.pickTB rfl rfl) (VL.op (R.pickFB rfl rfl) (VL.nil (V.condP rfl (fun c172 => V.seq (V.region (VL.op (R.asB rfl) (VL.nil (V.ret (fret1 (v := .bool _) rfl rfl rfl (?_))))))) (fun c172 => V.skip (V.region (VL.op (R.mvI rfl) (VL.op (R.add rfl rfl (by omega) (by omega)) (VL.op (R.asI rfl) (VL.nil (⟨t + 1, rfl, ⟨by omega, (((e8.trans e9).trans e25).trans e26).trans (Mod.refl _ _)⟩, by omega⟩))))))))))))))))) (fun g31_14 => VL.gF rfl rfl (VL.gF rfl rfl (VL.gT rfl rfl (VL.op (R.pickFB rfl rfl) (VL.op (R.pickFB rfl rfl) (VL.nil (V.condF rfl (V.skip (V.region (VL.op (R.mvI rfl) (VL.op (R.add rfl rfl (by omega) (by omega)) (VL.op (R.asI rfl) (VL.nil (⟨t + 1, rfl, ⟨by omega, (((e8.trans e9).trans e25).trans e26).trans (Mod.refl _ _)⟩, by omega⟩)))))))))))))))))))))))))))))))))))))
      · exact absurd (hsum.2 (by omega)) c172
      · exact absurd (hsum.1 (by omega)) g31_11
      · exact absurd (hsum.2 (by omega)) c172
end Go.Proofs.YtbfejgbeaehbmaaGreatDoor
