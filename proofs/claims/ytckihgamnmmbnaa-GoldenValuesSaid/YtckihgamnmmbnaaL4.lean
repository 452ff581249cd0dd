/- Golden: the second law (values). -/
import Derived.Test.YtckihgamnmmbnaaM3
namespace Go.Proofs.Ytckihgamnmmbnaa
open Go.Vc Go.Sort
set_option maxRecDepth 100000 in
set_option maxHeartbeats 8000000 in
theorem law4_spec (s : Set_) (recs : List Rec) (L : List Int) (ra la : Option Addr) (rc lc : Nat) (w : World) (hi : InOk s recs) (hl : L.length ≤ 9223372036854775807) (hS : SetW w s) (hR : RecsW w ra recs) (hL : IntSl w la L) :
    RetsP Try.prog 4 #[.agg (encSet s).toArray, .slice ra recs.length rc, .slice la L.length lc] w (.bool true) := by
  refine enter (args := [_, _, _]) Try.func4 rfl Try.ntmps4 (by kernel_rfl) rfl ?_
  refine V.seq (V.region (VL.box (v := .agg _) rfl fun b1 w1 hb1 e1 hX1 => VL.op (R.asB rfl) (VL.nil (V.seq (V.region (VL.callP Try.call9 rfl (head_spec _) fun w1_0 e1_0 => VL.op (R.asB rfl) (VL.nil (V.seq (V.seq (V.region (VL.op (R.ldA Try.isAgg32 Try.sizeOf32 rfl rfl ((show RowAt _ _ _ (encSet s) from (hX1.ext e1_0).rowAt 0 7)) rfl) (VL.op (R.mvS rfl) (VL.callX Try.call10 rfl (few_spec s recs ra rc 40 _ (hS.ext (e1.trans e1_0)) (hR.ext (e1.trans e1_0)) hi.nt hi.na hi.nr) fun few w2 hf e2 => VL.op (R.not rfl) (VL.op (R.mvB rfl) (VL.or rfl rfl (fun g2_4 => VL.op (R.mvS rfl) (VL.gT rfl rfl (VL.op (R.lenS Try.runUnderlying34 rfl) (VL.gT rfl rfl (VL.op (R.gtr rfl rfl) (VL.op (R.pickFB rfl rfl) (VL.nil (V.condP rfl (fun c26 => V.seq (?_)) (fun c26 => V.skip (V.seq (?_))))))))))) (fun g2_4 => VL.gF rfl rfl (VL.gF rfl rfl (VL.op (R.pickTB rfl rfl) (VL.nil (V.condT rfl (V.seq (?_))))))))))))))))))))))
  · refine V.region (VL.op (R.mvB rfl) (VL.op (R.asB rfl) (VL.nil (V.ret (fret1 (v := .bool _) rfl rfl rfl (⟨rfl, e1.trans (e1_0.trans e2)⟩))))))
  · have hfo := hf (by simpa using g2_4)
    have hsL := hfo.small (L := L) (by omega)
    have E2 := e1.trans (e1_0.trans e2)
    have hS := hS.ext E2
    have hR := hR.ext E2
    have hL := hL.ext E2
    have hX := hX1.ext (e1_0.trans e2)
    refine V.region (VL.op (R.ldA Try.isAgg32 Try.sizeOf32 rfl rfl ((show RowAt _ _ _ (encSet s) from (hX.ext (Mod.refl _ _)).rowAt 0 7)) rfl) (VL.op (R.mvS rfl) (VL.op (R.mvS rfl) (VL.callX Try.call13 rfl (gfacts_spec s recs L ra la rc lc _ hsL (hS.ext (Mod.refl _ _)) (hR.ext (Mod.refl _ _)) (hL.ext (Mod.refl _ _))) fun xc wc hc ec => VL.op (R.mvT rfl) (VL.op (R.extr rfl rfl) (VL.op (R.extr rfl rfl) (VL.op (R.asS rfl) (VL.op (R.asI rfl) (VL.nil (V.seq (V.seq (?_))))))))))))
    obtain ⟨lf, ac, cc⟩ := xc
    obtain ⟨hc, hcq⟩ := hc
    dsimp only at hc hcq ⊢
    refine V.region (VL.op (R.mvI rfl) (VL.op (R.neq rfl rfl) (VL.nil (V.condP rfl (fun c36 => V.seq (?_)) (fun c36 => V.skip (V.seq (V.seq (?_))))))))
    · have hl0 : lf.length = 0 := by
        have := congrArg List.length hcq
        rw [List.length_map, resF_bad c36] at this
        exact this
      rw [hl0]
      refine V.region (VL.op (R.mvB rfl) (VL.op (R.mvB rfl) (VL.and rfl rfl (fun g6_1 => VL.op (R.mvS rfl) (VL.gT rfl rfl (VL.op (R.lenS Try.runUnderlying41 rfl) (VL.gT rfl rfl (VL.op (R.eql rfl rfl) (VL.op (R.pickTB rfl rfl) (VL.op (R.asB rfl) (VL.nil (V.ret (fret1 (v := .bool _) rfl rfl rfl (⟨?_, E2.trans ec⟩))))))))))) (fun g6_1 => VL.gF rfl rfl (VL.gF rfl rfl (VL.op (R.pickFB rfl rfl) (VL.op (R.asB rfl) (VL.nil (V.ret (fret1 (v := .bool _) rfl rfl rfl (⟨?_, E2.trans ec⟩)))))))))))
      · rfl
      · cases g6_1
    · have h0 : (resF s recs L).2 = 0 := Classical.not_not.1 c36
      obtain ⟨hE, hF, _⟩ := resF_ok h0
      rw [hF] at hcq
      have hlen := hE.len
      have hcl : lf.length ≤ 4000 := by have h1 := congrArg List.length hcq; rw [List.length_map] at h1; omega
      have hV : ∀ k, k < lf.length → ValOk recs L (lf.getD k default).f := fun k hk => val_ok hE (fct_mem hcq hk)
      have hC := fctL_of (L := L) hfo (by omega) hc (by rw [hF]; exact hcq)
      have hR := hR.ext ec
      have hL := hL.ext ec
      have E3 := E2.trans ec
      have hsr := hsL.nr
      have hsm := hsL.nm
      refine V.region (VL.op (R.asI rfl) (VL.nil (V.block (?_))))
      refine V.loop [1, 2, 7, 8, 10] (fun k : Nat => [.slice ra recs.length rc, .slice la L.length lc, .bool true, .slice ac lf.length cc, .int .i64 k]) (fun k w' => k ≤ lf.length ∧ Ext wc w') (fun k => lf.length - k) 0 rfl ⟨by omega, Mod.refl _ _⟩ ?_
      rintro ρ k w3 ⟨hk, e3⟩
      have hC3 := hC.ext e3
      refine V.seq (V.seq (V.region (VL.op (R.mvI rfl) (VL.op (R.mvS rfl) (VL.op (R.lenS Try.runUnderlying41 rfl) (VL.op (R.lss rfl rfl) (VL.nil (V.condP rfl (fun c46 => V.skip (V.seq (V.block (V.seq (?_))))) (fun c46 => V.exit (V.seq (V.region (VL.op (R.mvB rfl) (VL.op (R.asB rfl) (VL.nil (V.ret (fret1 (v := .bool _) rfl rfl rfl (⟨rfl, E3.trans e3⟩)))))))))))))))))
      have hkl : k < lf.length := by omega
      have hVk := hV k hkl
      have hsh := hC.short _ (gmem hkl)
      obtain ⟨hs1, hs2⟩ := hsh
      refine V.region (VL.op (R.mvS rfl) (VL.op (R.mvI rfl) (VL.op (R.ixS Try.runUnderlying41 Try.sizeOf48 rfl rfl (by omega) (by omega) ((hC3.sl).some (i := k) (by omega))) (VL.op (R.ldA Try.isAgg48 Try.sizeOf48 rfl rfl ((show RowAt _ _ _ (encFct (lf.getD k default)) from (((hC3.sl).ext (Mod.refl _ _)).row (i := k) (by omega)))) rfl) (VL.allocSt (v := .agg (encFct (lf.getD k default)).toArray) Try.zeroValue48 Try.sizeOf48 rfl rfl rfl rfl rfl fun b10_4 w10_4 hb10_4 e10_4 hB10_4 => VL.nil (V.seq (V.seq (?_))))))))
      have hW := (hC3.each _ (gmem hkl)).ext e10_4
      have E4 := e3.trans e10_4
      obtain ⟨x, hx⟩ : ∃ x, x = lf.getD k default := ⟨_, rfl⟩
      rw [← hx] at hVk hs1 hs2 hB10_4 hW
      have hB := hB10_4
      refine V.region (VL.op (R.asI rfl) (VL.nil (V.block (?_))))
      refine V.loop [1, 2, 7, 8, 10, 11, 12] (fun j : Nat => [.slice ra recs.length rc, .slice la L.length lc, .bool true, .slice ac lf.length cc, .int .i64 k, .pointer (some ⟨b10_4, 0, none⟩), .int .i64 j]) (fun j w' => j ≤ x.f.frm.length ∧ Ext w10_4 w') (fun j => x.f.frm.length - j) 0 rfl ⟨by omega, Mod.refl _ _⟩ ?_
      rintro ρ2 j w4 ⟨hj, e4⟩
      have hB4 := hB.ext e4
      have hW4 := hW.ext e4
      have hR4 := hR.ext (E4.trans e4)
      have hL4 := hL.ext (E4.trans e4)
      refine V.seq (V.seq (V.region (VL.op (R.mvI rfl) (VL.op (R.fld' (o := 5) Try.runUnderlying48 rfl rfl Try.sizeOf34 rfl rfl) (VL.op (R.ld1 Try.isAgg34 rfl (((hB4.ext (Mod.refl _ _)).cell 5))) (VL.op (R.lenS Try.runUnderlying34 rfl) (VL.op (R.lss rfl rfl) (VL.nil (V.condP rfl (fun c57 => V.skip (V.seq (V.block (V.seq (?_))))) (fun c57 => V.exit (V.seq (?_))))))))))))
      · have hjl : j < x.f.frm.length := by omega
        obtain ⟨m0, m1, m2, m3, m4⟩ := hVk.frm _ (gmem hjl)
        have hrc := hR4.cell m1
        refine V.region (VL.op (R.fld' (o := 5) Try.runUnderlying48 rfl rfl Try.sizeOf34 rfl rfl) (VL.op (R.ld1 Try.isAgg34 rfl (((hB4.ext (Mod.refl _ _)).cell 5))) (VL.op (R.mvI rfl) (VL.op (R.ixS Try.runUnderlying34 Try.sizeOf3 rfl rfl (by omega) (by omega) ((hW4.frm).some (i := j) (by omega))) (VL.op (R.ld1 Try.isAgg3 rfl (((((hW4.frm).ext (Mod.refl _ _)).row (i := j) (by omega)).cell (i := 0) rfl))) (VL.op (R.asI rfl) (VL.nil (V.seq (V.regionQCut mixed 39 (by kernel_rfl) rfl (fun w' => Ext _ w') (Ext.drawn _) [65, 66, 67, 68, 69, 70, 71, 72, 73, 74, 75, 76, 77, 78, 79, 80, 81, 82, 83, 84, 85, 86, 87, 88, 89, 90, 91, 92, 93, 94, 95, 96, 97, 98, 99, 100, 101, 102, 103] 103 (.bool (false)) rfl (VQ.op (fun wq eq => R.mvI rfl) (VQ.op (fun wq eq => R.lss rfl rfl) (VQ.op (fun wq eq => R.mvB rfl) (VQ.orP rfl rfl (fun g15_2 => VQ.op (fun wq eq => R.mvI rfl) (VQ.gT rfl rfl (VQ.op (fun wq eq => R.mvS rfl) (VQ.gT rfl rfl (VQ.op (fun wq eq => R.lenS Try.runUnderlying33 rfl) (VQ.gT rfl rfl (VQ.op (fun wq eq => R.geq rfl rfl) (VQ.op (fun wq eq => R.pickFB rfl rfl) (VQ.op (fun wq eq => R.mvB rfl) (VQ.orP rfl rfl (fun g15_8 => VQ.op (fun wq eq => R.mvS rfl) (VQ.gT rfl rfl (VQ.op (fun wq eq => R.mvI rfl) (VQ.gT rfl rfl (VQ.op (fun wq eq => R.ixS Try.runUnderlying34 Try.sizeOf3 rfl rfl (by omega) (by omega) (hL4.some (i := (x.f.frm.getD j default).toNat) (by omega))) (VQ.gT rfl rfl (VQ.op (fun wq eq => R.ld1 Try.isAgg3 rfl ((((hL4.ext eq).row (i := (x.f.frm.getD j default).toNat) (by omega)).cell (i := 0) rfl))) (VQ.gT rfl rfl (VQ.op (fun wq eq => R.fld' (o := 1) Try.runUnderlying48 rfl rfl Try.sizeOf3 rfl rfl) (VQ.gT rfl rfl (VQ.op (fun wq eq => R.ld1 Try.isAgg3 rfl (((hB4.ext eq).cell 1))) (VQ.gT rfl rfl (VQ.op (fun wq eq => R.neq rfl rfl) (VQ.op (fun wq eq => R.pickFB rfl rfl) (VQ.op (fun wq eq => R.mvB rfl) (VQ.orP rfl rfl (fun g15_17 => VQ.op (fun wq eq => R.mvS rfl) (VQ.gT rfl rfl (VQ.op (fun wq eq => R.mvI rfl) (VQ.gT rfl rfl (VQ.op (fun wq eq => R.ixS Try.runUnderlying33 Try.sizeOf53 rfl rfl (by omega) (by omega) (hR4.sl.some (i := (x.f.frm.getD j default).toNat) (by omega))) (VQ.gT rfl rfl (VQ.op (fun wq eq => R.fld' (o := 3) Try.runUnderlying53 rfl rfl Try.sizeOf3 rfl rfl) (VQ.gT rfl rfl (VQ.op (fun wq eq => R.ld1 Try.isAgg3 rfl ((((hR4.sl.ext eq).row (i := (x.f.frm.getD j default).toNat) (by omega)).cell (i := 3) rfl))) (VQ.gT rfl rfl (VQ.op (fun wq eq => R.fld' (o := 0) Try.runUnderlying48 rfl rfl Try.sizeOf3 rfl rfl) (VQ.gT rfl rfl (VQ.op (fun wq eq => R.ld1 Try.isAgg3 rfl (((hB4.ext eq).cell 0))) (VQ.gT rfl rfl (VQ.op (fun wq eq => R.neq rfl rfl) (VQ.op (fun wq eq => R.pickFB rfl rfl) (VQ.op (fun wq eq => R.mvB rfl) (VQ.orP rfl rfl (fun g15_27 => VQ.op (fun wq eq => R.mvS rfl) (VQ.gT rfl rfl (VQ.op (fun wq eq => R.mvI rfl) (VQ.gT rfl rfl (VQ.op (fun wq eq => R.ixS Try.runUnderlying33 Try.sizeOf53 rfl rfl (by omega) (by omega) (hR4.sl.some (i := (x.f.frm.getD j default).toNat) (by omega))) (VQ.gT rfl rfl (VQ.op (fun wq eq => R.fld' (o := 5) Try.runUnderlying53 rfl rfl Try.sizeOf51 rfl rfl) (VQ.gT rfl rfl (VQ.op (fun wq eq => R.ld1 Try.isAgg51 rfl ((((hR4.sl.ext eq).row (i := (x.f.frm.getD j default).toNat) (by omega)).cell (i := 5) rfl))) (VQ.gT rfl rfl (VQ.op (fun wq eq => R.lenS Try.runUnderlying51 rfl) (VQ.gT rfl rfl (VQ.op (fun wq eq => R.fld' (o := 3) Try.runUnderlying48 rfl rfl Try.sizeOf37 rfl rfl) (VQ.gT rfl rfl (VQ.op (fun wq eq => R.ld1 Try.isAgg37 rfl (((hB4.ext eq).cell 3))) (VQ.gT rfl rfl (VQ.op (fun wq eq => R.lenS Try.runUnderlying37 rfl) (VQ.gT rfl rfl (VQ.op (fun wq eq => R.neq rfl rfl) (VQ.op (fun wq eq => R.pickFB rfl rfl) (VQ.nil (cutB rfl ?_)))))))))))))))))))))) (fun g15_27 => VQ.gF rfl rfl (VQ.gF rfl rfl (VQ.gF rfl rfl (VQ.gF rfl rfl (VQ.gF rfl rfl (VQ.gF rfl rfl (VQ.gF rfl rfl (VQ.gF rfl rfl (VQ.gF rfl rfl (VQ.op (fun wq eq => R.pickTB rfl rfl) (VQ.nil (cutB rfl ?_)))))))))))))))))))))))))))))) (fun g15_17 => VQ.gF rfl rfl (VQ.gF rfl rfl (VQ.gF rfl rfl (VQ.gF rfl rfl (VQ.gF rfl rfl (VQ.gF rfl rfl (VQ.gF rfl rfl (VQ.op (fun wq eq => R.pickTB rfl rfl) (VQ.op (fun wq eq => R.mvB rfl) (VQ.gF rfl rfl (VQ.gF rfl rfl (VQ.gF rfl rfl (VQ.gF rfl rfl (VQ.gF rfl rfl (VQ.gF rfl rfl (VQ.gF rfl rfl (VQ.gF rfl rfl (VQ.gF rfl rfl (VQ.gF rfl rfl (VQ.op (fun wq eq => R.pickTB rfl rfl) (VQ.nil (cutB rfl ?_)))))))))))))))))))))))))))))))))))))) (fun g15_8 => VQ.gF rfl rfl (VQ.gF rfl rfl (VQ.gF rfl rfl (VQ.gF rfl rfl (VQ.gF rfl rfl (VQ.gF rfl rfl (VQ.op (fun wq eq => R.pickTB rfl rfl) (VQ.op (fun wq eq => R.mvB rfl) (VQ.gF rfl rfl (VQ.gF rfl rfl (VQ.gF rfl rfl (VQ.gF rfl rfl (VQ.gF rfl rfl (VQ.gF rfl rfl (VQ.gF rfl rfl (VQ.gF rfl rfl (VQ.op (fun wq eq => R.pickTB rfl rfl) (VQ.op (fun wq eq => R.mvB rfl) (VQ.gF rfl rfl (VQ.gF rfl rfl (VQ.gF rfl rfl (VQ.gF rfl rfl (VQ.gF rfl rfl (VQ.gF rfl rfl (VQ.gF rfl rfl (VQ.gF rfl rfl (VQ.gF rfl rfl (VQ.gF rfl rfl (VQ.op (fun wq eq => R.pickTB rfl rfl) (VQ.nil (cutB rfl ?_))))))))))))))))))))))))))))))))))))))))) (fun g15_2 => VQ.gF rfl rfl (VQ.gF rfl rfl (VQ.gF rfl rfl (VQ.op (fun wq eq => R.pickTB rfl rfl) (VQ.op (fun wq eq => R.mvB rfl) (VQ.gF rfl rfl (VQ.gF rfl rfl (VQ.gF rfl rfl (VQ.gF rfl rfl (VQ.gF rfl rfl (VQ.gF rfl rfl (VQ.gF rfl rfl (VQ.op (fun wq eq => R.pickTB rfl rfl) (VQ.op (fun wq eq => R.mvB rfl) (VQ.gF rfl rfl (VQ.gF rfl rfl (VQ.gF rfl rfl (VQ.gF rfl rfl (VQ.gF rfl rfl (VQ.gF rfl rfl (VQ.gF rfl rfl (VQ.gF rfl rfl (VQ.op (fun wq eq => R.pickTB rfl rfl) (VQ.op (fun wq eq => R.mvB rfl) (VQ.gF rfl rfl (VQ.gF rfl rfl (VQ.gF rfl rfl (VQ.gF rfl rfl (VQ.gF rfl rfl (VQ.gF rfl rfl (VQ.gF rfl rfl (VQ.gF rfl rfl (VQ.gF rfl rfl (VQ.gF rfl rfl (VQ.op (fun wq eq => R.pickTB rfl rfl) (VQ.nil (cutB rfl ?_))))))))))))))))))))))))))))))))))))))))) (fun rg15 w15c e15c => V.cond rfl (fun c103 => V.seq (V.region (VL.op (R.asB rfl) (VL.nil (V.ret (fret1 (v := .bool _) rfl rfl rfl (?_))))))) (fun c103 => V.skip (V.region (VL.op (R.mvI rfl) (VL.op (R.add rfl rfl (by omega) (by omega)) (VL.op (R.asI rfl) (VL.nil (⟨j + 1, rfl, ⟨by omega, e4.trans e15c⟩, by omega⟩)))))))))))))))))
        · exact decide_eq_false (by omega)
        · exact absurd m3 g15_27
        · exact absurd m2 g15_17
        · omega
        · omega
        · cases c103
      · have hW4 := hW4
        refine V.region (VL.op (R.asI rfl) (VL.nil (V.block (?_))))
        refine V.loop [1, 2, 7, 8, 10, 11, 14] (fun c : Nat => [.slice ra recs.length rc, .slice la L.length lc, .bool true, .slice ac lf.length cc, .int .i64 k, .pointer (some ⟨b10_4, 0, none⟩), .int .i64 c]) (fun c w' => c ≤ x.f.row.length ∧ Ext w4 w') (fun c => x.f.row.length - c) 0 rfl ⟨by omega, Mod.refl _ _⟩ ?_
        rintro ρ3 c w5 ⟨hc5, e5⟩
        have hB5 := hB4.ext e5
        have hW5 := hW4.ext e5
        have hR5 := hR4.ext e5
        refine V.seq (V.seq (V.region (VL.op (R.mvI rfl) (VL.op (R.fld' (o := 3) Try.runUnderlying48 rfl rfl Try.sizeOf37 rfl rfl) (VL.op (R.ld1 Try.isAgg37 rfl (((hB5.ext (Mod.refl _ _)).cell 3))) (VL.op (R.lenS Try.runUnderlying37 rfl) (VL.op (R.lss rfl rfl) (VL.nil (V.condP rfl (fun c108 => V.skip (V.seq (V.block (V.seq (?_))))) (fun c108 => V.exit (V.region (VL.op (R.mvI rfl) (VL.op (R.add rfl rfl (by omega) (by omega)) (VL.op (R.asI rfl) (VL.nil (?_))))))))))))))))
        · have hcl : c < x.f.row.length := by omega
          refine V.region (VL.op (R.fld' (o := 3) Try.runUnderlying48 rfl rfl Try.sizeOf37 rfl rfl) (VL.op (R.ld1 Try.isAgg37 rfl (((hB5.ext (Mod.refl _ _)).cell 3))) (VL.op (R.mvI rfl) (VL.op (R.ixS Try.runUnderlying37 Try.sizeOf55 rfl rfl (by omega) (by omega) ((hW5.row).some (i := c) (by omega))) (VL.op (R.ldA Try.isAgg55 Try.sizeOf55 rfl rfl ((show RowAt _ _ _ (encVal (x.f.row.getD c default)) from (((hW5.row).ext (Mod.refl _ _)).row (i := c) (by omega)))) rfl) (VL.op (R.build Try.zeroValue55 Try.runUnderlying55 pl55 rfl) (VL.op (R.eqlK key55 Try.eqGuardType55 encV_agg (x.f.row.getD c default) ⟨0, 0, ⟨#[]⟩⟩ rfl rfl) (VL.op (R.asB rfl) (VL.nil (V.seq (V.seq (V.region (VL.op (R.asI rfl) (VL.nil (V.block (?_))))))))))))))))
          refine V.loop [1, 2, 7, 8, 10, 11, 14, 15, 16] (fun y : Nat × Bool => [.slice ra recs.length rc, .slice la L.length lc, .bool true, .slice ac lf.length cc, .int .i64 k, .pointer (some ⟨b10_4, 0, none⟩), .int .i64 c, .bool y.2, .int .i64 (y.1 : Nat)])
            (fun y w' => y.1 ≤ x.f.frm.length ∧ (y.2 = false → x.f.row.getD c default ≠ ⟨0, 0, ⟨#[]⟩⟩ ∧ ∀ i, i < y.1 → ((recs.getD (x.f.frm.getD i default).toNat default).cells.getD c default).val ≠ x.f.row.getD c default) ∧ Ext w5 w') (fun y => x.f.frm.length - y.1)
            (0, decide (x.f.row.getD c default = ⟨0, 0, ⟨#[]⟩⟩)) rfl ⟨by omega, fun h => ⟨of_decide_eq_false h, fun i hi => by omega⟩, Mod.refl _ _⟩ ?_
          rintro ρ4 ⟨j', fb⟩ w6 ⟨hj6, hfb, e6⟩
          dsimp only at hj6 hfb ⊢
          have hB6 := hB5.ext e6
          have hW6 := hW5.ext e6
          have hR6 := hR5.ext e6
          refine V.seq (V.seq (V.region (VL.op (R.mvI rfl) (VL.op (R.fld' (o := 5) Try.runUnderlying48 rfl rfl Try.sizeOf34 rfl rfl) (VL.op (R.ld1 Try.isAgg34 rfl (((hB6.ext (Mod.refl _ _)).cell 5))) (VL.op (R.lenS Try.runUnderlying34 rfl) (VL.op (R.lss rfl rfl) (VL.nil (V.condP rfl (fun c122 => V.skip (V.seq (V.block (?_)))) (fun c122 => V.exit (V.seq (?_))))))))))))
          · have hjl : j' < x.f.frm.length := by omega
            obtain ⟨m0, m1, m2, m3, m4⟩ := hVk.frm _ (gmem hjl)
            have hrc := hR6.cell m1
            refine V.regionQCut mixed 23 (by kernel_rfl) rfl (fun w' => Ext _ w') (Ext.drawn _) [15, 125, 126, 127, 128, 129, 130, 131, 132, 133, 134, 135, 136, 137, 138, 139, 140, 141, 142, 143, 144, 145, 146] 15 (.bool (fb || decide (((recs.getD (x.f.frm.getD j' default).toNat default).cells.getD c default).val = x.f.row.getD c default))) rfl (VQ.op (fun wq eq => R.mvB rfl) (VQ.op (fun wq eq => R.mvB rfl) (VQ.or rfl rfl (fun g24_1 => VQ.op (fun wq eq => R.mvS rfl) (VQ.gT rfl rfl (VQ.op (fun wq eq => R.fld' (o := 5) Try.runUnderlying48 rfl rfl Try.sizeOf34 rfl rfl) (VQ.gT rfl rfl (VQ.op (fun wq eq => R.ld1 Try.isAgg34 rfl (((hB6.ext eq).cell 5))) (VQ.gT rfl rfl (VQ.op (fun wq eq => R.mvI rfl) (VQ.gT rfl rfl (VQ.op (fun wq eq => R.ixS Try.runUnderlying34 Try.sizeOf3 rfl rfl (by omega) (by omega) (hW6.frm.some (i := j') (by omega))) (VQ.gT rfl rfl (VQ.op (fun wq eq => R.ld1 Try.isAgg3 rfl ((((hW6.frm.ext eq).row (i := j') (by omega)).cell (i := 0) rfl))) (VQ.gT rfl rfl (VQ.op (fun wq eq => R.ixS Try.runUnderlying33 Try.sizeOf53 rfl rfl (by omega) (by omega) (hR6.sl.some (i := (x.f.frm.getD j' default).toNat) (by omega))) (VQ.gT rfl rfl (VQ.op (fun wq eq => R.fld' (o := 5) Try.runUnderlying53 rfl rfl Try.sizeOf51 rfl rfl) (VQ.gT rfl rfl (VQ.op (fun wq eq => R.ld1 Try.isAgg51 rfl ((((hR6.sl.ext eq).row (i := (x.f.frm.getD j' default).toNat) (by omega)).cell (i := 5) rfl))) (VQ.gT rfl rfl (VQ.op (fun wq eq => R.mvI rfl) (VQ.gT rfl rfl (VQ.op (fun wq eq => R.ixS Try.runUnderlying51 Try.sizeOf57 rfl rfl (by omega) (by omega) (hrc.some (i := c) (by omega))) (VQ.gT rfl rfl (VQ.op (fun wq eq => R.fld' (o := 0) Try.runUnderlying57 rfl rfl Try.sizeOf55 rfl rfl) (VQ.gT rfl rfl (VQ.op (fun wq eq => R.ldA Try.isAgg55 Try.sizeOf55 rfl rfl ((show RowAt _ _ _ (encVal ((recs.getD (x.f.frm.getD j' default).toNat default).cells.getD c default).val) from (((hrc.ext eq).row (i := c) (by omega)).sub 0 3 rfl))) rfl) (VQ.gT rfl rfl (VQ.op (fun wq eq => R.fld' (o := 3) Try.runUnderlying48 rfl rfl Try.sizeOf37 rfl rfl) (VQ.gT rfl rfl (VQ.op (fun wq eq => R.ld1 Try.isAgg37 rfl (((hB6.ext eq).cell 3))) (VQ.gT rfl rfl (VQ.op (fun wq eq => R.mvI rfl) (VQ.gT rfl rfl (VQ.op (fun wq eq => R.ixS Try.runUnderlying37 Try.sizeOf55 rfl rfl (by omega) (by omega) (hW6.row.some (i := c) (by omega))) (VQ.gT rfl rfl (VQ.op (fun wq eq => R.ldA Try.isAgg55 Try.sizeOf55 rfl rfl ((show RowAt _ _ _ (encVal (x.f.row.getD c default)) from ((hW6.row.ext eq).row (i := c) (by omega)))) rfl) (VQ.gT rfl rfl (VQ.op (fun wq eq => R.eqlK key55 Try.eqGuardType55 encV_agg ((recs.getD (x.f.frm.getD j' default).toNat default).cells.getD c default).val (x.f.row.getD c default) rfl rfl) (VQ.op (fun wq eq => R.pickFB rfl rfl) (VQ.op (fun wq eq => R.asB rfl) (VQ.nil (cutB rfl ?_))))))))))))))))))))))))))))))))))))))))) (fun g24_1 => VQ.gF rfl rfl (VQ.gF rfl rfl (VQ.gF rfl rfl (VQ.gF rfl rfl (VQ.gF rfl rfl (VQ.gF rfl rfl (VQ.gF rfl rfl (VQ.gF rfl rfl (VQ.gF rfl rfl (VQ.gF rfl rfl (VQ.gF rfl rfl (VQ.gF rfl rfl (VQ.gF rfl rfl (VQ.gF rfl rfl (VQ.gF rfl rfl (VQ.gF rfl rfl (VQ.gF rfl rfl (VQ.gF rfl rfl (VQ.op (fun wq eq => R.pickTB rfl rfl) (VQ.op (fun wq eq => R.asB rfl) (VQ.nil (cutB rfl ?_))))))))))))))))))))))))) (fun rg24 w24c e24c => V.region (VL.op (R.mvI rfl) (VL.op (R.add rfl rfl (by omega) (by omega)) (VL.op (R.asI rfl) (VL.nil (⟨(j' + 1, fb || decide (((recs.getD (x.f.frm.getD j' default).toNat default).cells.getD c default).val = x.f.row.getD c default)), rfl, ⟨by dsimp only; omega, ?_, e6.trans e24c⟩, by dsimp only; omega⟩))))))
            · rw [g24_1]; rfl
            · rw [g24_1]; rfl
            · dsimp only
              intro hn
              rw [Bool.or_eq_false_iff] at hn
              obtain ⟨h1, h2⟩ := hfb hn.1
              refine ⟨h1, fun i hi => ?_⟩
              by_cases e : i = j'
              · subst e; exact of_decide_eq_false hn.2
              · exact h2 i (by omega)
          · refine V.region (VL.op (R.mvB rfl) (VL.op (R.not rfl) (VL.nil (V.cond rfl (fun c148 => V.seq (V.region (VL.op (R.asB rfl) (VL.nil (V.ret (fret1 (v := .bool _) rfl rfl rfl (?_))))))) (fun c148 => V.skip (V.region (VL.op (R.mvI rfl) (VL.op (R.add rfl rfl (by omega) (by omega)) (VL.op (R.asI rfl) (VL.nil (⟨c + 1, rfl, ⟨by omega, e5.trans (e6.trans (Mod.refl _ _))⟩, by omega⟩)))))))))))
            have hfb0 : fb = false := by simpa using c148
            obtain ⟨h1, h2⟩ := hfb hfb0
            rcases hVk.val c hcl with h | ⟨m, hm, h⟩
            · exact absurd h h1
            · obtain ⟨i, hi, rfl⟩ := List.getElem_of_mem hm
              have := h2 i (by omega)
              rw [show x.f.frm.getD i default = x.f.frm[i] by simp [List.getD, hi]] at this
              exact absurd h this
        · exact ⟨k + 1, rfl, ⟨by omega, E4.trans (e4.trans e5)⟩, by omega⟩
  · refine V.region (VL.op (R.mvB rfl) (VL.op (R.asB rfl) (VL.nil (V.ret (fret1 (v := .bool _) rfl rfl rfl (⟨rfl, e1.trans (e1_0.trans e2)⟩))))))
end Go.Proofs.Ytckihgamnmmbnaa
