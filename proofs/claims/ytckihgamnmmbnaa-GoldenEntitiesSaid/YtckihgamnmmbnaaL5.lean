/- Golden: the third law (entities). -/
import Derived.Test.YtckihgamnmmbnaaM3
namespace Go.Proofs.Ytckihgamnmmbnaa
open Go.Vc Go.Sort
set_option maxRecDepth 100000 in
set_option maxHeartbeats 8000000 in
theorem law5_spec (s : Set_) (recs : List Rec) (L : List Int) (ra la : Option Addr) (rc lc : Nat) (w : World) (hi : InOk s recs) (hl : L.length ≤ 9223372036854775807) (hS : SetW w s) (hR : RecsW w ra recs) (hL : IntSl w la L) :
    RetsP Try.prog 5 #[.agg (encSet s).toArray, .slice ra recs.length rc, .slice la L.length lc] w (.bool true) := by
  refine enter (args := [_, _, _]) Try.func5 rfl Try.ntmps5 (by kernel_rfl) rfl ?_
  refine V.seq (V.region (VL.box (v := .agg _) rfl fun b1 w1 hb1 e1 hX1 => VL.op (R.asB rfl) (VL.nil (V.seq (V.region (VL.callP Try.call9 rfl (head_spec _) fun w1_0 e1_0 => VL.op (R.asB rfl) (VL.nil (V.seq (V.seq (V.region (VL.op (R.ldA Try.isAgg32 Try.sizeOf32 rfl rfl ((show RowAt _ _ _ (encSet s) from (hX1.ext e1_0).rowAt 0 7)) rfl) (VL.op (R.mvS rfl) (VL.callX Try.call10 rfl (few_spec s recs ra rc 40 _ (hS.ext (e1.trans e1_0)) (hR.ext (e1.trans e1_0)) hi.nt hi.na hi.nr) fun few w2 hf e2 => VL.op (R.not rfl) (VL.op (R.mvB rfl) (VL.or rfl rfl (fun g2_4 => VL.op (R.mvS rfl) (VL.gT rfl rfl (VL.op (R.lenS Try.runUnderlying34 rfl) (VL.gT rfl rfl (VL.op (R.gtr rfl rfl) (VL.op (R.pickFB rfl rfl) (VL.nil (V.condP rfl (fun c26 => V.seq (?_)) (fun c26 => V.skip (V.seq (?_))))))))))) (fun g2_4 => VL.gF rfl rfl (VL.gF rfl rfl (VL.op (R.pickTB rfl rfl) (VL.nil (V.condT rfl (V.seq (?_))))))))))))))))))))))
  · refine V.region (VL.op (R.mvB rfl) (VL.op (R.asB rfl) (VL.nil (V.ret (fret1 (v := .bool _) rfl rfl rfl (⟨rfl, e1.trans (e1_0.trans e2)⟩))))))
  · have hfo := hf (by simpa using g2_4)
    have hsL := hfo.small (L := L) (by omega)
    have E2 := e1.trans (e1_0.trans e2)
    have hS := hS.ext E2
    have hR := hR.ext E2
    have hL := hL.ext E2
    have hX := hX1.ext (e1_0.trans e2)
    refine V.region (VL.op (R.ldA Try.isAgg32 Try.sizeOf32 rfl rfl ((show RowAt _ _ _ (encSet s) from (hX.ext (Mod.refl _ _)).rowAt 0 7)) rfl) (VL.op (R.mvS rfl) (VL.op (R.mvS rfl) (VL.callX Try.call13 rfl (gfacts_spec s recs L ra la rc lc _ hsL (hS.ext (Mod.refl _ _)) (hR.ext (Mod.refl _ _)) (hL.ext (Mod.refl _ _))) fun xc wc hc ec => VL.op (R.mvT rfl) (VL.op (R.extr rfl rfl) (VL.op (R.extr rfl rfl) (VL.op (R.asS rfl) (VL.op (R.asI rfl) (VL.nil (V.seq (V.seq (?_))))))))))))
    obtain ⟨lf, ac, cc⟩ := xc
    obtain ⟨hc, hcq⟩ := hc
    dsimp only at hc hcq ⊢
    refine V.region (VL.op (R.mvI rfl) (VL.op (R.neq rfl rfl) (VL.nil (V.condP rfl (fun c36 => V.seq (?_)) (fun c36 => V.skip (V.seq (?_)))))))
    · refine V.region (VL.op (R.mvB rfl) (VL.op (R.asB rfl) (VL.nil (V.ret (fret1 (v := .bool _) rfl rfl rfl (⟨rfl, E2.trans ec⟩))))))
    · have h0 : (resF s recs L).2 = 0 := Classical.not_not.1 c36
      obtain ⟨hE, hF, _⟩ := resF_ok h0
      rw [hF] at hcq
      have hlen := hE.len
      have hfl : lf.length = (allF s recs L).length := by have h1 := congrArg List.length hcq; rw [List.length_map] at h1; exact h1
      have hcl : lf.length ≤ 4000 := by omega
      have hC := fctL_of (L := L) hfo (by omega) hc (by rw [hF]; exact hcq)
      have hR := hR.ext ec
      have hL := hL.ext ec
      have hS := hS.ext ec
      have hX := hX.ext ec
      have E3 := E2.trans ec
      have hsr := hsL.nr
      have hsm := hsL.nm
      refine V.region (VL.op (R.asI rfl) (VL.nil (V.seq (V.seq (V.region (VL.op (R.asI rfl) (VL.nil (V.block (?_)))))))))
      refine V.loop [1, 2, 3, 7, 8, 10, 11] (fun k : Nat => [.slice ra recs.length rc, .slice la L.length lc, .pointer (some ⟨b1, 0, none⟩), .bool true, .slice ac lf.length cc, .int .i64 (cntF (allF s recs L) k : Nat), .int .i64 k]) (fun k w' => k ≤ lf.length ∧ Ext wc w') (fun k => lf.length - k) 0 rfl ⟨by omega, Mod.refl _ _⟩ ?_
      rintro ρ k w3 ⟨hk, e3⟩
      have hC3 := hC.ext e3
      have hcn := cntF_le (allF s recs L) k
      refine V.seq (V.seq (V.region (VL.op (R.mvI rfl) (VL.op (R.mvS rfl) (VL.op (R.lenS Try.runUnderlying41 rfl) (VL.op (R.lss rfl rfl) (VL.nil (V.condP rfl (fun c41 => V.skip (V.seq (V.block (V.seq (?_))))) (fun c41 => V.exit (V.seq (V.seq (?_))))))))))))
      · have hkl : k < lf.length := by omega
        obtain ⟨hO1, hO2⟩ := all_order hE (i := k) (by omega)
        have hcs := cntF_succ (allF s recs L) (i := k) (by omega)
        have hhd := all_head' hE (i := k) (by omega)
        have ek := fct_at hcq hkl
        have hk1 : ((k : Int) - 1).toNat = k - 1 := by omega
        have ek1 := fct_at hcq (k := k - 1) (by omega)
        rw [← ek, ← ek1] at hO1 hO2
        rw [← ek] at hcs hhd
        rw [← hk1] at hO1 hO2
        unfold FLt at hO1
        refine V.regionQCut mixed 45 (by kernel_rfl) rfl (fun w' => Ext _ w') (Ext.drawn _) [12, 44, 45, 46, 47, 48, 49, 50, 51, 52, 53, 54, 55, 56, 57, 58, 59, 60, 61, 62, 63, 64, 65, 66, 67, 68, 69, 70, 71, 72, 73, 74, 75, 76, 77, 78, 79, 80, 81, 82, 83, 84, 85, 86, 87] 12 (.bool (decide ((lf.getD k default).f.variant = 0))) rfl (VQ.op (fun wq eq => R.mvI rfl) (VQ.op (fun wq eq => R.eql rfl rfl) (VQ.op (fun wq eq => R.mvB rfl) (VQ.orP rfl rfl (fun g11_2 => VQ.op (fun wq eq => R.mvS rfl) (VQ.gT rfl rfl (VQ.op (fun wq eq => R.mvI rfl) (VQ.gT rfl rfl (VQ.op (fun wq eq => R.ixS Try.runUnderlying41 Try.sizeOf48 rfl rfl (by omega) (by omega) ((hC3.sl).some (i := k) (by omega))) (VQ.gT rfl rfl (VQ.op (fun wq eq => R.fld' (o := 0) Try.runUnderlying48 rfl rfl Try.sizeOf3 rfl rfl) (VQ.gT rfl rfl (VQ.op (fun wq eq => R.ld1 Try.isAgg3 rfl (((((hC3.sl).ext eq).row (i := k) (by omega)).cell (i := 0) rfl))) (VQ.gT rfl rfl (VQ.op (fun wq eq => R.mvS rfl) (VQ.gT rfl rfl (VQ.op (fun wq eq => R.mvI rfl) (VQ.gT rfl rfl (VQ.op (fun wq eq => R.sub rfl rfl (by omega) (by omega)) (VQ.gT rfl rfl (VQ.op (fun wq eq => R.ixS Try.runUnderlying41 Try.sizeOf48 rfl rfl (by omega) (by omega) ((hC3.sl).some (i := ((k : Int) - 1).toNat) (by omega))) (VQ.gT rfl rfl (VQ.op (fun wq eq => R.fld' (o := 0) Try.runUnderlying48 rfl rfl Try.sizeOf3 rfl rfl) (VQ.gT rfl rfl (VQ.op (fun wq eq => R.ld1 Try.isAgg3 rfl (((((hC3.sl).ext eq).row (i := ((k : Int) - 1).toNat) (by omega)).cell (i := 0) rfl))) (VQ.gT rfl rfl (VQ.op (fun wq eq => R.gtr rfl rfl) (VQ.op (fun wq eq => R.pickFB rfl rfl) (VQ.op (fun wq eq => R.mvB rfl) (VQ.orP rfl rfl (fun g11_16 => VQ.op (fun wq eq => R.mvS rfl) (VQ.gT rfl rfl (VQ.op (fun wq eq => R.mvI rfl) (VQ.gT rfl rfl (VQ.op (fun wq eq => R.ixS Try.runUnderlying41 Try.sizeOf48 rfl rfl (by omega) (by omega) ((hC3.sl).some (i := k) (by omega))) (VQ.gT rfl rfl (VQ.op (fun wq eq => R.fld' (o := 0) Try.runUnderlying48 rfl rfl Try.sizeOf3 rfl rfl) (VQ.gT rfl rfl (VQ.op (fun wq eq => R.ld1 Try.isAgg3 rfl (((((hC3.sl).ext eq).row (i := k) (by omega)).cell (i := 0) rfl))) (VQ.gT rfl rfl (VQ.op (fun wq eq => R.mvS rfl) (VQ.gT rfl rfl (VQ.op (fun wq eq => R.mvI rfl) (VQ.gT rfl rfl (VQ.op (fun wq eq => R.sub rfl rfl (by omega) (by omega)) (VQ.gT rfl rfl (VQ.op (fun wq eq => R.ixS Try.runUnderlying41 Try.sizeOf48 rfl rfl (by omega) (by omega) ((hC3.sl).some (i := ((k : Int) - 1).toNat) (by omega))) (VQ.gT rfl rfl (VQ.op (fun wq eq => R.fld' (o := 0) Try.runUnderlying48 rfl rfl Try.sizeOf3 rfl rfl) (VQ.gT rfl rfl (VQ.op (fun wq eq => R.ld1 Try.isAgg3 rfl (((((hC3.sl).ext eq).row (i := ((k : Int) - 1).toNat) (by omega)).cell (i := 0) rfl))) (VQ.gT rfl rfl (VQ.op (fun wq eq => R.eql rfl rfl) (VQ.gT rfl rfl (VQ.op (fun wq eq => R.mvB rfl) (VQ.andP rfl rfl (fun g11_29 => VQ.op (fun wq eq => R.mvS rfl) (VQ.gT rfl rfl (VQ.op (fun wq eq => R.mvI rfl) (VQ.gT rfl rfl (VQ.op (fun wq eq => R.ixS Try.runUnderlying41 Try.sizeOf48 rfl rfl (by omega) (by omega) ((hC3.sl).some (i := k) (by omega))) (VQ.gT rfl rfl (VQ.op (fun wq eq => R.fld' (o := 1) Try.runUnderlying48 rfl rfl Try.sizeOf3 rfl rfl) (VQ.gT rfl rfl (VQ.op (fun wq eq => R.ld1 Try.isAgg3 rfl (((((hC3.sl).ext eq).row (i := k) (by omega)).cell (i := 1) rfl))) (VQ.gT rfl rfl (VQ.op (fun wq eq => R.mvS rfl) (VQ.gT rfl rfl (VQ.op (fun wq eq => R.mvI rfl) (VQ.gT rfl rfl (VQ.op (fun wq eq => R.sub rfl rfl (by omega) (by omega)) (VQ.gT rfl rfl (VQ.op (fun wq eq => R.ixS Try.runUnderlying41 Try.sizeOf48 rfl rfl (by omega) (by omega) ((hC3.sl).some (i := ((k : Int) - 1).toNat) (by omega))) (VQ.gT rfl rfl (VQ.op (fun wq eq => R.fld' (o := 1) Try.runUnderlying48 rfl rfl Try.sizeOf3 rfl rfl) (VQ.gT rfl rfl (VQ.op (fun wq eq => R.ld1 Try.isAgg3 rfl (((((hC3.sl).ext eq).row (i := ((k : Int) - 1).toNat) (by omega)).cell (i := 1) rfl))) (VQ.gT rfl rfl (VQ.op (fun wq eq => R.gtr rfl rfl) (VQ.gT rfl rfl (VQ.op (fun wq eq => R.pickTB rfl rfl) (VQ.op (fun wq eq => R.pickFB rfl rfl) (VQ.op (fun wq eq => R.asB rfl) (VQ.nil (cutB rfl ?_))))))))))))))))))))))))))))) (fun g11_29 => VQ.gF rfl rfl (VQ.gF rfl rfl (VQ.gF rfl rfl (VQ.gF rfl rfl (VQ.gF rfl rfl (VQ.gF rfl rfl (VQ.gF rfl rfl (VQ.gF rfl rfl (VQ.gF rfl rfl (VQ.gF rfl rfl (VQ.gF rfl rfl (VQ.gT rfl rfl (VQ.op (fun wq eq => R.pickFB rfl rfl) (VQ.op (fun wq eq => R.pickFB rfl rfl) (VQ.op (fun wq eq => R.asB rfl) (VQ.nil (cutB rfl ?_))))))))))))))))))))))))))))))))))))))))))) (fun g11_16 => VQ.gF rfl rfl (VQ.gF rfl rfl (VQ.gF rfl rfl (VQ.gF rfl rfl (VQ.gF rfl rfl (VQ.gF rfl rfl (VQ.gF rfl rfl (VQ.gF rfl rfl (VQ.gF rfl rfl (VQ.gF rfl rfl (VQ.gF rfl rfl (VQ.gF rfl rfl (VQ.gU rfl rfl (VQ.gU rfl rfl (VQ.gU rfl rfl (VQ.gU rfl rfl (VQ.gU rfl rfl (VQ.gU rfl rfl (VQ.gU rfl rfl (VQ.gU rfl rfl (VQ.gU rfl rfl (VQ.gU rfl rfl (VQ.gU rfl rfl (VQ.gU rfl rfl (VQ.gF rfl rfl (VQ.op (fun wq eq => R.pickTB rfl rfl) (VQ.op (fun wq eq => R.asB rfl) (VQ.nil (cutB rfl ?_))))))))))))))))))))))))))))))))))))))))))))))))))))))) (fun g11_2 => VQ.gF rfl rfl (VQ.gF rfl rfl (VQ.gF rfl rfl (VQ.gF rfl rfl (VQ.gF rfl rfl (VQ.gF rfl rfl (VQ.gF rfl rfl (VQ.gF rfl rfl (VQ.gF rfl rfl (VQ.gF rfl rfl (VQ.gF rfl rfl (VQ.op (fun wq eq => R.pickTB rfl rfl) (VQ.op (fun wq eq => R.mvB rfl) (VQ.gF rfl rfl (VQ.gF rfl rfl (VQ.gF rfl rfl (VQ.gF rfl rfl (VQ.gF rfl rfl (VQ.gF rfl rfl (VQ.gF rfl rfl (VQ.gF rfl rfl (VQ.gF rfl rfl (VQ.gF rfl rfl (VQ.gF rfl rfl (VQ.gF rfl rfl (VQ.gF rfl rfl (VQ.gU rfl rfl (VQ.gU rfl rfl (VQ.gU rfl rfl (VQ.gU rfl rfl (VQ.gU rfl rfl (VQ.gU rfl rfl (VQ.gU rfl rfl (VQ.gU rfl rfl (VQ.gU rfl rfl (VQ.gU rfl rfl (VQ.gU rfl rfl (VQ.gU rfl rfl (VQ.gF rfl rfl (VQ.op (fun wq eq => R.pickTB rfl rfl) (VQ.op (fun wq eq => R.asB rfl) (VQ.nil (cutB rfl ?_))))))))))))))))))))))))))))))))))))))))))))))) (fun rg11 w11c e11c => V.seq (V.regionQCut mixed 31 (by kernel_rfl) rfl (fun w' => Ext _ w') (Ext.drawn _) [13, 88, 89, 90, 91, 92, 93, 94, 95, 96, 97, 98, 99, 100, 101, 102, 103, 104, 105, 106, 107, 108, 109, 110, 111, 112, 113, 114, 115, 116, 117] 13 (.bool (decide ((lf.getD k default).f.variant ≠ 0))) rfl (VQ.op (fun wq eq => R.mvI rfl) (VQ.op (fun wq eq => R.gtr rfl rfl) (VQ.op (fun wq eq => R.mvB rfl) (VQ.andP rfl rfl (fun g12_2 => VQ.op (fun wq eq => R.mvS rfl) (VQ.gT rfl rfl (VQ.op (fun wq eq => R.mvI rfl) (VQ.gT rfl rfl (VQ.op (fun wq eq => R.ixS Try.runUnderlying41 Try.sizeOf48 rfl rfl (by omega) (by omega) ((hC3.sl).some (i := k) (by omega))) (VQ.gT rfl rfl (VQ.op (fun wq eq => R.fld' (o := 0) Try.runUnderlying48 rfl rfl Try.sizeOf3 rfl rfl) (VQ.gT rfl rfl (VQ.op (fun wq eq => R.ld1 Try.isAgg3 rfl (((((hC3.sl).ext (e11c.trans eq)).row (i := k) (by omega)).cell (i := 0) rfl))) (VQ.gT rfl rfl (VQ.op (fun wq eq => R.mvS rfl) (VQ.gT rfl rfl (VQ.op (fun wq eq => R.mvI rfl) (VQ.gT rfl rfl (VQ.op (fun wq eq => R.sub rfl rfl (by omega) (by omega)) (VQ.gT rfl rfl (VQ.op (fun wq eq => R.ixS Try.runUnderlying41 Try.sizeOf48 rfl rfl (by omega) (by omega) ((hC3.sl).some (i := ((k : Int) - 1).toNat) (by omega))) (VQ.gT rfl rfl (VQ.op (fun wq eq => R.fld' (o := 0) Try.runUnderlying48 rfl rfl Try.sizeOf3 rfl rfl) (VQ.gT rfl rfl (VQ.op (fun wq eq => R.ld1 Try.isAgg3 rfl (((((hC3.sl).ext (e11c.trans eq)).row (i := ((k : Int) - 1).toNat) (by omega)).cell (i := 0) rfl))) (VQ.gT rfl rfl (VQ.op (fun wq eq => R.eql rfl rfl) (VQ.op (fun wq eq => R.pickTB rfl rfl) (VQ.op (fun wq eq => R.mvB rfl) (VQ.andP rfl rfl (fun g12_16 => VQ.op (fun wq eq => R.mvS rfl) (VQ.gT rfl rfl (VQ.op (fun wq eq => R.mvI rfl) (VQ.gT rfl rfl (VQ.op (fun wq eq => R.ixS Try.runUnderlying41 Try.sizeOf48 rfl rfl (by omega) (by omega) ((hC3.sl).some (i := k) (by omega))) (VQ.gT rfl rfl (VQ.op (fun wq eq => R.fld' (o := 1) Try.runUnderlying48 rfl rfl Try.sizeOf3 rfl rfl) (VQ.gT rfl rfl (VQ.op (fun wq eq => R.ld1 Try.isAgg3 rfl (((((hC3.sl).ext (e11c.trans eq)).row (i := k) (by omega)).cell (i := 1) rfl))) (VQ.gT rfl rfl (VQ.op (fun wq eq => R.mvS rfl) (VQ.gT rfl rfl (VQ.op (fun wq eq => R.mvI rfl) (VQ.gT rfl rfl (VQ.op (fun wq eq => R.sub rfl rfl (by omega) (by omega)) (VQ.gT rfl rfl (VQ.op (fun wq eq => R.ixS Try.runUnderlying41 Try.sizeOf48 rfl rfl (by omega) (by omega) ((hC3.sl).some (i := ((k : Int) - 1).toNat) (by omega))) (VQ.gT rfl rfl (VQ.op (fun wq eq => R.fld' (o := 1) Try.runUnderlying48 rfl rfl Try.sizeOf3 rfl rfl) (VQ.gT rfl rfl (VQ.op (fun wq eq => R.ld1 Try.isAgg3 rfl (((((hC3.sl).ext (e11c.trans eq)).row (i := ((k : Int) - 1).toNat) (by omega)).cell (i := 1) rfl))) (VQ.gT rfl rfl (VQ.op (fun wq eq => R.eql rfl rfl) (VQ.op (fun wq eq => R.pickTB rfl rfl) (VQ.op (fun wq eq => R.asB rfl) (VQ.nil (cutB rfl ?_))))))))))))))))))))))))))) (fun g12_16 => VQ.gF rfl rfl (VQ.gF rfl rfl (VQ.gF rfl rfl (VQ.gF rfl rfl (VQ.gF rfl rfl (VQ.gF rfl rfl (VQ.gF rfl rfl (VQ.gF rfl rfl (VQ.gF rfl rfl (VQ.gF rfl rfl (VQ.gF rfl rfl (VQ.op (fun wq eq => R.pickFB rfl rfl) (VQ.op (fun wq eq => R.asB rfl) (VQ.nil (cutB rfl ?_))))))))))))))))))))))))))))))))))))))))) (fun g12_2 => VQ.gF rfl rfl (VQ.gF rfl rfl (VQ.gF rfl rfl (VQ.gF rfl rfl (VQ.gF rfl rfl (VQ.gF rfl rfl (VQ.gF rfl rfl (VQ.gF rfl rfl (VQ.gF rfl rfl (VQ.gF rfl rfl (VQ.gF rfl rfl (VQ.op (fun wq eq => R.pickFB rfl rfl) (VQ.op (fun wq eq => R.mvB rfl) (VQ.gF rfl rfl (VQ.gF rfl rfl (VQ.gF rfl rfl (VQ.gF rfl rfl (VQ.gF rfl rfl (VQ.gF rfl rfl (VQ.gF rfl rfl (VQ.gF rfl rfl (VQ.gF rfl rfl (VQ.gF rfl rfl (VQ.gF rfl rfl (VQ.gF rfl rfl (VQ.op (fun wq eq => R.pickFB rfl rfl) (VQ.op (fun wq eq => R.asB rfl) (VQ.nil (cutB rfl ?_))))))))))))))))))))))))))))))))) (fun rg12 w12c e12c => V.seq (V.seq (V.regionCut [118, 119, 120, 121, 122, 123, 124, 125, 126, 127, 128, 129, 130, 131, 132, 133] 133 (.bool (false)) (fun w' => Ext _ w') rfl (VL.op (R.mvB rfl) (VL.op (R.notD rfl) (VL.op (R.mvB rfl) (VL.andP rfl rfl (fun g13_2 => VL.op (R.mvB rfl) (VL.gT rfl rfl (VL.op (R.notD rfl) (VL.op (R.pickTB rfl rfl) (VL.op (R.mvB rfl) (VL.orP rfl rfl (fun g13_6 => VL.op (R.mvB rfl) (VL.gT rfl rfl (VL.op (R.mvS rfl) (VL.gT rfl rfl (VL.op (R.mvI rfl) (VL.gT rfl rfl (VL.op (R.ixS Try.runUnderlying41 Try.sizeOf48 rfl rfl (by omega) (by omega) ((hC3.sl).some (i := k) (by omega))) (VL.gT rfl rfl (VL.op (R.fld' (o := 2) Try.runUnderlying48 rfl rfl Try.sizeOf3 rfl rfl) (VL.gT rfl rfl (VL.op (R.ld1 Try.isAgg3 rfl (((((hC3.sl).ext (e11c.trans e12c)).row (i := k) (by omega)).cell (i := 2) rfl))) (VL.gT rfl rfl (VL.op (R.eql rfl rfl) (VL.gT rfl rfl (VL.op (R.neqB eqB4 rfl rfl) (VL.op (R.pickFB rfl rfl) (VL.nil ⟨rfl, cutB rfl ?_, Mod.refl _ _⟩))))))))))))))))) (fun g13_6 => VL.gF rfl rfl (VL.gF rfl rfl (VL.gF rfl rfl (VL.gF rfl rfl (VL.gF rfl rfl (VL.gF rfl rfl (VL.gF rfl rfl (VL.op (R.pickTB rfl rfl) (VL.nil ⟨rfl, cutB rfl ?_, Mod.refl _ _⟩))))))))))))))) (fun g13_2 => VL.gF rfl rfl (VL.op (R.pickFB rfl rfl) (VL.op (R.mvB rfl) (VL.gT rfl rfl (VL.op (R.mvB rfl) (VL.gT rfl rfl (VL.op (R.mvS rfl) (VL.gT rfl rfl (VL.op (R.mvI rfl) (VL.gT rfl rfl (VL.op (R.ixS Try.runUnderlying41 Try.sizeOf48 rfl rfl (by omega) (by omega) ((hC3.sl).some (i := k) (by omega))) (VL.gT rfl rfl (VL.op (R.fld' (o := 2) Try.runUnderlying48 rfl rfl Try.sizeOf3 rfl rfl) (VL.gT rfl rfl (VL.op (R.ld1 Try.isAgg3 rfl (((((hC3.sl).ext (e11c.trans e12c)).row (i := k) (by omega)).cell (i := 2) rfl))) (VL.gT rfl rfl (VL.op (R.eql rfl rfl) (VL.gT rfl rfl (VL.op (R.neqB eqB4 rfl rfl) (VL.op (R.pickFB rfl rfl) (VL.nil ⟨rfl, cutB rfl ?_, Mod.refl _ _⟩))))))))))))))))))))))))) (fun rg13 w13c e13c => V.cond rfl (fun c133 => V.seq (V.region (VL.op (R.asB rfl) (VL.nil (V.ret (fret1 (v := .bool _) rfl rfl rfl (?_))))))) (fun c133 => V.skip (V.seq (V.seq (?_))))))))))
        · exact decide_eq_decide.2 (by omega)
        · exact (decide_eq_false (by omega)).symm
        · exact (decide_eq_true (by omega)).symm
        · exact (decide_eq_true (by omega)).symm
        · exact decide_eq_decide.2 (by omega)
        · exact (decide_eq_false (by omega)).symm
        · exact (decide_eq_false (by omega)).symm
        · simp
        · omega
        · simp
        · cases c133
        · refine V.region (VL.op (R.mvB rfl) (VL.op (R.notD rfl) (VL.nil (V.condP rfl (fun c135 => V.exit (V.region (VL.op (R.mvI rfl) (VL.op (R.add rfl rfl (by omega) (by omega)) (VL.op (R.asI rfl) (VL.nil (?_))))))) (fun c135 => V.skip (V.seq (?_)))))))
          · exact ⟨k + 1, by rw [hcs, if_neg c135, Nat.add_zero]; rfl, ⟨by omega, e3.trans (e11c.trans (e12c.trans e13c))⟩, by omega⟩
          · have hv : (lf.getD k default).f.variant = 0 := Classical.not_not.1 c135
            obtain ⟨hmb, hrow, hcost, hfrm⟩ := hhd hv
            obtain ⟨x, hx⟩ : ∃ x, x = lf.getD k default := ⟨_, rfl⟩
            have E13 := e11c.trans (e12c.trans e13c)
            have hC13 := hC3.ext E13
            have hW := hC13.each _ (gmem hkl)
            have hsh := hC13.short _ (gmem hkl)
            rw [← hx] at hmb hrow hcost hfrm hW hsh
            have hrs := hsh.1
            have hS13 := hS.ext (e3.trans E13)
            have hR13 := hR.ext (e3.trans E13)
            have hL13 := hL.ext (e3.trans E13)
            have hX13 := hX.ext (e3.trans E13)
            have hfl2 : x.f.frm.length ≤ 60 := by rw [hfrm]; have := grpF_len L x.f.ent L.length; omega
            have hsx := hfo.small (L := x.f.frm) hfl2
            refine V.region (VL.op (R.mvI rfl) (VL.op (R.add rfl rfl (by omega) (by omega)) (VL.op (R.asI rfl) (VL.nil (V.seq (?_))))))
            refine V.regionS mixed 12 (by kernel_rfl) rfl (fun us => VS.op (fun wq eq => R.ldA Try.isAgg32 Try.sizeOf32 rfl rfl ((show RowAt _ _ _ (encSet s) from (hX13.ext eq).rowAt 0 7)) rfl) (VS.op (fun wq eq => R.mvS rfl) (VS.op (fun wq eq => R.mvS rfl) (VS.op (fun wq eq => R.mvI rfl) (VS.op (fun wq eq => R.ixS Try.runUnderlying41 Try.sizeOf48 rfl rfl (by omega) (by omega) ((hC13.sl).some (i := k) (by omega))) (VS.op (fun wq eq => R.fld' (o := 5) Try.runUnderlying48 rfl rfl Try.sizeOf34 rfl rfl) (VS.op (fun wq eq => R.ld1 Try.isAgg34 rfl (((((hC13.sl).ext eq).row (i := k) (by omega)).cell (i := 5) rfl))) (VS.callX (fun u w' => ∃ y : Option Addr × Nat, u = .tuple #[.slice y.1 x.f.row.length y.2, .int .i64 0] ∧ OwnT encVal 3 55 w13c.heap.size w' y.1 y.2 x.f.row) (fun u a b _ ⟨y, hy, hO⟩ eb => ⟨y, hy, hO.ext eb⟩) Try.call11 rfl (fun wq eq hq => by
                have hb := gbase_spec s recs x.f.frm ra x.fa rc x.fc wq hsx (hS13.ext eq) (hR13.ext eq) (hW.frm.ext eq)
                simp only [if_pos hmb, hrow] at hb
                rw [← hx]
                refine Rets.mono hb ?_
                rintro u w' ⟨y, rfl, ho, he⟩
                exact ⟨⟨y, rfl, ho.weaken eq.size⟩, he⟩) (VS.spec (fun u w' => ∃ y : Option Addr × Nat, u = .tuple #[.slice y.1 x.f.row.length y.2, .int .i64 0] ∧ OwnT encVal 3 55 w13c.heap.size w' y.1 y.2 x.f.row) (fun u a b _ ⟨y, hy, hO⟩ eb => ⟨y, hy, hO.ext eb⟩) rfl (fun wq eq hq => by
                obtain ⟨y, hy, hO⟩ := hq 7 (by kernel_rfl)
                exact yieldsR_run (R.mv hy) ⟨⟨y, rfl, hO⟩, Mod.refl _ _⟩) (VS.spec (fun u w' => ∃ y : Option Addr × Nat, u = .slice y.1 x.f.row.length y.2 ∧ OwnT encVal 3 55 w13c.heap.size w' y.1 y.2 x.f.row) (fun u a b _ ⟨y, hy, hO⟩ eb => ⟨y, hy, hO.ext eb⟩) rfl (fun wq eq hq => by
                obtain ⟨y, hy, hO⟩ := hq 8 (by kernel_rfl)
                exact yieldsR_run (R.extr hy rfl) ⟨⟨y, rfl, hO⟩, Mod.refl _ _⟩) (VS.spec (fun u _ => u = .int .i64 0) (fun u a b _ h eb => h) rfl (fun wq eq hq => by
                obtain ⟨y, hy, hO⟩ := hq 8 (by kernel_rfl)
                exact yieldsR_run (R.extr hy rfl) ⟨rfl, Mod.refl _ _⟩) (VS.spec (fun u w' => ∃ y : Option Addr × Nat, u = .slice y.1 x.f.row.length y.2 ∧ OwnT encVal 3 55 w13c.heap.size w' y.1 y.2 x.f.row) (fun u a b _ ⟨y, hy, hO⟩ eb => ⟨y, hy, hO.ext eb⟩) rfl (fun wq eq hq => by
                obtain ⟨y, hy, hO⟩ := hq 9 (by kernel_rfl)
                exact yieldsR_run (R.as hy) ⟨⟨y, rfl, hO⟩, Mod.refl _ _⟩) (VS.nil (fun w14 e14 h14 => ?_)))))))))))))) rfl
            obtain ⟨y, hy, hO⟩ := h14 11
            have hz : us 10 = .int .i64 0 := h14 10
            rw [hy, hz]
            refine VL.op (R.asI rfl) (VL.nil (V.seq (?_)))
            have hC14 := hC13.ext e14
            have hW14 := hW.ext e14
            have hL14 := hL13.ext e14
            refine V.regionS mixed 33 (by kernel_rfl) rfl (fun us2 => VS.op (fun wq eq => R.mvI rfl) (VS.op (fun wq eq => R.lit (R.neq rfl rfl) ((by decide))) (VS.op (fun wq eq => R.mvB rfl) (VS.gT rfl rfl (VS.op (fun wq eq => R.mvS rfl) (VS.gT rfl rfl (VS.op (fun wq eq => R.mvI rfl) (VS.gT rfl rfl (VS.op (fun wq eq => R.ixS Try.runUnderlying41 Try.sizeOf48 rfl rfl (by omega) (by omega) ((hC14.sl).some (i := k) (by omega))) (VS.gT rfl rfl (VS.op (fun wq eq => R.fld' (o := 4) Try.runUnderlying48 rfl rfl Try.sizeOf3 rfl rfl) (VS.gT rfl rfl (VS.op (fun wq eq => R.ld1 Try.isAgg3 rfl (((((hC14.sl).ext eq).row (i := k) (by omega)).cell (i := 4) rfl))) (VS.gT rfl rfl (VS.op (fun wq eq => R.lit (R.neq rfl rfl) ((by rw [← hx, hcost]; rfl))) (VS.op (fun wq eq => R.pickFB rfl rfl) (VS.op (fun wq eq => R.mvB rfl) (VS.gT rfl rfl (VS.op (fun wq eq => R.mvS rfl) (VS.gT rfl rfl (VS.op (fun wq eq => R.mvS rfl) (VS.gT rfl rfl (VS.op (fun wq eq => R.mvI rfl) (VS.gT rfl rfl (VS.op (fun wq eq => R.ixS Try.runUnderlying41 Try.sizeOf48 rfl rfl (by omega) (by omega) ((hC14.sl).some (i := k) (by omega))) (VS.gT rfl rfl (VS.op (fun wq eq => R.fld' (o := 3) Try.runUnderlying48 rfl rfl Try.sizeOf37 rfl rfl) (VS.gT rfl rfl (VS.op (fun wq eq => R.ld1 Try.isAgg37 rfl (((((hC14.sl).ext eq).row (i := k) (by omega)).cell (i := 3) rfl))) (VS.gT rfl rfl (VS.callP Try.call15 rfl (fun wq eq => (by rw [← hx]; have h := rows_spec y.1 x.ra y.2 x.rc x.f.row x.f.row wq (by omega) (by omega) (hO.sl.ext eq) (hW14.row.ext eq); rw [decide_eq_true rfl] at h; exact h)) (VS.gT rfl rfl (VS.op (fun wq eq => R.not rfl) (VS.op (fun wq eq => R.pickFB rfl rfl) (VS.op (fun wq eq => R.mvB rfl) (VS.gT rfl rfl (VS.op (fun wq eq => R.mvS rfl) (VS.gT rfl rfl (VS.op (fun wq eq => R.mvI rfl) (VS.gT rfl rfl (VS.op (fun wq eq => R.ixS Try.runUnderlying41 Try.sizeOf48 rfl rfl (by omega) (by omega) ((hC14.sl).some (i := k) (by omega))) (VS.gT rfl rfl (VS.op (fun wq eq => R.fld' (o := 5) Try.runUnderlying48 rfl rfl Try.sizeOf34 rfl rfl) (VS.gT rfl rfl (VS.op (fun wq eq => R.ld1 Try.isAgg34 rfl (((((hC14.sl).ext eq).row (i := k) (by omega)).cell (i := 5) rfl))) (VS.gT rfl rfl (VS.op (fun wq eq => R.mvS rfl) (VS.gT rfl rfl (VS.op (fun wq eq => R.mvS rfl) (VS.gT rfl rfl (VS.op (fun wq eq => R.mvI rfl) (VS.gT rfl rfl (VS.op (fun wq eq => R.ixS Try.runUnderlying41 Try.sizeOf48 rfl rfl (by omega) (by omega) ((hC14.sl).some (i := k) (by omega))) (VS.gT rfl rfl (VS.op (fun wq eq => R.fld' (o := 1) Try.runUnderlying48 rfl rfl Try.sizeOf3 rfl rfl) (VS.gT rfl rfl (VS.op (fun wq eq => R.ld1 Try.isAgg3 rfl (((((hC14.sl).ext eq).row (i := k) (by omega)).cell (i := 1) rfl))) (VS.gT rfl rfl (VS.callX (fun u w' => ∃ z : Option Addr × Nat, u = .slice z.1 x.f.frm.length z.2 ∧ OwnT encI 1 3 w14.heap.size w' z.1 z.2 x.f.frm) (fun u a b _ ⟨z, hz, hO⟩ eb => ⟨z, hz, hO.ext eb⟩) Try.call18 rfl (fun wq eq hq => by
                have hm := rmem_spec L x.f.ent la lc wq (by omega) (hL14.ext eq)
                rw [← hfrm] at hm
                rw [← hx]
                refine Rets.mono hm ?_
                rintro u w' ⟨z, rfl, ho, he⟩
                exact ⟨⟨z, rfl, ho.weaken eq.size⟩, he⟩) (VS.nil (fun w15 e15 h15 => ?_))))))))))))))))))))))))))))))))))))))))))))))))))))))))))))) rfl
            obtain ⟨z, hz, hO2⟩ := h15 32
            rw [hz]
            refine VL.gT rfl rfl (VL.callP Try.call17 rfl ((by rw [← hx]; have h := ints_spec x.fa z.1 x.fc z.2 x.f.frm x.f.frm w15 (by omega) (by omega) (hW14.frm.ext e15) hO2.sl; rw [decide_eq_true rfl] at h; exact h)) fun w18_33 e18_33 => VL.gT rfl rfl (VL.op (R.not rfl) (VL.op (R.pickFB rfl rfl) (VL.nil (V.condF rfl (V.skip (V.region (VL.op (R.mvI rfl) (VL.op (R.add rfl rfl (by omega) (by omega)) (VL.op (R.asI rfl) (VL.nil (⟨k + 1, by rw [hcs, ← hx, if_pos (hx ▸ hv)]; rfl, ⟨by omega, e3.trans (E13.trans (e14.trans (e15.trans e18_33)))⟩, by omega⟩))))))))))))
      · have hkl : k = lf.length := by omega
        subst hkl
        rw [hfl, cnt_all hE]
        have hL3 := hL.ext e3
        refine V.region (VL.op (R.asI rfl) (VL.nil (V.block (?_))))
        refine V.loop [2, 7, 10, 16] (fun j : Nat => [.slice la L.length lc, .bool true, .int .i64 (((headsF L L.length).length : Int) - (headsF L j).length), .int .i64 j]) (fun j w' => j ≤ L.length ∧ Ext w3 w') (fun j => L.length - j) 0 rfl ⟨by omega, Mod.refl _ _⟩ ?_
        rintro ρ2 j w4 ⟨hj, e4⟩
        have hL4 := hL3.ext e4
        have hh1 := headsF_len L j
        have hh2 := headsF_len L L.length
        have hhs := headsF_succ L j
        refine V.seq (V.seq (V.region (VL.op (R.mvI rfl) (VL.op (R.mvS rfl) (VL.op (R.lenS Try.runUnderlying34 rfl) (VL.op (R.lss rfl rfl) (VL.nil (V.condP rfl (fun c188 => V.skip (V.seq (V.block (V.seq (?_))))) (fun c188 => V.exit (V.seq (?_)))))))))))
        · have hjl : j < L.length := by omega
          have hh3 := headsF_len L (j + 1)
          refine V.region (VL.op (R.mvS rfl) (VL.op (R.mvI rfl) (VL.op (R.ixS Try.runUnderlying34 Try.sizeOf3 rfl rfl (by omega) (by omega) ((hL4).some (i := j) (by omega))) (VL.op (R.ld1 Try.isAgg3 rfl (((((hL4).ext (Mod.refl _ _)).row (i := j) (by omega)).cell (i := 0) rfl))) (VL.op (R.mvI rfl) (VL.op (R.eql rfl rfl) (VL.nil (V.condP rfl (fun c196 => V.region (VL.op (R.mvI rfl) (VL.op (R.sub rfl rfl (by omega) (by omega)) (VL.op (R.asI rfl) (VL.nil (V.region (VL.op (R.mvI rfl) (VL.op (R.add rfl rfl (by omega) (by omega)) (VL.op (R.asI rfl) (VL.nil (?_))))))))))) (fun c196 => V.skip (V.region (VL.op (R.mvI rfl) (VL.op (R.add rfl rfl (by omega) (by omega)) (VL.op (R.asI rfl) (VL.nil (?_)))))))))))))))
          · have e : (((headsF L L.length).length : Int) - (headsF L (j + 1)).length) = ((headsF L L.length).length : Int) - (headsF L j).length - 1 := by
              rw [hhs, if_pos c196, List.length_append, List.length_singleton]; omega
            exact ⟨j + 1, by rw [e]; rfl, ⟨by omega, e4⟩, by omega⟩
          · rw [if_neg c196, List.append_nil] at hhs
            exact ⟨j + 1, by rw [hhs]; rfl, ⟨by omega, e4⟩, by omega⟩
        · have hjl : j = L.length := by omega
          subst hjl
          refine V.region (VL.op (R.mvB rfl) (VL.op (R.mvB rfl) (VL.and rfl rfl (fun g25_1 => VL.op (R.mvI rfl) (VL.gT rfl rfl (VL.op (R.eql rfl rfl) (VL.op (R.pickTB rfl rfl) (VL.op (R.asB rfl) (VL.nil (V.ret (fret1 (v := .bool _) rfl rfl rfl (⟨?_, E3.trans (e3.trans e4)⟩))))))))) (fun g25_1 => VL.gF rfl rfl (VL.op (R.pickFB rfl rfl) (VL.op (R.asB rfl) (VL.nil (V.ret (fret1 (v := .bool _) rfl rfl rfl (⟨?_, E3.trans (e3.trans e4)⟩))))))))))
          · rw [decide_eq_true (by omega)]
          · cases g25_1
  · refine V.region (VL.op (R.mvB rfl) (VL.op (R.asB rfl) (VL.nil (V.ret (fret1 (v := .bool _) rfl rfl rfl (⟨rfl, e1.trans (e1_0.trans e2)⟩))))))
end Go.Proofs.Ytckihgamnmmbnaa
