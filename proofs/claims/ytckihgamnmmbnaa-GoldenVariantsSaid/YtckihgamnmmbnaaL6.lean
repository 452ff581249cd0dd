/- Golden: the fourth law (variants). -/
import Derived.Test.YtckihgamnmmbnaaM4
namespace Go.Proofs.Ytckihgamnmmbnaa
open Go.Vc Go.Sort
set_option maxRecDepth 100000 in
set_option maxHeartbeats 8000000 in
theorem law6_spec (s : Set_) (recs : List Rec) (L : List Int) (ra la : Option Addr) (rc lc : Nat) (w : World) (hi : InOk s recs) (hl : L.length ≤ 9223372036854775807) (hS : SetW w s) (hR : RecsW w ra recs) (hL : IntSl w la L) :
    RetsP Try.prog 6 #[.agg (encSet s).toArray, .slice ra recs.length rc, .slice la L.length lc] w (.bool true) := by
  refine enter (args := [_, _, _]) Try.func6 rfl Try.ntmps6 (by kernel_rfl) rfl ?_
  refine V.seq (V.region (VL.box (v := .agg _) rfl fun b1 w1 hb1 e1 hX1 => VL.op (R.asB rfl) (VL.nil (V.seq (V.region (VL.callP Try.call9 rfl (head_spec _) fun w1_0 e1_0 => VL.op (R.asB rfl) (VL.nil (V.seq (V.seq (V.region (VL.op (R.ldA Try.isAgg32 Try.sizeOf32 rfl rfl ((show RowAt _ _ _ (encSet s) from (hX1.ext e1_0).rowAt 0 7)) rfl) (VL.op (R.mvS rfl) (VL.callX Try.call10 rfl (few_spec s recs ra rc 40 _ (hS.ext (e1.trans e1_0)) (hR.ext (e1.trans e1_0)) hi.nt hi.na hi.nr) fun few w2 hf e2 => VL.op (R.not rfl) (VL.op (R.mvB rfl) (VL.or rfl rfl (fun g2_4 => VL.op (R.mvS rfl) (VL.gT rfl rfl (VL.op (R.lenS Try.runUnderlying34 rfl) (VL.gT rfl rfl (VL.op (R.gtr rfl rfl) (VL.op (R.pickFB rfl rfl) (VL.nil (V.condP rfl (fun c24 => V.seq (?_)) (fun c24 => V.skip (V.seq (?_))))))))))) (fun g2_4 => VL.gF rfl rfl (VL.gF rfl rfl (VL.op (R.pickTB rfl rfl) (VL.nil (V.condT rfl (V.seq (?_))))))))))))))))))))))
  · refine V.region (VL.op (R.mvB rfl) (VL.op (R.asB rfl) (VL.nil (V.ret (fret1 (v := .bool _) rfl rfl rfl (⟨rfl, e1.trans (e1_0.trans e2)⟩))))))
  · have hfo := hf (by simpa using g2_4)
    have hsL := hfo.small (L := L) (by omega)
    have E2 := e1.trans (e1_0.trans e2)
    have hS := hS.ext E2
    have hR := hR.ext E2
    have hL := hL.ext E2
    have hX := hX1.ext (e1_0.trans e2)
    refine V.region (VL.op (R.ldA Try.isAgg32 Try.sizeOf32 rfl rfl ((show RowAt _ _ _ (encSet s) from (hX.ext (Mod.refl _ _)).rowAt 0 7)) rfl) (VL.op (R.mvS rfl) (VL.op (R.mvS rfl) (VL.callX Try.call13 rfl (gfacts_spec s recs L ra la rc lc _ hsL (hS.ext (Mod.refl _ _)) (hR.ext (Mod.refl _ _)) (hL.ext (Mod.refl _ _))) fun xc wc hc ec => VL.op (R.mvT rfl) (VL.op (R.extr rfl rfl) (VL.op (R.extr rfl rfl) (VL.op (R.asS rfl) (VL.op (R.asI rfl) (VL.nil (V.seq (V.seq (?_))))))))))))
    obtain ⟨lf, ac, cc⟩ := xc
    obtain ⟨hc, hcq⟩ := hc
    dsimp only at hc hcq ⊢
    refine V.region (VL.op (R.mvI rfl) (VL.op (R.neq rfl rfl) (VL.nil (V.condP rfl (fun c34 => V.seq (?_)) (fun c34 => V.skip (V.seq (?_)))))))
    · refine V.region (VL.op (R.mvB rfl) (VL.op (R.asB rfl) (VL.nil (V.ret (fret1 (v := .bool _) rfl rfl rfl (⟨rfl, E2.trans ec⟩))))))
    · have h0 : (resF s recs L).2 = 0 := Classical.not_not.1 c34
      obtain ⟨hE, hF, _⟩ := resF_ok h0
      rw [hF] at hcq
      have hlen := hE.len
      have hfl : lf.length = (allF s recs L).length := by have h1 := congrArg List.length hcq; rw [List.length_map] at h1; exact h1
      have hcl : lf.length ≤ 4000 := by omega
      have hC := fctL_of (L := L) hfo (by omega) hc (by rw [hF]; exact hcq)
      have hR := hR.ext ec
      have hL := hL.ext ec
      have hS := hS.ext ec
      have hX := hX.ext ec
      have E3 := E2.trans ec
      have hsr := hsL.nr
      have hsm := hsL.nm
      refine V.region (VL.op (R.asI rfl) (VL.nil (V.seq (V.seq (V.region (VL.op (R.asI rfl) (VL.nil (V.block (?_)))))))))
      refine V.loop [7, 8, 10, 11] (fun y : Nat × Nat => [.bool true, .slice ac lf.length cc, .int .i64 (y.2 : Nat), .int .i64 (y.1 : Nat)]) (fun y w' => y.1 ≤ lf.length ∧ BaseAt s recs L y.1 y.2 ∧ Ext wc w') (fun y => lf.length - y.1) (0, 0) rfl ⟨by omega, BaseAt.zero, Mod.refl _ _⟩ ?_
      rintro ρ ⟨k, b⟩ w3 ⟨hk, hB, e3⟩
      dsimp only at hk hB e3 ⊢
      have hC3 := hC.ext e3
      refine V.seq (V.seq (V.region (VL.op (R.mvI rfl) (VL.op (R.mvS rfl) (VL.op (R.lenS Try.runUnderlying41 rfl) (VL.op (R.lss rfl rfl) (VL.nil (V.condP rfl (fun c39 => V.skip (V.seq (V.block (V.seq (V.seq (?_)))))) (fun c39 => V.exit (V.seq (V.region (VL.op (R.mvB rfl) (VL.op (R.asB rfl) (VL.nil (V.ret (fret1 (v := .bool _) rfl rfl rfl (⟨rfl, E3.trans e3⟩)))))))))))))))))
      have hkl : k < lf.length := by omega
      have ek := fct_at hcq hkl
      refine V.region (VL.op (R.mvS rfl) (VL.op (R.mvI rfl) (VL.op (R.ixS Try.runUnderlying41 Try.sizeOf48 rfl rfl (by omega) (by omega) ((hC3.sl).some (i := k) (by omega))) (VL.op (R.fld' (o := 2) Try.runUnderlying48 rfl rfl Try.sizeOf3 rfl rfl) (VL.op (R.ld1 Try.isAgg3 rfl (((((hC3.sl).ext (Mod.refl _ _)).row (i := k) (by omega)).cell (i := 2) rfl))) (VL.op (R.eql rfl rfl) (VL.nil (V.condP rfl (fun c47 => V.region (VL.op (R.mvI rfl) (VL.op (R.asI rfl) (VL.nil (V.seq (V.seq (?_))))))) (fun c47 => V.skip (V.seq (V.seq (?_))))))))))))
      · have hv0 : ((allF s recs L).getD k default).variant = 0 := by rw [← ek]; exact c47
        refine V.region (VL.op (R.mvS rfl) (VL.op (R.mvI rfl) (VL.op (R.ixS Try.runUnderlying41 Try.sizeOf48 rfl rfl (by omega) (by omega) ((hC3.sl).some (i := k) (by omega))) (VL.op (R.fld' (o := 2) Try.runUnderlying48 rfl rfl Try.sizeOf3 rfl rfl) (VL.op (R.ld1 Try.isAgg3 rfl (((((hC3.sl).ext (Mod.refl _ _)).row (i := k) (by omega)).cell (i := 2) rfl))) (VL.op (R.leq rfl rfl) (VL.nil (V.condP rfl (fun c54 => V.exit (V.region (VL.op (R.mvI rfl) (VL.op (R.add rfl rfl (by omega) (by omega)) (VL.op (R.asI rfl) (VL.nil (⟨(k + 1, k), rfl, ⟨by dsimp only; omega, BaseAt.new hE hv0, e3⟩, by dsimp only; omega⟩))))))) (fun c54 => V.skip (V.seq (?_)))))))))))
        omega
      · have hv0 : ((allF s recs L).getD k default).variant ≠ 0 := by rw [← ek]; exact c47
        have hBn := hB.old hE hv0
        refine V.region (VL.op (R.mvS rfl) (VL.op (R.mvI rfl) (VL.op (R.ixS Try.runUnderlying41 Try.sizeOf48 rfl rfl (by omega) (by omega) ((hC3.sl).some (i := k) (by omega))) (VL.op (R.fld' (o := 2) Try.runUnderlying48 rfl rfl Try.sizeOf3 rfl rfl) (VL.op (R.ld1 Try.isAgg3 rfl (((((hC3.sl).ext (Mod.refl _ _)).row (i := k) (by omega)).cell (i := 2) rfl))) (VL.op (R.leq rfl rfl) (VL.nil (V.condP rfl (fun c54 => V.exit (V.region (VL.op (R.mvI rfl) (VL.op (R.add rfl rfl (by omega) (by omega)) (VL.op (R.asI rfl) (VL.nil (⟨(k + 1, b), rfl, ⟨by dsimp only; omega, hBn, e3⟩, by dsimp only; omega⟩))))))) (fun c54 => V.skip (V.seq (?_)))))))))))
        obtain ⟨v1, v2, v3, v4, v5, ⟨c0, v, v6, v7, v8⟩, v9⟩ := var_at hE (i := k) (b := b) (by omega) (by rw [← ek]; omega) hB
        have hbl : b < lf.length := by omega
        have eb := fct_at hcq hbl
        rw [← ek, ← eb] at v5 v7
        rw [← eb] at v6 v8
        rw [← ek] at v2 v4
        have hWk := hC3.each _ (gmem hkl)
        have hWb := hC3.each _ (gmem hbl)
        have hsk := hC3.short _ (gmem hkl)
        have hsb := hC3.short _ (gmem hbl)
        have hs1 := hsk.1
        have hs2 := hsk.2
        have hs3 := hsb.1
        have hs4 := hsb.2
        have hrl : (lf.getD k default).f.row.length = (lf.getD b default).f.row.length := by rw [v7, List.length_set]
        refine V.region (VL.op (R.asI rfl) (VL.nil (V.seq (V.seq (?_)))))
        refine V.regionQCut mixed 54 (by kernel_rfl) rfl (fun w' => Ext _ w') (Ext.drawn _) [55, 56, 57, 58, 59, 60, 61, 62, 63, 64, 65, 66, 67, 68, 69, 70, 71, 72, 73, 74, 75, 76, 77, 78, 79, 80, 81, 82, 83, 84, 85, 86, 87, 88, 89, 90, 91, 92, 93, 94, 95, 96, 97, 98, 99, 100, 101, 102, 103, 104, 105, 106, 107, 108] 108 (.bool (false)) rfl (VQ.op (fun wq eq => R.mvS rfl) (VQ.op (fun wq eq => R.mvI rfl) (VQ.op (fun wq eq => R.ixS Try.runUnderlying41 Try.sizeOf48 rfl rfl (by omega) (by omega) ((hC3.sl).some (i := k) (by omega))) (VQ.op (fun wq eq => R.fld' (o := 3) Try.runUnderlying48 rfl rfl Try.sizeOf37 rfl rfl) (VQ.op (fun wq eq => R.ld1 Try.isAgg37 rfl (((((hC3.sl).ext eq).row (i := k) (by omega)).cell (i := 3) rfl))) (VQ.op (fun wq eq => R.lenS Try.runUnderlying37 rfl) (VQ.op (fun wq eq => R.mvS rfl) (VQ.op (fun wq eq => R.mvI rfl) (VQ.op (fun wq eq => R.ixS Try.runUnderlying41 Try.sizeOf48 rfl rfl (by omega) (by omega) ((hC3.sl).some (i := b) (by omega))) (VQ.op (fun wq eq => R.fld' (o := 3) Try.runUnderlying48 rfl rfl Try.sizeOf37 rfl rfl) (VQ.op (fun wq eq => R.ld1 Try.isAgg37 rfl (((((hC3.sl).ext eq).row (i := b) (by omega)).cell (i := 3) rfl))) (VQ.op (fun wq eq => R.lenS Try.runUnderlying37 rfl) (VQ.op (fun wq eq => R.neq rfl rfl) (VQ.op (fun wq eq => R.mvB rfl) (VQ.orP rfl rfl (fun g15_13 => VQ.op (fun wq eq => R.mvS rfl) (VQ.gT rfl rfl (VQ.op (fun wq eq => R.mvI rfl) (VQ.gT rfl rfl (VQ.op (fun wq eq => R.ixS Try.runUnderlying41 Try.sizeOf48 rfl rfl (by omega) (by omega) ((hC3.sl).some (i := k) (by omega))) (VQ.gT rfl rfl (VQ.op (fun wq eq => R.fld' (o := 2) Try.runUnderlying48 rfl rfl Try.sizeOf3 rfl rfl) (VQ.gT rfl rfl (VQ.op (fun wq eq => R.ld1 Try.isAgg3 rfl (((((hC3.sl).ext eq).row (i := k) (by omega)).cell (i := 2) rfl))) (VQ.gT rfl rfl (VQ.op (fun wq eq => R.mvI rfl) (VQ.gT rfl rfl (VQ.op (fun wq eq => R.mvI rfl) (VQ.gT rfl rfl (VQ.op (fun wq eq => R.sub rfl rfl (by omega) (by omega)) (VQ.gT rfl rfl (VQ.op (fun wq eq => R.neq rfl rfl) (VQ.op (fun wq eq => R.pickFB rfl rfl) (VQ.op (fun wq eq => R.mvB rfl) (VQ.orP rfl rfl (fun g15_24 => VQ.op (fun wq eq => R.mvS rfl) (VQ.gT rfl rfl (VQ.op (fun wq eq => R.mvI rfl) (VQ.gT rfl rfl (VQ.op (fun wq eq => R.ixS Try.runUnderlying41 Try.sizeOf48 rfl rfl (by omega) (by omega) ((hC3.sl).some (i := k) (by omega))) (VQ.gT rfl rfl (VQ.op (fun wq eq => R.fld' (o := 2) Try.runUnderlying48 rfl rfl Try.sizeOf3 rfl rfl) (VQ.gT rfl rfl (VQ.op (fun wq eq => R.ld1 Try.isAgg3 rfl (((((hC3.sl).ext eq).row (i := k) (by omega)).cell (i := 2) rfl))) (VQ.gT rfl rfl (VQ.op (fun wq eq => R.gtr rfl rfl) (VQ.op (fun wq eq => R.pickFB rfl rfl) (VQ.op (fun wq eq => R.mvB rfl) (VQ.orP rfl rfl (fun g15_32 => VQ.op (fun wq eq => R.mvS rfl) (VQ.gT rfl rfl (VQ.op (fun wq eq => R.mvI rfl) (VQ.gT rfl rfl (VQ.op (fun wq eq => R.ixS Try.runUnderlying41 Try.sizeOf48 rfl rfl (by omega) (by omega) ((hC3.sl).some (i := k) (by omega))) (VQ.gT rfl rfl (VQ.op (fun wq eq => R.fld' (o := 4) Try.runUnderlying48 rfl rfl Try.sizeOf3 rfl rfl) (VQ.gT rfl rfl (VQ.op (fun wq eq => R.ld1 Try.isAgg3 rfl (((((hC3.sl).ext eq).row (i := k) (by omega)).cell (i := 4) rfl))) (VQ.gT rfl rfl (VQ.op (fun wq eq => R.neq rfl rfl) (VQ.op (fun wq eq => R.pickFB rfl rfl) (VQ.op (fun wq eq => R.mvB rfl) (VQ.orP rfl rfl (fun g15_40 => VQ.op (fun wq eq => R.mvS rfl) (VQ.gT rfl rfl (VQ.op (fun wq eq => R.mvI rfl) (VQ.gT rfl rfl (VQ.op (fun wq eq => R.ixS Try.runUnderlying41 Try.sizeOf48 rfl rfl (by omega) (by omega) ((hC3.sl).some (i := k) (by omega))) (VQ.gT rfl rfl (VQ.op (fun wq eq => R.fld' (o := 5) Try.runUnderlying48 rfl rfl Try.sizeOf34 rfl rfl) (VQ.gT rfl rfl (VQ.op (fun wq eq => R.ld1 Try.isAgg34 rfl (((((hC3.sl).ext eq).row (i := k) (by omega)).cell (i := 5) rfl))) (VQ.gT rfl rfl (VQ.op (fun wq eq => R.mvS rfl) (VQ.gT rfl rfl (VQ.op (fun wq eq => R.mvI rfl) (VQ.gT rfl rfl (VQ.op (fun wq eq => R.ixS Try.runUnderlying41 Try.sizeOf48 rfl rfl (by omega) (by omega) ((hC3.sl).some (i := b) (by omega))) (VQ.gT rfl rfl (VQ.op (fun wq eq => R.fld' (o := 5) Try.runUnderlying48 rfl rfl Try.sizeOf34 rfl rfl) (VQ.gT rfl rfl (VQ.op (fun wq eq => R.ld1 Try.isAgg34 rfl (((((hC3.sl).ext eq).row (i := b) (by omega)).cell (i := 5) rfl))) (VQ.gT rfl rfl (VQ.callP (fun _ _ h k => Mod.trans h k) Try.call17 rfl (fun wq eq => (by have h := ints_spec (lf.getD k default).fa (lf.getD b default).fa (lf.getD k default).fc (lf.getD b default).fc (lf.getD k default).f.frm (lf.getD b default).f.frm wq (by omega) (by omega) (hWk.frm.ext eq) (hWb.frm.ext eq); rw [decide_eq_true v5] at h; exact h)) (VQ.gT rfl rfl (VQ.op (fun wq eq => R.not rfl) (VQ.op (fun wq eq => R.pickFB rfl rfl) (VQ.nil (cutB rfl ?_)))))))))))))))))))))))))) (fun g15_40 => VQ.gF rfl rfl (VQ.gF rfl rfl (VQ.gF rfl rfl (VQ.gF rfl rfl (VQ.gF rfl rfl (VQ.gF rfl rfl (VQ.gF rfl rfl (VQ.gF rfl rfl (VQ.gF rfl rfl (VQ.gF rfl rfl (VQ.gF rfl rfl (VQ.op (fun wq eq => R.pickTB rfl rfl) (VQ.nil (cutB rfl ?_)))))))))))))))))))))))))))) (fun g15_32 => VQ.gF rfl rfl (VQ.gF rfl rfl (VQ.gF rfl rfl (VQ.gF rfl rfl (VQ.gF rfl rfl (VQ.op (fun wq eq => R.pickTB rfl rfl) (VQ.op (fun wq eq => R.mvB rfl) (VQ.gF rfl rfl (VQ.gF rfl rfl (VQ.gF rfl rfl (VQ.gF rfl rfl (VQ.gF rfl rfl (VQ.gF rfl rfl (VQ.gF rfl rfl (VQ.gF rfl rfl (VQ.gF rfl rfl (VQ.gF rfl rfl (VQ.gF rfl rfl (VQ.gF rfl rfl (VQ.op (fun wq eq => R.pickTB rfl rfl) (VQ.nil (cutB rfl ?_)))))))))))))))))))))))))))))))))))) (fun g15_24 => VQ.gF rfl rfl (VQ.gF rfl rfl (VQ.gF rfl rfl (VQ.gF rfl rfl (VQ.gF rfl rfl (VQ.op (fun wq eq => R.pickTB rfl rfl) (VQ.op (fun wq eq => R.mvB rfl) (VQ.gF rfl rfl (VQ.gF rfl rfl (VQ.gF rfl rfl (VQ.gF rfl rfl (VQ.gF rfl rfl (VQ.gF rfl rfl (VQ.op (fun wq eq => R.pickTB rfl rfl) (VQ.op (fun wq eq => R.mvB rfl) (VQ.gF rfl rfl (VQ.gF rfl rfl (VQ.gF rfl rfl (VQ.gF rfl rfl (VQ.gF rfl rfl (VQ.gF rfl rfl (VQ.gF rfl rfl (VQ.gF rfl rfl (VQ.gF rfl rfl (VQ.gF rfl rfl (VQ.gF rfl rfl (VQ.gF rfl rfl (VQ.op (fun wq eq => R.pickTB rfl rfl) (VQ.nil (cutB rfl ?_)))))))))))))))))))))))))))))))))))))))))))))))))) (fun g15_13 => VQ.gF rfl rfl (VQ.gF rfl rfl (VQ.gF rfl rfl (VQ.gF rfl rfl (VQ.gF rfl rfl (VQ.gF rfl rfl (VQ.gF rfl rfl (VQ.gF rfl rfl (VQ.op (fun wq eq => R.pickTB rfl rfl) (VQ.op (fun wq eq => R.mvB rfl) (VQ.gF rfl rfl (VQ.gF rfl rfl (VQ.gF rfl rfl (VQ.gF rfl rfl (VQ.gF rfl rfl (VQ.gF rfl rfl (VQ.op (fun wq eq => R.pickTB rfl rfl) (VQ.op (fun wq eq => R.mvB rfl) (VQ.gF rfl rfl (VQ.gF rfl rfl (VQ.gF rfl rfl (VQ.gF rfl rfl (VQ.gF rfl rfl (VQ.gF rfl rfl (VQ.op (fun wq eq => R.pickTB rfl rfl) (VQ.op (fun wq eq => R.mvB rfl) (VQ.gF rfl rfl (VQ.gF rfl rfl (VQ.gF rfl rfl (VQ.gF rfl rfl (VQ.gF rfl rfl (VQ.gF rfl rfl (VQ.gF rfl rfl (VQ.gF rfl rfl (VQ.gF rfl rfl (VQ.gF rfl rfl (VQ.gF rfl rfl (VQ.gF rfl rfl (VQ.op (fun wq eq => R.pickTB rfl rfl) (VQ.nil (cutB rfl ?_)))))))))))))))))))))))))))))))))))))))))))))))))))))))) (fun rg15 w15c e15c => V.cond rfl (fun c108 => V.seq (V.region (VL.op (R.asB rfl) (VL.nil (V.ret (fret1 (v := .bool _) rfl rfl rfl (?_))))))) (fun c108 => V.skip (V.seq (V.seq (?_)))))
        · rfl
        · exact absurd v4 g15_40
        · omega
        · omega
        · omega
        · cases c108
        have hC4 := hC3.ext e15c
        have hWk := hWk.ext e15c
        have hWb := hWb.ext e15c
        refine V.region (VL.op (R.asI rfl) (VL.nil (V.block (?_))))
        refine V.loop [7, 8, 10, 11, 12, 13] (fun c : Nat => [.bool true, .slice ac lf.length cc, .int .i64 (b : Nat), .int .i64 (k : Nat), .int .i64 (if c0 < c then 1 else 0), .int .i64 (c : Nat)]) (fun c w' => c ≤ (lf.getD k default).f.row.length ∧ Ext w15c w') (fun c => (lf.getD k default).f.row.length - c) 0 rfl ⟨Nat.zero_le _, Mod.refl _ _⟩ ?_
        rintro ρ2 c w4 ⟨hc4, e4⟩
        have hC5 := hC4.ext e4
        refine V.seq (V.seq (V.region (VL.op (R.mvI rfl) (VL.op (R.mvS rfl) (VL.op (R.mvI rfl) (VL.op (R.ixS Try.runUnderlying41 Try.sizeOf48 rfl rfl (by omega) (by omega) ((hC5.sl).some (i := k) (by omega))) (VL.op (R.fld' (o := 3) Try.runUnderlying48 rfl rfl Try.sizeOf37 rfl rfl) (VL.op (R.ld1 Try.isAgg37 rfl (((((hC5.sl).ext (Mod.refl _ _)).row (i := k) (by omega)).cell (i := 3) rfl))) (VL.op (R.lenS Try.runUnderlying37 rfl) (VL.op (R.lss rfl rfl) (VL.nil (V.condP rfl (fun c116 => V.skip (V.seq (V.block (V.seq (?_))))) (fun c116 => V.exit (V.seq (V.seq (?_))))))))))))))))
        · have hcl : c < (lf.getD k default).f.row.length := by omega
          refine V.regionQCut mixed 17 (by kernel_rfl) rfl (fun w' => Ext _ w') (Ext.drawn _) [119, 120, 121, 122, 123, 124, 125, 126, 127, 128, 129, 130, 131, 132, 133, 134, 135] 135 (.bool (decide (c = c0))) rfl (VQ.op (fun wq eq => R.mvS rfl) (VQ.op (fun wq eq => R.mvI rfl) (VQ.op (fun wq eq => R.ixS Try.runUnderlying41 Try.sizeOf48 rfl rfl (by omega) (by omega) ((hC5.sl).some (i := k) (by omega))) (VQ.op (fun wq eq => R.fld' (o := 3) Try.runUnderlying48 rfl rfl Try.sizeOf37 rfl rfl) (VQ.op (fun wq eq => R.ld1 Try.isAgg37 rfl (((((hC5.sl).ext eq).row (i := k) (by omega)).cell (i := 3) rfl))) (VQ.op (fun wq eq => R.mvI rfl) (VQ.op (fun wq eq => R.ixS Try.runUnderlying37 Try.sizeOf55 rfl rfl (by omega) (by omega) (((hC5.each _ (gmem hkl)).row).some (i := c) (by omega))) (VQ.op (fun wq eq => R.ldA Try.isAgg55 Try.sizeOf55 rfl rfl ((show RowAt _ _ _ (encVal ((lf.getD k default).f.row.getD c default)) from ((((hC5.each _ (gmem hkl)).row).ext eq).row (i := c) (by omega)))) rfl) (VQ.op (fun wq eq => R.mvS rfl) (VQ.op (fun wq eq => R.mvI rfl) (VQ.op (fun wq eq => R.ixS Try.runUnderlying41 Try.sizeOf48 rfl rfl (by omega) (by omega) ((hC5.sl).some (i := b) (by omega))) (VQ.op (fun wq eq => R.fld' (o := 3) Try.runUnderlying48 rfl rfl Try.sizeOf37 rfl rfl) (VQ.op (fun wq eq => R.ld1 Try.isAgg37 rfl (((((hC5.sl).ext eq).row (i := b) (by omega)).cell (i := 3) rfl))) (VQ.op (fun wq eq => R.mvI rfl) (VQ.op (fun wq eq => R.ixS Try.runUnderlying37 Try.sizeOf55 rfl rfl (by omega) (by omega) (((hC5.each _ (gmem hbl)).row).some (i := c) (by omega))) (VQ.op (fun wq eq => R.ldA Try.isAgg55 Try.sizeOf55 rfl rfl ((show RowAt _ _ _ (encVal ((lf.getD b default).f.row.getD c default)) from ((((hC5.each _ (gmem hbl)).row).ext eq).row (i := c) (by omega)))) rfl) (VQ.op (fun wq eq => R.neqK key55 Try.eqGuardType55 encV_agg ((lf.getD k default).f.row.getD c default) ((lf.getD b default).f.row.getD c default) rfl rfl) (VQ.nil (cutB rfl ?_))))))))))))))))))) (fun rg20 w20c e20c => V.condP rfl (fun c135 => V.region (VL.op (R.mvI rfl) (VL.op (R.add rfl rfl (by omega) (by omega)) (VL.op (R.asI rfl) (VL.nil (V.region (VL.op (R.mvI rfl) (VL.op (R.add rfl rfl (by omega) (by omega)) (VL.op (R.asI rfl) (VL.nil (?_))))))))))) (fun c135 => V.skip (V.region (VL.op (R.mvI rfl) (VL.op (R.add rfl rfl (by omega) (by omega)) (VL.op (R.asI rfl) (VL.nil (?_))))))))
          · refine decide_eq_decide.2 ?_
            rw [v7]
            by_cases h : c0 = c
            · subst h; rw [gset_eq _ _ _ _ v6]; exact ⟨fun _ => rfl, fun _ => v8⟩
            · rw [gset_ne _ _ _ _ _ h]; exact ⟨fun h2 => absurd rfl h2, fun h2 => absurd h2.symm h⟩
          · exact ⟨c + 1, by rw [if_pos (show c0 < c + 1 by omega), if_neg (show ¬ c0 < c by omega)]; rfl, ⟨by omega, e4.trans e20c⟩, by omega⟩
          · exact ⟨c + 1, by rw [show (if c0 < c + 1 then (1 : Int) else 0) = if c0 < c then 1 else 0 by split <;> split <;> omega]; rfl, ⟨by omega, e4.trans e20c⟩, by omega⟩
        · have hcl : c = (lf.getD k default).f.row.length := by omega
          subst hcl
          rw [if_pos (by omega)]
          refine V.region (VL.op (R.mvI rfl) (VL.op (R.asI rfl) (VL.nil (V.block (?_)))))
          refine V.loop [7, 8, 10, 11, 12, 14] (fun q : Nat => [.bool true, .slice ac lf.length cc, .int .i64 (b : Nat), .int .i64 (k : Nat), .int .i64 1, .int .i64 (q : Nat)]) (fun q w' => b ≤ q ∧ q ≤ k ∧ Ext w4 w') (fun q => k - q) b rfl ⟨Nat.le_refl _, by omega, Mod.refl _ _⟩ ?_
          rintro ρ3 q w5 ⟨hq1, hq2, e5⟩
          have hC6 := hC5.ext e5
          refine V.seq (V.seq (V.region (VL.op (R.mvI rfl) (VL.op (R.mvI rfl) (VL.op (R.lss rfl rfl) (VL.nil (V.condP rfl (fun c141 => V.skip (V.seq (V.block (V.seq (?_))))) (fun c141 => V.exit (V.seq (?_))))))))))
          · have hqk : q < k := by omega
            have hql : q < lf.length := by omega
            have hne := v9 q hq1 hqk
            rw [← fct_at hcq hql, ← ek] at hne
            have hsq := (hC6.short _ (gmem hql)).1
            refine V.regionQ mixed 11 (by kernel_rfl) rfl (fun w' => Ext _ w') (Ext.drawn _) (VQ.op (fun wq eq => R.mvS rfl) (VQ.op (fun wq eq => R.mvI rfl) (VQ.op (fun wq eq => R.ixS Try.runUnderlying41 Try.sizeOf48 rfl rfl (by omega) (by omega) ((hC6.sl).some (i := q) (by omega))) (VQ.op (fun wq eq => R.fld' (o := 3) Try.runUnderlying48 rfl rfl Try.sizeOf37 rfl rfl) (VQ.op (fun wq eq => R.ld1 Try.isAgg37 rfl (((((hC6.sl).ext eq).row (i := q) (by omega)).cell (i := 3) rfl))) (VQ.op (fun wq eq => R.mvS rfl) (VQ.op (fun wq eq => R.mvI rfl) (VQ.op (fun wq eq => R.ixS Try.runUnderlying41 Try.sizeOf48 rfl rfl (by omega) (by omega) ((hC6.sl).some (i := k) (by omega))) (VQ.op (fun wq eq => R.fld' (o := 3) Try.runUnderlying48 rfl rfl Try.sizeOf37 rfl rfl) (VQ.op (fun wq eq => R.ld1 Try.isAgg37 rfl (((((hC6.sl).ext eq).row (i := k) (by omega)).cell (i := 3) rfl))) (VQ.callP (fun _ _ h k => Mod.trans h k) Try.call15 rfl (fun wq eq => (by have h := rows_spec (lf.getD q default).ra (lf.getD k default).ra (lf.getD q default).rc (lf.getD k default).rc (lf.getD q default).f.row (lf.getD k default).f.row wq (by omega) (by omega) ((hC6.each _ (gmem hql)).row.ext eq) ((hC6.each _ (gmem hkl)).row.ext eq); rw [decide_eq_false hne] at h; exact h)) (VQ.nil fun w25q e25q => VL.nil (V.condF rfl (V.skip (V.region (VL.op (R.mvI rfl) (VL.op (R.add rfl rfl (by omega) (by omega)) (VL.op (R.asI rfl) (VL.nil (⟨q + 1, rfl, ⟨by omega, by omega, e5.trans e25q⟩, by omega⟩))))))))))))))))))))
          · refine V.region (VL.op (R.mvI rfl) (VL.op (R.neq rfl rfl) (VL.nil (V.condP rfl (fun c156 => V.seq (?_)) (fun c156 => V.skip (V.region (VL.op (R.mvI rfl) (VL.op (R.add rfl rfl (by omega) (by omega)) (VL.op (R.asI rfl) (VL.nil (⟨(k + 1, b), rfl, ⟨by dsimp only; omega, hBn, e3.trans (e15c.trans (e4.trans e5))⟩, by dsimp only; omega⟩)))))))))))
            exact absurd rfl c156
  · refine V.region (VL.op (R.mvB rfl) (VL.op (R.asB rfl) (VL.nil (V.ret (fret1 (v := .bool _) rfl rfl rfl (⟨rfl, e1.trans (e1_0.trans e2)⟩))))))
end Go.Proofs.Ytckihgamnmmbnaa
