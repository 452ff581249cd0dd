/- Bond: BondDiffers' walk. -/
import Derived.Test.YtlefkkelohhnkaaL4
namespace Go.Proofs.Ytlefkkelohhnkaa
open Go.Vc
set_option maxRecDepth 100000 in
set_option maxHeartbeats 4000000 in
theorem law6_spec (ra la : Option Addr) (rc lc : Nat) (recs : List Rec) (l : List Dec) (w : World) (hm1 : recs.length ≤ 9223372036854775807) (hm2 : l.length ≤ 9223372036854775807) (hR : RecSl w ra recs) (hL : DecSl w la l) :
    RetsP Try.prog 6 #[.slice ra recs.length rc, .slice la l.length lc] w (.bool true) := by
  refine enter (args := [_, _]) Try.func6 rfl Try.ntmps6 (by kernel_rfl) rfl ?_
  refine V.seq (V.region (VL.op (R.asB rfl) (VL.nil (V.seq (V.region (VL.callP Try.call9 rfl (lhead_spec _) fun w1_0 e1_0 => VL.op (R.asB rfl) (VL.nil (V.seq (V.seq (V.regionCut [16, 17, 18, 19] 19 (.bool (!fewB recs.length l.length)) (fun w' => Ext _ w') rfl (VL.op (R.mvS rfl) (VL.op (R.mvS rfl) (VL.callP Try.call10 rfl (few_spec ra la rc lc recs.length l.length _) fun w2_2 e2_2 => VL.op (R.not rfl) (VL.nil ⟨rfl, cutB rfl ?_, e2_2⟩)))) (fun rg2 w2c e2c => V.cond rfl (fun c19 => V.seq (V.region (VL.op (R.mvB rfl) (VL.op (R.asB rfl) (VL.nil (V.ret (fret1 (v := .bool _) rfl rfl rfl (⟨rfl, (e1_0.trans e2c)⟩)))))))) (fun c19 => V.skip (V.seq (?_))))))))))))))
  · rfl
  have hf : fewB recs.length l.length = true := by simpa using c19
  have hl := few_le hf
  have E0 := e1_0.trans e2c
  have hR := hR.ext E0
  have hL := hL.ext E0
  have h1 := hds_len (hdR recs l) recs.length
  have h2 := bndP_len recs l
  have hel := effL_len l
  have h4 := conP_len recs l
  refine V.region (VL.op (R.mvS rfl) (VL.op (R.mvS rfl) (VL.callX Try.call11 rfl (bind2_spec recs l ra la rc lc _ (by omega) (by omega) hR hL) fun xx w4 hx e4 => VL.op (R.mvT rfl) (VL.op (R.extr rfl rfl) (VL.op (R.extr rfl rfl) (VL.op (R.asS rfl) (VL.op (R.asS rfl) (VL.nil (V.seq (V.region (VL.op (R.mvS rfl) (VL.op (R.mvS rfl) (VL.callX Try.call18 rfl (contra_spec recs l ra la rc lc _ (by omega) (by omega) (hR.ext e4) (hL.ext e4)) fun y w5 hy e5 => VL.op (R.asS rfl) (VL.nil (V.seq (V.seq (V.region (VL.op (R.mvS rfl) (VL.op (R.lenS Try.runUnderlying26 rfl) (VL.op (R.mvS rfl) (VL.op (R.lenS Try.runUnderlying22 rfl) (VL.op (R.neq rfl rfl) (VL.nil (V.condP rfl (fun c34 => V.seq (V.region (VL.op (R.asB rfl) (VL.nil (V.ret (fret1 (v := .bool _) rfl rfl rfl (?_))))))) (fun c34 => V.skip (V.seq (V.region (VL.op (R.asS rfl) (VL.op (R.asS rfl) (VL.nil (V.seq (V.region (VL.op (R.mvS rfl) (VL.callX Try.call16 rfl (effective_spec la lc l _ (by omega) (hL.ext (e4.trans e5))) fun x1 w6 ⟨hF, _⟩ e6 => VL.op (R.asS rfl) (VL.nil (V.seq (V.seq (?_))))))))))))))))))))))))))))))))))))))
  · exfalso; omega
  obtain ⟨hH, hQ⟩ := hx
  have E6 := e4.trans (e5.trans e6)
  have hH := hH.ext (e5.trans e6)
  have hQ := hQ.ext (e5.trans e6)
  have hy := hy.ext e6
  have hR := hR.ext E6
  refine V.region (VL.op (R.asI rfl) (VL.nil (V.block (?_))))
  obtain ⟨A, hA⟩ : ∃ A : Nat → List (Int × Int), A = fun j => setP ((evs recs 2 ((effL l).take j)).filterMap (rbP (hdR recs l))) := ⟨_, rfl⟩
  obtain ⟨B, hB⟩ : ∃ B : Nat → List (Int × Int), B = fun j => setP ((evs recs 2 ((effL l).take j)).filterMap (rcP (hdR recs l))) := ⟨_, rfl⟩
  have hA0 : A 0 = [] := by rw [hA]; rfl
  have hB0 : B 0 = [] := by rw [hB]; rfl
  have hAl : ∀ j, (A j).length ≤ 1000000 := fun j => by rw [hA]; exact Nat.le_trans (setP_len _) (Nat.le_trans (List.length_filterMap_le _ _) (Nat.le_trans (evs_len _ _ _) (by rw [List.length_take]; omega)))
  have hBl : ∀ j, (B j).length ≤ 1000000 := fun j => by rw [hB]; exact Nat.le_trans (setP_len _) (Nat.le_trans (List.length_filterMap_le _ _) (Nat.le_trans (evs_len _ _ _) (by rw [List.length_take]; omega)))
  have hAs : ∀ j, j < (effL l).length → A (j + 1) = match ev recs 2 ((effL l).getD j default) with | some p => if hdR recs l p.1 = hdR recs l p.2 then A j else putF (A j) (hdR recs l p.1 : Nat) (hdR recs l p.2 : Nat) | none => A j := fun j hj => by
    rw [hA]
    dsimp only
    rw [evs_snoc recs 2 (effL l) j hj, List.filterMap_append]
    cases ev recs 2 ((effL l).getD j default) with
    | none => simp
    | some p =>
      dsimp only
      by_cases e : hdR recs l p.1 = hdR recs l p.2
      · have : rbP (hdR recs l) p = none := by unfold rbP; rw [if_pos e]
        rw [if_pos e, List.filterMap_cons, this, List.filterMap_nil, List.append_nil]
      · have : rbP (hdR recs l) p = some (mkP (hdR recs l p.1 : Nat) (hdR recs l p.2 : Nat)) := by unfold rbP; rw [if_neg e]
        rw [if_neg e, List.filterMap_cons, this, List.filterMap_nil, setP_snoc, putF_eq]
  have hBs : ∀ j, j < (effL l).length → B (j + 1) = match ev recs 2 ((effL l).getD j default) with | some p => if hdR recs l p.1 = hdR recs l p.2 then putF (B j) (p.1 : Nat) (p.2 : Nat) else B j | none => B j := fun j hj => by
    rw [hB]
    dsimp only
    rw [evs_snoc recs 2 (effL l) j hj, List.filterMap_append]
    cases ev recs 2 ((effL l).getD j default) with
    | none => simp
    | some p =>
      dsimp only
      by_cases e : hdR recs l p.1 = hdR recs l p.2
      · have : rcP (hdR recs l) p = some (mkP (p.1 : Nat) (p.2 : Nat)) := by unfold rcP; rw [if_pos e]
        rw [if_pos e, List.filterMap_cons, this, List.filterMap_nil, setP_snoc, putF_eq]
      · have : rcP (hdR recs l) p = none := by unfold rcP; rw [if_neg e]
        rw [if_neg e, List.filterMap_cons, this, List.filterMap_nil, List.append_nil]
  have hAn : A (effL l).length = bndP recs l := by rw [hA, bndP_ref]; dsimp only; rw [List.take_length]
  have hBn : B (effL l).length = conP recs l := by rw [hB, conP_ref]; dsimp only; rw [List.take_length]
  clear hA hB
  refine V.loop [0, 5, 6, 7, 8, 9, 10, 11, 12] (fun x : Nat × (Option Addr × Nat) × (Option Addr × Nat) => [.slice ra recs.length rc, .bool true, .slice xx.1.1 (hds (hdR recs l) recs.length).length xx.1.2, .slice xx.2.1 (bndP recs l).length xx.2.2, .slice y.1 (conP recs l).length y.2, .slice x.2.1.1 (A x.1).length x.2.1.2, .slice x.2.2.1 (B x.1).length x.2.2.2, .slice x1.1 (effL l).length x1.2, .int .i64 (x.1 : Nat)])
    (fun x w' => x.1 ≤ (effL l).length ∧ Ext w6 w' ∧ (PrSl w' x.2.1.1 (A x.1) ∧ (x.2.1.1 = none → x.2.1.2 = 0) ∧ (A x.1).length ≤ x.2.1.2) ∧ (PrSl w' x.2.2.1 (B x.1) ∧ (x.2.2.1 = none → x.2.2.2 = 0) ∧ (B x.1).length ≤ x.2.2.2)) (fun x => (effL l).length - x.1) (0, (none, 0), (none, 0)) (by rw [hA0, hB0]; rfl) ⟨Nat.zero_le _, Mod.refl _ _, ⟨by rw [hA0]; exact TSl.nil _ _ _ _, fun _ => rfl, by rw [hA0]; exact Nat.le_refl _⟩, ⟨by rw [hB0]; exact TSl.nil _ _ _ _, fun _ => rfl, by rw [hB0]; exact Nat.le_refl _⟩⟩ ?_
  rintro ρ ⟨j, ⟨a, ca⟩, ⟨b, cb⟩⟩ w3 ⟨hj, e, ⟨hS, hax, hcap⟩, ⟨hT, hbx, hcbp⟩⟩
  dsimp only at hj e hS hax hcap hT hbx hcbp ⊢
  have hfF := hF.ext e
  have hhH := hH.ext e
  have hRR := hR.ext e
  refine V.seq (V.seq (V.region (VL.op (R.mvI rfl) (VL.op (R.mvS rfl) (VL.op (R.lenS Try.runUnderlying23 rfl) (VL.op (R.lss rfl rfl) (VL.nil (V.condP rfl (fun c40 => V.skip (V.seq (V.block (V.seq (?_))))) (fun c40 => V.exit (V.seq (?_)))))))))))
  · have hjl : j < (effL l).length := by omega
    have hA := idxF_lt recs ((effL l).getD j default).a
    have hB := idxF_lt recs ((effL l).getD j default).b
    have hAs := hAs j hjl
    have hBs := hBs j hjl
    have hAl := hAl j
    have hBl := hBl j
    refine V.regionQ mixed 16 (by kernel_rfl) rfl (fun w' => Ext _ w') (Ext.drawn _) (VQ.op (fun wq eq => R.mvS rfl) (VQ.op (fun wq eq => R.mvS rfl) (VQ.op (fun wq eq => R.mvI rfl) (VQ.op (fun wq eq => R.ixS Try.runUnderlying23 Try.sizeOf39 rfl rfl (by omega) (by omega) ((hfF).some (i := j) (by omega))) (VQ.op (fun wq eq => R.fld' (o := 1) Try.runUnderlying39 rfl rfl Try.sizeOf37 rfl rfl) (VQ.op (fun wq eq => R.ldA Try.isAgg37 Try.sizeOf37 rfl rfl ((show RowAt _ _ _ (encKey ((effL l).getD j default).a) from ((((hfF).ext eq).row (i := j) (by omega)).sub 1 3 rfl))) rfl) (VQ.callP (fun _ _ h k => Mod.trans h k) Try.call22 rfl (fun wq eq => index_spec ra rc recs ((effL l).getD j default).a _ (by omega) (hRR.ext eq)) (VQ.op (fun wq eq => R.mvS rfl) (VQ.op (fun wq eq => R.mvS rfl) (VQ.op (fun wq eq => R.mvI rfl) (VQ.op (fun wq eq => R.ixS Try.runUnderlying23 Try.sizeOf39 rfl rfl (by omega) (by omega) ((hfF).some (i := j) (by omega))) (VQ.op (fun wq eq => R.fld' (o := 4) Try.runUnderlying39 rfl rfl Try.sizeOf37 rfl rfl) (VQ.op (fun wq eq => R.ldA Try.isAgg37 Try.sizeOf37 rfl rfl ((show RowAt _ _ _ (encKey ((effL l).getD j default).b) from ((((hfF).ext eq).row (i := j) (by omega)).sub 4 3 rfl))) rfl) (VQ.callP (fun _ _ h k => Mod.trans h k) Try.call22 rfl (fun wq eq => index_spec ra rc recs ((effL l).getD j default).b _ (by omega) (hRR.ext eq)) (VQ.op (fun wq eq => R.asI rfl) (VQ.op (fun wq eq => R.asI rfl) (VQ.nil fun w13q e13q => VL.nil (V.seq (V.seq (V.regionCut [57, 58, 59, 60, 61, 62, 63, 64, 65, 66, 67, 68, 69, 70] 70 (.bool (ev recs 2 ((effL l).getD j default)).isNone) (fun w' => Ext _ w') rfl (VL.op (R.mvS rfl) (VL.op (R.mvI rfl) (VL.op (R.ixS Try.runUnderlying23 Try.sizeOf39 rfl rfl (by omega) (by omega) ((hfF).some (i := j) (by omega))) (VL.op (R.fld' (o := 0) Try.runUnderlying39 rfl rfl Try.sizeOf3 rfl rfl) (VL.op (R.ld1 Try.isAgg3 rfl (((((hfF).ext e13q).row (i := j) (by omega)).cell (i := 0) rfl))) (VL.op (R.neq rfl rfl) (VL.op (R.mvB rfl) (VL.orP rfl rfl (fun g14_6 => VL.op (R.mvI rfl) (VL.gT rfl rfl (VL.op (R.lss rfl rfl) (VL.op (R.pickFB rfl rfl) (VL.op (R.mvB rfl) (VL.orP rfl rfl (fun g14_10 => VL.op (R.mvI rfl) (VL.gT rfl rfl (VL.op (R.lss rfl rfl) (VL.op (R.pickFB rfl rfl) (VL.nil ⟨rfl, cutB rfl ?_, Mod.refl _ _⟩))))) (fun g14_10 => VL.gF rfl rfl (VL.op (R.pickTB rfl rfl) (VL.nil ⟨rfl, cutB rfl ?_, Mod.refl _ _⟩))))))))) (fun g14_6 => VL.gF rfl rfl (VL.op (R.pickTB rfl rfl) (VL.op (R.mvB rfl) (VL.gF rfl rfl (VL.gF rfl rfl (VL.op (R.pickTB rfl rfl) (VL.nil ⟨rfl, cutB rfl ?_, Mod.refl _ _⟩))))))))))))))) (fun rg14 w14c e14c => V.cond rfl (fun c70 => V.exit (V.region (VL.op (R.mvI rfl) (VL.op (R.add rfl rfl (by omega) (by omega)) (VL.op (R.asI rfl) (VL.nil (?_))))))) (fun c70 => V.skip (V.seq (?_))))))))))))))))))))))))
    · unfold ev
      by_cases h : 0 ≤ idxF recs ((effL l).getD j default).b
      · rw [if_pos ⟨Classical.not_not.1 g14_6, by omega, h⟩, decide_eq_false (by omega)]; rfl
      · rw [if_neg (fun hh => h hh.2.2), decide_eq_true (by omega)]; rfl
    · unfold ev; rw [if_neg (fun h => by omega)]; rfl
    · unfold ev; rw [if_neg (fun h => g14_6 h.1)]; rfl
    · rw [Option.isNone_iff_eq_none] at c70
      rw [c70] at hAs hBs
      dsimp only at hAs hBs
      have E := e13q.trans e14c
      exact ⟨(j + 1, (a, ca), (b, cb)), by dsimp only; rw [hAs, hBs]; rfl, ⟨by dsimp only; omega, e.trans E, ⟨by dsimp only; rw [hAs]; exact hS.ext E, hax, by dsimp only; rw [hAs]; exact hcap⟩, ⟨by dsimp only; rw [hBs]; exact hT.ext E, hbx, by dsimp only; rw [hBs]; exact hcbp⟩⟩, by dsimp only; omega⟩
    · cases hev : ev recs 2 ((effL l).getD j default) with
      | none => rw [hev] at c70; cases c70
      | some p =>
        rw [hev] at hAs hBs
        dsimp only at hAs hBs
        obtain ⟨hp, _, hp1, hp2⟩ := ev_some hev
        have hia : idxF recs ((effL l).getD j default).a = ((p.1 : Nat) : Int) := by rw [hp]; dsimp only; omega
        have hib : idxF recs ((effL l).getD j default).b = ((p.2 : Nat) : Int) := by rw [hp]; dsimp only; omega
        rw [hia, hib]
        rw [hia] at hA
        rw [hib] at hB
        have hg1 := hds_get (hdR recs l) recs.length p.1 (by omega)
        have hg2 := hds_get (hdR recs l) recs.length p.2 (by omega)
        have E14 := e13q.trans e14c
        have hS := hS.ext E14
        have hT := hT.ext E14
        have hhH := hhH.ext E14
        refine V.regionQ mixed 9 (by kernel_rfl) rfl (fun w' => Ext _ w') (Ext.drawn _) (VQ.op (fun wq eq => R.mvS rfl) (VQ.op (fun wq eq => R.mvI rfl) (VQ.op (fun wq eq => R.ixS Try.runUnderlying26 Try.sizeOf3 rfl rfl (by omega) (by omega) ((hhH).some (i := p.1) (by omega))) (VQ.op (fun wq eq => R.ld1 Try.isAgg3 rfl (((((hhH).ext eq).row (i := p.1) (by omega)).cell (i := 0) rfl))) (VQ.op (fun wq eq => R.mvS rfl) (VQ.op (fun wq eq => R.mvI rfl) (VQ.op (fun wq eq => R.ixS Try.runUnderlying26 Try.sizeOf3 rfl rfl (by omega) (by omega) ((hhH).some (i := p.2) (by omega))) (VQ.op (fun wq eq => R.ld1 Try.isAgg3 rfl (((((hhH).ext eq).row (i := p.2) (by omega)).cell (i := 0) rfl))) (VQ.op (fun wq eq => R.eql rfl rfl) (VQ.nil fun w15q e15q => VL.nil (V.condP rfl (fun c79 => ?_) (fun c79 => ?_))))))))))))
        · have hh : hdR recs l p.1 = hdR recs l p.2 := by rw [hg1, hg2] at c79; omega
          rw [if_pos hh] at hAs hBs
          refine V.region (VL.op (R.mvS rfl) (VL.op (R.mvI rfl) (VL.op (R.mvI rfl) (VL.callX Try.call23 rfl (put_spec b cb (B j) (p.1 : Nat) (p.2 : Nat) _ hBl (hT.ext (e15q.trans (Mod.refl _ _))) hbx hcbp) fun x9 w9 ⟨hS9, hax9, hc9⟩ e9 => VL.op (R.asS rfl) (VL.nil (V.region (VL.op (R.mvI rfl) (VL.op (R.add rfl rfl (by omega) (by omega)) (VL.op (R.asI rfl) (VL.nil (⟨(j + 1, (a, ca), x9), by dsimp only; rw [hAs, hBs]; rfl, ⟨by dsimp only; omega, (e.trans (E14.trans e15q)).trans e9, ⟨by dsimp only; rw [hAs]; exact hS.ext (e15q.trans e9), hax, by dsimp only; rw [hAs]; exact hcap⟩, ⟨by dsimp only; rw [hBs]; exact hS9, hax9, by dsimp only; rw [hBs]; exact hc9⟩⟩, by dsimp only; omega⟩)))))))))))
        · have hh : ¬ hdR recs l p.1 = hdR recs l p.2 := by rw [hg1, hg2] at c79; omega
          rw [if_neg hh] at hAs hBs
          have E15 := E14.trans e15q
          rw [← hg1, ← hg2] at hAs
          have hhH := hhH.ext e15q
          refine V.regionQ mixed 9 (by kernel_rfl) rfl (fun w' => Ext _ w') (Ext.drawn _) (VQ.op (fun wq eq => R.mvS rfl) (VQ.op (fun wq eq => R.mvS rfl) (VQ.op (fun wq eq => R.mvI rfl) (VQ.op (fun wq eq => R.ixS Try.runUnderlying26 Try.sizeOf3 rfl rfl (by omega) (by omega) ((hhH).some (i := p.1) (by omega))) (VQ.op (fun wq eq => R.ld1 Try.isAgg3 rfl (((((hhH).ext eq).row (i := p.1) (by omega)).cell (i := 0) rfl))) (VQ.op (fun wq eq => R.mvS rfl) (VQ.op (fun wq eq => R.mvI rfl) (VQ.op (fun wq eq => R.ixS Try.runUnderlying26 Try.sizeOf3 rfl rfl (by omega) (by omega) ((hhH).some (i := p.2) (by omega))) (VQ.op (fun wq eq => R.ld1 Try.isAgg3 rfl (((((hhH).ext eq).row (i := p.2) (by omega)).cell (i := 0) rfl))) (VQ.nil fun w17q e17q => VL.callX Try.call23 rfl (put_spec a ca (A j) ((hds (hdR recs l) recs.length).getD p.1 default) ((hds (hdR recs l) recs.length).getD p.2 default) _ hAl (hS.ext (e15q.trans e17q)) hax hcap) fun x9 w9 ⟨hS9, hax9, hc9⟩ e9 => VL.op (R.asS rfl) (VL.nil (V.region (VL.op (R.mvI rfl) (VL.op (R.add rfl rfl (by omega) (by omega)) (VL.op (R.asI rfl) (VL.nil (⟨(j + 1, x9, (b, cb)), by dsimp only; rw [hAs, hBs]; rfl, ⟨by dsimp only; omega, (e.trans E15).trans (e17q.trans e9), ⟨by dsimp only; rw [hAs]; exact hS9, hax9, by dsimp only; rw [hAs]; exact hc9⟩, ⟨by dsimp only; rw [hBs]; exact hT.ext (e15q.trans (e17q.trans e9)), hbx, by dsimp only; rw [hBs]; exact hcbp⟩⟩, by dsimp only; omega⟩)))))))))))))))))
  · have hjl : j = (effL l).length := by omega
    subst hjl
    rw [hAn] at hS ⊢
    rw [hBn] at hT ⊢
    refine V.region (VL.op (R.mvB rfl) (VL.op (R.mvB rfl) (VL.and rfl rfl (fun g18_1 => VL.op (R.mvS rfl) (VL.gT rfl rfl (VL.op (R.mvS rfl) (VL.gT rfl rfl (VL.callP Try.call14 rfl (pairs_spec xx.2.1 a xx.2.2 ca (bndP recs l) (bndP recs l) _ (by omega) (by omega) (hQ.ext (e.trans (Mod.refl _ _))) (hS.ext (Mod.refl _ _))) fun w18_4 e18_4 => VL.op (R.pickTB rfl rfl) (VL.op (R.mvB rfl) (VL.and rfl rfl (fun g18_6 => VL.op (R.mvS rfl) (VL.gT rfl rfl (VL.op (R.mvS rfl) (VL.gT rfl rfl (VL.callP Try.call14 rfl (pairs_spec y.1 b y.2 cb (conP recs l) (conP recs l) _ (by omega) (by omega) (hy.ext (e.trans e18_4)) (hT.ext e18_4)) fun w18_9 e18_9 => VL.op (R.pickTB rfl rfl) (VL.op (R.asB rfl) (VL.nil (V.ret (fret1 (v := .bool _) rfl rfl rfl (⟨?_, ((E0.trans E6).trans e).trans (e18_4.trans e18_9)⟩)))))))))) (fun g18_6 => VL.gF rfl rfl (VL.gF rfl rfl (VL.op (R.pickFB rfl rfl) (VL.op (R.asB rfl) (VL.nil (V.ret (fret1 (v := .bool _) rfl rfl rfl (⟨?_, ((E0.trans E6).trans e).trans e18_4⟩))))))))))))))) (fun g18_1 => VL.gF rfl rfl (VL.gF rfl rfl (VL.op (R.pickFB rfl rfl) (VL.op (R.mvB rfl) (VL.gF rfl rfl (VL.gF rfl rfl (VL.gF rfl rfl (VL.op (R.pickFB rfl rfl) (VL.op (R.asB rfl) (VL.nil (V.ret (fret1 (v := .bool _) rfl rfl rfl (⟨?_, ((E0.trans E6).trans e).trans (Mod.refl _ _)⟩))))))))))))))))
    all_goals first | (rw [decide_eq_true rfl]; done) | (exfalso; simp_all; done)
end Go.Proofs.Ytlefkkelohhnkaa
