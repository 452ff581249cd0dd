/- Bond: the walks of the reference's Bind and Contradictions. -/
import Derived.Test.YtlefkkelohhnkaaB19
import Derived.Test.YtlefkkelohhnkaaB6
namespace Go.Proofs.Ytlefkkelohhnkaa
open Go.Vc

/-- The pairs of heads that the reference gathers. -/
def rbP (h : Nat → Nat) (p : Nat × Nat) : Option (Int × Int) := if h p.1 = h p.2 then none else some (mkP (h p.1 : Nat) (h p.2 : Nat))
def rcP (h : Nat → Nat) (p : Nat × Nat) : Option (Int × Int) := if h p.1 = h p.2 then some (mkP (p.1 : Nat) (p.2 : Nat)) else none
theorem setP_snoc (l : List (Int × Int)) (p : Int × Int) : setP (l ++ [p]) = putP (setP l) p := by unfold setP; rw [List.foldl_append]; rfl
theorem setP_len (l : List (Int × Int)) : (setP l).length ≤ l.length := by
  have key : ∀ (l acc : List (Int × Int)), (l.foldl putP acc).length ≤ acc.length + l.length := by
    intro l
    induction l with
    | nil => intro acc; simp
    | cons p l ih =>
      intro acc
      rw [List.foldl_cons, List.length_cons]
      have h1 := ih (putP acc p)
      have h2 : (putP acc p).length ≤ acc.length + 1 := by
        unfold putP
        split
        · omega
        · have := putK_le acc p
          simp only [List.length_append, List.length_take, List.length_drop, List.length_singleton]; omega
      omega
  have := key l []
  simpa [setP] using this
theorem mkP_heads (h : Nat → Nat) (a b : Nat) : dfP h (mkP (a : Nat) (b : Nat)) = rbP h (a, b) := by
  unfold dfP rbP mkP
  dsimp only
  by_cases hab : a ≤ b
  · rw [show (min (a : Int) b).toNat = a by omega, show (max (a : Int) b).toNat = b by omega]
  · rw [show (min (a : Int) b).toNat = b by omega, show (max (a : Int) b).toNat = a by omega, Int.min_comm (h b : Int), Int.max_comm (h b : Int)]
    by_cases e : h a = h b
    · rw [if_pos e, if_pos e.symm]
    · rw [if_neg e, if_neg (fun h => e h.symm)]
theorem bndP_ref (recs : List Rec) (l : List Dec) : bndP recs l = setP ((evs recs 2 (effL l)).filterMap (rbP (hdR recs l))) := by
  unfold bndP dfR prs
  rw [List.take_length, List.filterMap_map]
  congr 1
  exact congrArg (fun f => List.filterMap f _) (funext fun p => mkP_heads _ p.1 p.2)
theorem mkP_test (h : Nat → Nat) (a b : Nat) : tst h (mkP (a : Nat) (b : Nat)) = !decide (h a = h b) := by
  unfold tst mkP
  dsimp only
  by_cases hab : a ≤ b
  · rw [show (min (a : Int) b).toNat = a by omega, show (max (a : Int) b).toNat = b by omega]
    by_cases e : h a = h b <;> simp [e]
  · rw [show (min (a : Int) b).toNat = b by omega, show (max (a : Int) b).toNat = a by omega]
    by_cases e : h a = h b
    · simp [e]
    · have : ¬ h b = h a := fun h => e h.symm
      simp [e, this]
theorem conP_ref (recs : List Rec) (l : List Dec) : conP recs l = setP ((evs recs 2 (effL l)).filterMap (rcP (hdR recs l))) := by
  unfold conP dfR prs
  rw [List.take_length]
  congr 1
  generalize evs recs 2 (effL l) = es
  induction es with
  | nil => rfl
  | cons p es ih =>
    rw [List.map_cons, List.filter_cons, List.filterMap_cons, ih, mkP_test]
    unfold rcP
    by_cases e : hdR recs l p.1 = hdR recs l p.2
    · rw [if_pos e]; simp [e]
    · rw [if_neg e]; simp [e]
theorem evs_get (recs : List Rec) (kind : Int) (l : List Dec) (k : Nat) {p : Nat × Nat} (hk : k < l.length) (h : ev recs kind (l.getD k default) = some p) : p = ((idxF recs (l.getD k default).a).toNat, (idxF recs (l.getD k default).b).toNat) ∧ (l.getD k default).kind = kind ∧ 0 ≤ idxF recs (l.getD k default).a ∧ 0 ≤ idxF recs (l.getD k default).b := by
  unfold ev at h
  split at h
  · rename_i hc
    injection h with h
    exact ⟨h.symm, hc⟩
  · cases h

set_option maxRecDepth 100000 in
set_option maxHeartbeats 4000000 in
theorem rbind_spec (recs : List Rec) (l : List Dec) (ra la : Option Addr) (rc lc : Nat) (w : World) (hm1 : recs.length ≤ 1000000) (hm2 : l.length ≤ 1000000) (hR : RecSl w ra recs) (hL : DecSl w la l) :
    RetsX Try.prog 12 #[.slice ra recs.length rc, .slice la l.length lc] w (fun x : (Option Addr × Nat) × (Option Addr × Nat) => .tuple #[.slice x.1.1 recs.length x.1.2, .slice x.2.1 (setP ((evs recs 2 (effL l)).filterMap (rbP (hdR recs l)))).length x.2.2]) (fun x w' => TSl encI 1 w' x.1.1 (hds (hdR recs l) recs.length) ∧ TSl encPr 2 w' x.2.1 (setP ((evs recs 2 (effL l)).filterMap (rbP (hdR recs l))))) := by
  have hel : (effL l).length ≤ l.length := effK_len l l.length
  have hhl := hds_len (hdR recs l) recs.length
  refine enter (args := [_, _]) Try.func12 rfl Try.ntmps12 (by kernel_rfl) rfl ?_
  refine V.seq (V.region (VL.op (R.asS rfl) (VL.op (R.asS rfl) (VL.nil (V.seq (V.region (VL.op (R.mvS rfl) (VL.callX Try.call17 rfl (reffective_spec la lc l _ hm2 (hL.ext (Mod.refl _ _))) fun x1 w1 hF e1 => VL.op (R.asS rfl) (VL.nil (V.seq (V.region (VL.op (R.mvS rfl) (VL.op (R.mvS rfl) (VL.callX Try.call29 rfl (rheads_spec recs (effL l) ra x1.1 rc x1.2 _ hm1 (by omega) (hR.ext e1) hF.sl) fun x2 w2 hH e2 => VL.op (R.asS rfl) (VL.nil (V.seq (V.region (VL.op (R.asS rfl) (VL.nil (V.seq (V.seq (?_))))))))))))))))))))))
  have E0 : Ext w w2 := e1.trans e2
  have hF := hF.ext e2
  have hH : OwnT encI 1 3 w1.heap.size w2 x2.1 x2.2 (hds (hdR recs l) recs.length) := hH
  refine V.region (VL.op (R.asI rfl) (VL.nil (V.block (?_))))
  refine V.loop [0, 6, 7, 8, 9] (fun x : Nat × Option Addr × Nat => [.slice ra recs.length rc, .slice x1.1 (effL l).length x1.2, .slice x2.1 (hds (hdR recs l) recs.length).length x2.2, .slice x.2.1 (setP ((evs recs 2 ((effL l).take x.1)).filterMap (rbP (hdR recs l)))).length x.2.2, .int .i64 (x.1 : Nat)])
    (fun x w' => x.1 ≤ (effL l).length ∧ Ext w2 w' ∧ PrSl w' x.2.1 (setP ((evs recs 2 ((effL l).take x.1)).filterMap (rbP (hdR recs l)))) ∧ (x.2.1 = none → x.2.2 = 0) ∧ (setP ((evs recs 2 ((effL l).take x.1)).filterMap (rbP (hdR recs l)))).length ≤ x.2.2) (fun x => (effL l).length - x.1) (0, none, 0) rfl ⟨Nat.zero_le _, Mod.refl _ _, TSl.nil _ _ _ _, fun _ => rfl, Nat.le_refl _⟩ ?_
  rintro ρ ⟨j, a, cap⟩ w3 ⟨hj, e, hS, hax, hcap⟩
  dsimp only at hj e hS hax hcap ⊢
  have hfF := hF.ext e
  have hhH := hH.ext e
  refine V.seq (V.seq (V.region (VL.op (R.mvI rfl) (VL.op (R.mvS rfl) (VL.op (R.lenS Try.runUnderlying23 rfl) (VL.op (R.lss rfl rfl) (VL.nil (V.condP rfl (fun c20 => V.skip (V.seq (V.block (V.seq (?_))))) (fun c20 => V.exit (V.seq (V.region (VL.op (R.mvS rfl) (VL.op (R.mvS rfl) (VL.op (R.asS rfl) (VL.op (R.asS rfl) (VL.nil (V.ret (fret2 (v := .slice _ _ _) (x := .slice _ _ _) rfl rfl rfl rfl rfl (?_)))))))))))))))))))
  · have hjl : j < (effL l).length := by omega
    have hA := idxF_lt recs ((effL l).getD j default).a
    have hB := idxF_lt recs ((effL l).getD j default).b
    have hsn := evs_snoc recs 2 (effL l) j hjl
    have hpl : (setP ((evs recs 2 ((effL l).take j)).filterMap (rbP (hdR recs l)))).length ≤ 1000000 := Nat.le_trans (setP_len _) (Nat.le_trans (List.length_filterMap_le _ _) (Nat.le_trans (evs_len _ _ _) (by rw [List.length_take]; omega)))
    obtain ⟨pp, hpp⟩ : ∃ pp, pp = setP ((evs recs 2 ((effL l).take j)).filterMap (rbP (hdR recs l))) := ⟨_, rfl⟩
    rw [← hpp] at hS hcap hpl ⊢
    refine V.regionQ mixed 16 (by kernel_rfl) rfl (fun w' => Ext _ w') (Ext.drawn _) (VQ.op (fun wq eq => R.mvS rfl) (VQ.op (fun wq eq => R.mvS rfl) (VQ.op (fun wq eq => R.mvI rfl) (VQ.op (fun wq eq => R.ixS Try.runUnderlying23 Try.sizeOf39 rfl rfl (by omega) (by omega) ((hfF.sl.ext eq).some (i := j) (by omega))) (VQ.op (fun wq eq => R.fld' (o := 1) Try.runUnderlying39 rfl rfl Try.sizeOf37 rfl rfl) (VQ.op (fun wq eq => R.ldA Try.isAgg37 Try.sizeOf37 rfl rfl ((show RowAt _ _ _ (encKey ((effL l).getD j default).a) from (((hfF.sl.ext eq).row (i := j) (by omega)).sub 1 3 rfl))) rfl) (VQ.callP (fun _ _ h k => Mod.trans h k) Try.call22 rfl (fun wq eq => index_spec ra rc recs ((effL l).getD j default).a _ (by omega) ((hR.ext E0).ext (e.trans eq))) (VQ.op (fun wq eq => R.mvS rfl) (VQ.op (fun wq eq => R.mvS rfl) (VQ.op (fun wq eq => R.mvI rfl) (VQ.op (fun wq eq => R.ixS Try.runUnderlying23 Try.sizeOf39 rfl rfl (by omega) (by omega) ((hfF.sl.ext eq).some (i := j) (by omega))) (VQ.op (fun wq eq => R.fld' (o := 4) Try.runUnderlying39 rfl rfl Try.sizeOf37 rfl rfl) (VQ.op (fun wq eq => R.ldA Try.isAgg37 Try.sizeOf37 rfl rfl ((show RowAt _ _ _ (encKey ((effL l).getD j default).b) from (((hfF.sl.ext eq).row (i := j) (by omega)).sub 4 3 rfl))) rfl) (VQ.callP (fun _ _ h k => Mod.trans h k) Try.call22 rfl (fun wq eq => index_spec ra rc recs ((effL l).getD j default).b _ (by omega) ((hR.ext E0).ext (e.trans eq))) (VQ.op (fun wq eq => R.asI rfl) (VQ.op (fun wq eq => R.asI rfl) (VQ.nil fun w7q e7q => VL.nil (V.seq (V.regionQCut mixed 25 (by kernel_rfl) rfl (fun w' => Ext _ w') (Ext.drawn _) [37, 38, 39, 40, 41, 42, 43, 44, 45, 46, 47, 48, 49, 50, 51, 52, 53, 54, 55, 56, 57, 58, 59, 60, 61] 61 (.bool (match ev recs 2 ((effL l).getD j default) with | some p => !decide (hdR recs l p.1 = hdR recs l p.2) | none => false)) rfl (VQ.op (fun wq eq => R.mvS rfl) (VQ.op (fun wq eq => R.mvI rfl) (VQ.op (fun wq eq => R.ixS Try.runUnderlying23 Try.sizeOf39 rfl rfl (by omega) (by omega) ((hfF.sl.ext (e7q.trans eq)).some (i := j) (by omega))) (VQ.op (fun wq eq => R.fld' (o := 0) Try.runUnderlying39 rfl rfl Try.sizeOf3 rfl rfl) (VQ.op (fun wq eq => R.ld1 Try.isAgg3 rfl ((((hfF.sl.ext (e7q.trans eq)).row (i := j) (by omega)).cell (i := 0) rfl))) (VQ.op (fun wq eq => R.eql rfl rfl) (VQ.op (fun wq eq => R.mvB rfl) (VQ.andP rfl rfl (fun g8_6 => VQ.op (fun wq eq => R.mvI rfl) (VQ.gT rfl rfl (VQ.op (fun wq eq => R.geq rfl rfl) (VQ.op (fun wq eq => R.pickTB rfl rfl) (VQ.op (fun wq eq => R.mvB rfl) (VQ.andP rfl rfl (fun g8_10 => VQ.op (fun wq eq => R.mvI rfl) (VQ.gT rfl rfl (VQ.op (fun wq eq => R.geq rfl rfl) (VQ.op (fun wq eq => R.pickTB rfl rfl) (VQ.op (fun wq eq => R.mvB rfl) (VQ.andP rfl rfl (fun g8_14 => VQ.op (fun wq eq => R.mvS rfl) (VQ.gT rfl rfl (VQ.op (fun wq eq => R.mvI rfl) (VQ.gT rfl rfl (VQ.op (fun wq eq => R.ixS Try.runUnderlying26 Try.sizeOf3 rfl rfl (by omega) (by omega) ((hhH.sl.ext (e7q.trans eq)).some (i := (idxF recs ((effL l).getD j default).a).toNat) (by omega))) (VQ.gT rfl rfl (VQ.op (fun wq eq => R.ld1 Try.isAgg3 rfl ((((hhH.sl.ext (e7q.trans eq)).row (i := (idxF recs ((effL l).getD j default).a).toNat) (by omega)).cell (i := 0) rfl))) (VQ.gT rfl rfl (VQ.op (fun wq eq => R.mvS rfl) (VQ.gT rfl rfl (VQ.op (fun wq eq => R.mvI rfl) (VQ.gT rfl rfl (VQ.op (fun wq eq => R.ixS Try.runUnderlying26 Try.sizeOf3 rfl rfl (by omega) (by omega) ((hhH.sl.ext (e7q.trans eq)).some (i := (idxF recs ((effL l).getD j default).b).toNat) (by omega))) (VQ.gT rfl rfl (VQ.op (fun wq eq => R.ld1 Try.isAgg3 rfl ((((hhH.sl.ext (e7q.trans eq)).row (i := (idxF recs ((effL l).getD j default).b).toNat) (by omega)).cell (i := 0) rfl))) (VQ.gT rfl rfl (VQ.op (fun wq eq => R.neq rfl rfl) (VQ.op (fun wq eq => R.pickTB rfl rfl) (VQ.nil (cutB rfl ?_)))))))))))))))))))) (fun g8_14 => VQ.gF rfl rfl (VQ.gF rfl rfl (VQ.gF rfl rfl (VQ.gF rfl rfl (VQ.gF rfl rfl (VQ.gF rfl rfl (VQ.gF rfl rfl (VQ.gF rfl rfl (VQ.op (fun wq eq => R.pickFB rfl rfl) (VQ.nil (cutB rfl ?_))))))))))))))))) (fun g8_10 => VQ.gF rfl rfl (VQ.op (fun wq eq => R.pickFB rfl rfl) (VQ.op (fun wq eq => R.mvB rfl) (VQ.gF rfl rfl (VQ.gF rfl rfl (VQ.gF rfl rfl (VQ.gF rfl rfl (VQ.gF rfl rfl (VQ.gF rfl rfl (VQ.gF rfl rfl (VQ.gF rfl rfl (VQ.gF rfl rfl (VQ.op (fun wq eq => R.pickFB rfl rfl) (VQ.nil (cutB rfl ?_))))))))))))))))))))) (fun g8_6 => VQ.gF rfl rfl (VQ.op (fun wq eq => R.pickFB rfl rfl) (VQ.op (fun wq eq => R.mvB rfl) (VQ.gF rfl rfl (VQ.gF rfl rfl (VQ.op (fun wq eq => R.pickFB rfl rfl) (VQ.op (fun wq eq => R.mvB rfl) (VQ.gF rfl rfl (VQ.gF rfl rfl (VQ.gF rfl rfl (VQ.gF rfl rfl (VQ.gF rfl rfl (VQ.gF rfl rfl (VQ.gF rfl rfl (VQ.gF rfl rfl (VQ.gF rfl rfl (VQ.op (fun wq eq => R.pickFB rfl rfl) (VQ.nil (cutB rfl ?_))))))))))))))))))))))))))) (fun rg8 w8c e8c => V.cond rfl (fun c61 => ?_) (fun c61 => V.skip (V.region (VL.op (R.mvI rfl) (VL.op (R.add rfl rfl (by omega) (by omega)) (VL.op (R.asI rfl) (VL.nil (?_)))))))))))))))))))))))))))
    · unfold ev; rw [if_pos ⟨g8_6, g8_10, g8_14⟩]; dsimp only; rw [hds_get _ _ _ (by omega), hds_get _ _ _ (by omega)]; rw [← decide_not]; exact decide_eq_decide.2 (by omega)
    · unfold ev; rw [if_neg (fun h => by omega)]
    · unfold ev; rw [if_neg (fun h => by omega)]
    · unfold ev; rw [if_neg (fun h => g8_6 h.1)]
    · cases hev : ev recs 2 ((effL l).getD j default) with
      | none => rw [hev] at c61; cases c61
      | some p =>
        rw [hev] at c61 hsn
        obtain ⟨hp, _, hp1, hp2⟩ := ev_some hev
        have hnew : setP ((evs recs 2 ((effL l).take (j + 1))).filterMap (rbP (hdR recs l))) = putF pp ((hds (hdR recs l) recs.length).getD (idxF recs ((effL l).getD j default).a).toNat default) ((hds (hdR recs l) recs.length).getD (idxF recs ((effL l).getD j default).b).toNat default) := by
          rw [hsn, List.filterMap_append, hpp, putF_eq]
          rw [hds_get _ _ _ (by omega), hds_get _ _ _ (by omega), show (idxF recs ((effL l).getD j default).a).toNat = p.1 by rw [hp], show (idxF recs ((effL l).getD j default).b).toNat = p.2 by rw [hp]]
          show setP (_ ++ List.filterMap (rbP (hdR recs l)) [p]) = _
          rw [List.filterMap_cons]
          have : rbP (hdR recs l) p = some (mkP ((hdR recs l p.1 : Nat) : Int) ((hdR recs l p.2 : Nat) : Int)) := by unfold rbP; rw [if_neg (by simpa using c61)]
          rw [this]
          exact setP_snoc _ _
        have E8 := e7q.trans e8c
        refine V.regionQ mixed 9 (by kernel_rfl) rfl (fun w' => Ext _ w') (Ext.drawn _) (VQ.op (fun wq eq => R.mvS rfl) (VQ.op (fun wq eq => R.mvS rfl) (VQ.op (fun wq eq => R.mvI rfl) (VQ.op (fun wq eq => R.ixS Try.runUnderlying26 Try.sizeOf3 rfl rfl (by omega) (by omega) ((hhH.sl.ext E8).some (i := (idxF recs ((effL l).getD j default).a).toNat) (by omega))) (VQ.op (fun wq eq => R.ld1 Try.isAgg3 rfl (((((hhH.sl.ext E8).ext eq).row (i := (idxF recs ((effL l).getD j default).a).toNat) (by omega)).cell (i := 0) rfl))) (VQ.op (fun wq eq => R.mvS rfl) (VQ.op (fun wq eq => R.mvI rfl) (VQ.op (fun wq eq => R.ixS Try.runUnderlying26 Try.sizeOf3 rfl rfl (by omega) (by omega) ((hhH.sl.ext E8).some (i := (idxF recs ((effL l).getD j default).b).toNat) (by omega))) (VQ.op (fun wq eq => R.ld1 Try.isAgg3 rfl (((((hhH.sl.ext E8).ext eq).row (i := (idxF recs ((effL l).getD j default).b).toNat) (by omega)).cell (i := 0) rfl))) (VQ.nil fun w9q e9q => VL.callX Try.call23 rfl (put_spec a cap pp ((hds (hdR recs l) recs.length).getD (idxF recs ((effL l).getD j default).a).toNat default) ((hds (hdR recs l) recs.length).getD (idxF recs ((effL l).getD j default).b).toNat default) _ hpl (hS.ext (E8.trans e9q)) hax hcap) fun x9 w9 ⟨hS9, hax9, hc9⟩ e9 => VL.op (R.asS rfl) (VL.nil (V.region (VL.op (R.mvI rfl) (VL.op (R.add rfl rfl (by omega) (by omega)) (VL.op (R.asI rfl) (VL.nil (⟨(j + 1, x9), by dsimp only; rw [hnew]; rfl, ⟨by dsimp only; omega, (e.trans E8).trans (e9q.trans e9), by dsimp only; rw [hnew]; exact hS9, hax9, by dsimp only; rw [hnew]; exact hc9⟩, by dsimp only; omega⟩)))))))))))))))))
    · have hst : (evs recs 2 ((effL l).take (j + 1))).filterMap (rbP (hdR recs l)) = (evs recs 2 ((effL l).take j)).filterMap (rbP (hdR recs l)) := by
        rw [hsn, List.filterMap_append]
        cases hev : ev recs 2 ((effL l).getD j default) with
        | none => simp
        | some p =>
          rw [hev] at c61
          have : rbP (hdR recs l) p = none := by unfold rbP; rw [if_pos (by simpa using c61)]
          dsimp only; rw [List.filterMap_cons, this, List.filterMap_nil, List.append_nil]
      have E8 := e7q.trans e8c
      exact ⟨(j + 1, a, cap), by dsimp only; rw [hst, hpp]; rfl, ⟨by dsimp only; omega, e.trans E8, by dsimp only; rw [hst, ← hpp]; exact hS.ext E8, hax, by dsimp only; rw [hst, ← hpp]; exact hcap⟩, by dsimp only; omega⟩
  · have hjl : j = (effL l).length := by omega
    subst hjl
    have e := E0.trans e
    rw [List.take_length] at hS ⊢
    exact ⟨(x2, (a, cap)), by rw [hhl], ⟨hhH.sl, hS⟩, e⟩

set_option maxRecDepth 100000 in
set_option maxHeartbeats 4000000 in
theorem rcontra_spec (recs : List Rec) (l : List Dec) (ra la : Option Addr) (rc lc : Nat) (w : World) (hm1 : recs.length ≤ 1000000) (hm2 : l.length ≤ 1000000) (hR : RecSl w ra recs) (hL : DecSl w la l) :
    RetsX Try.prog 19 #[.slice ra recs.length rc, .slice la l.length lc] w (fun x : Option Addr × Nat => .slice x.1 (setP ((evs recs 2 (effL l)).filterMap (rcP (hdR recs l)))).length x.2) (fun x w' => TSl encPr 2 w' x.1 (setP ((evs recs 2 (effL l)).filterMap (rcP (hdR recs l))))) := by
  have hel : (effL l).length ≤ l.length := effK_len l l.length
  have hhl := hds_len (hdR recs l) recs.length
  refine enter (args := [_, _]) Try.func19 rfl Try.ntmps19 (by kernel_rfl) rfl ?_
  refine V.seq (V.region (VL.op (R.asS rfl) (VL.nil (V.seq (V.region (VL.op (R.mvS rfl) (VL.callX Try.call17 rfl (reffective_spec la lc l _ hm2 (hL.ext (Mod.refl _ _))) fun x1 w1 hF e1 => VL.op (R.asS rfl) (VL.nil (V.seq (V.region (VL.op (R.mvS rfl) (VL.op (R.mvS rfl) (VL.callX Try.call29 rfl (rheads_spec recs (effL l) ra x1.1 rc x1.2 _ hm1 (by omega) (hR.ext e1) hF.sl) fun x2 w2 hH e2 => VL.op (R.asS rfl) (VL.nil (V.seq (V.region (VL.op (R.asS rfl) (VL.nil (V.seq (V.seq (?_)))))))))))))))))))))
  have E0 : Ext w w2 := e1.trans e2
  have hF := hF.ext e2
  have hH : OwnT encI 1 3 w1.heap.size w2 x2.1 x2.2 (hds (hdR recs l) recs.length) := hH
  refine V.region (VL.op (R.asI rfl) (VL.nil (V.block (?_))))
  refine V.loop [0, 5, 6, 7, 8] (fun x : Nat × Option Addr × Nat => [.slice ra recs.length rc, .slice x1.1 (effL l).length x1.2, .slice x2.1 (hds (hdR recs l) recs.length).length x2.2, .slice x.2.1 (setP ((evs recs 2 ((effL l).take x.1)).filterMap (rcP (hdR recs l)))).length x.2.2, .int .i64 (x.1 : Nat)])
    (fun x w' => x.1 ≤ (effL l).length ∧ Ext w2 w' ∧ PrSl w' x.2.1 (setP ((evs recs 2 ((effL l).take x.1)).filterMap (rcP (hdR recs l)))) ∧ (x.2.1 = none → x.2.2 = 0) ∧ (setP ((evs recs 2 ((effL l).take x.1)).filterMap (rcP (hdR recs l)))).length ≤ x.2.2) (fun x => (effL l).length - x.1) (0, none, 0) rfl ⟨Nat.zero_le _, Mod.refl _ _, TSl.nil _ _ _ _, fun _ => rfl, Nat.le_refl _⟩ ?_
  rintro ρ ⟨j, a, cap⟩ w3 ⟨hj, e, hS, hax, hcap⟩
  dsimp only at hj e hS hax hcap ⊢
  have hfF := hF.ext e
  have hhH := hH.ext e
  refine V.seq (V.seq (V.region (VL.op (R.mvI rfl) (VL.op (R.mvS rfl) (VL.op (R.lenS Try.runUnderlying23 rfl) (VL.op (R.lss rfl rfl) (VL.nil (V.condP rfl (fun c19 => V.skip (V.seq (V.block (V.seq (?_))))) (fun c19 => V.exit (V.seq (V.region (VL.op (R.mvS rfl) (VL.op (R.asS rfl) (VL.nil (V.ret (fret1 (v := .slice _ _ _) rfl rfl rfl (?_)))))))))))))))))
  · have hjl : j < (effL l).length := by omega
    have hA := idxF_lt recs ((effL l).getD j default).a
    have hB := idxF_lt recs ((effL l).getD j default).b
    have hsn := evs_snoc recs 2 (effL l) j hjl
    have hpl : (setP ((evs recs 2 ((effL l).take j)).filterMap (rcP (hdR recs l)))).length ≤ 1000000 := Nat.le_trans (setP_len _) (Nat.le_trans (List.length_filterMap_le _ _) (Nat.le_trans (evs_len _ _ _) (by rw [List.length_take]; omega)))
    obtain ⟨pp, hpp⟩ : ∃ pp, pp = setP ((evs recs 2 ((effL l).take j)).filterMap (rcP (hdR recs l))) := ⟨_, rfl⟩
    rw [← hpp] at hS hcap hpl ⊢
    refine V.regionQ mixed 16 (by kernel_rfl) rfl (fun w' => Ext _ w') (Ext.drawn _) (VQ.op (fun wq eq => R.mvS rfl) (VQ.op (fun wq eq => R.mvS rfl) (VQ.op (fun wq eq => R.mvI rfl) (VQ.op (fun wq eq => R.ixS Try.runUnderlying23 Try.sizeOf39 rfl rfl (by omega) (by omega) ((hfF.sl.ext eq).some (i := j) (by omega))) (VQ.op (fun wq eq => R.fld' (o := 1) Try.runUnderlying39 rfl rfl Try.sizeOf37 rfl rfl) (VQ.op (fun wq eq => R.ldA Try.isAgg37 Try.sizeOf37 rfl rfl ((show RowAt _ _ _ (encKey ((effL l).getD j default).a) from (((hfF.sl.ext eq).row (i := j) (by omega)).sub 1 3 rfl))) rfl) (VQ.callP (fun _ _ h k => Mod.trans h k) Try.call22 rfl (fun wq eq => index_spec ra rc recs ((effL l).getD j default).a _ (by omega) ((hR.ext E0).ext (e.trans eq))) (VQ.op (fun wq eq => R.mvS rfl) (VQ.op (fun wq eq => R.mvS rfl) (VQ.op (fun wq eq => R.mvI rfl) (VQ.op (fun wq eq => R.ixS Try.runUnderlying23 Try.sizeOf39 rfl rfl (by omega) (by omega) ((hfF.sl.ext eq).some (i := j) (by omega))) (VQ.op (fun wq eq => R.fld' (o := 4) Try.runUnderlying39 rfl rfl Try.sizeOf37 rfl rfl) (VQ.op (fun wq eq => R.ldA Try.isAgg37 Try.sizeOf37 rfl rfl ((show RowAt _ _ _ (encKey ((effL l).getD j default).b) from (((hfF.sl.ext eq).row (i := j) (by omega)).sub 4 3 rfl))) rfl) (VQ.callP (fun _ _ h k => Mod.trans h k) Try.call22 rfl (fun wq eq => index_spec ra rc recs ((effL l).getD j default).b _ (by omega) ((hR.ext E0).ext (e.trans eq))) (VQ.op (fun wq eq => R.asI rfl) (VQ.op (fun wq eq => R.asI rfl) (VQ.nil fun w7q e7q => VL.nil (V.seq (V.regionQCut mixed 25 (by kernel_rfl) rfl (fun w' => Ext _ w') (Ext.drawn _) [36, 37, 38, 39, 40, 41, 42, 43, 44, 45, 46, 47, 48, 49, 50, 51, 52, 53, 54, 55, 56, 57, 58, 59, 60] 60 (.bool (match ev recs 2 ((effL l).getD j default) with | some p => decide (hdR recs l p.1 = hdR recs l p.2) | none => false)) rfl (VQ.op (fun wq eq => R.mvS rfl) (VQ.op (fun wq eq => R.mvI rfl) (VQ.op (fun wq eq => R.ixS Try.runUnderlying23 Try.sizeOf39 rfl rfl (by omega) (by omega) ((hfF.sl.ext (e7q.trans eq)).some (i := j) (by omega))) (VQ.op (fun wq eq => R.fld' (o := 0) Try.runUnderlying39 rfl rfl Try.sizeOf3 rfl rfl) (VQ.op (fun wq eq => R.ld1 Try.isAgg3 rfl ((((hfF.sl.ext (e7q.trans eq)).row (i := j) (by omega)).cell (i := 0) rfl))) (VQ.op (fun wq eq => R.eql rfl rfl) (VQ.op (fun wq eq => R.mvB rfl) (VQ.andP rfl rfl (fun g8_6 => VQ.op (fun wq eq => R.mvI rfl) (VQ.gT rfl rfl (VQ.op (fun wq eq => R.geq rfl rfl) (VQ.op (fun wq eq => R.pickTB rfl rfl) (VQ.op (fun wq eq => R.mvB rfl) (VQ.andP rfl rfl (fun g8_10 => VQ.op (fun wq eq => R.mvI rfl) (VQ.gT rfl rfl (VQ.op (fun wq eq => R.geq rfl rfl) (VQ.op (fun wq eq => R.pickTB rfl rfl) (VQ.op (fun wq eq => R.mvB rfl) (VQ.andP rfl rfl (fun g8_14 => VQ.op (fun wq eq => R.mvS rfl) (VQ.gT rfl rfl (VQ.op (fun wq eq => R.mvI rfl) (VQ.gT rfl rfl (VQ.op (fun wq eq => R.ixS Try.runUnderlying26 Try.sizeOf3 rfl rfl (by omega) (by omega) ((hhH.sl.ext (e7q.trans eq)).some (i := (idxF recs ((effL l).getD j default).a).toNat) (by omega))) (VQ.gT rfl rfl (VQ.op (fun wq eq => R.ld1 Try.isAgg3 rfl ((((hhH.sl.ext (e7q.trans eq)).row (i := (idxF recs ((effL l).getD j default).a).toNat) (by omega)).cell (i := 0) rfl))) (VQ.gT rfl rfl (VQ.op (fun wq eq => R.mvS rfl) (VQ.gT rfl rfl (VQ.op (fun wq eq => R.mvI rfl) (VQ.gT rfl rfl (VQ.op (fun wq eq => R.ixS Try.runUnderlying26 Try.sizeOf3 rfl rfl (by omega) (by omega) ((hhH.sl.ext (e7q.trans eq)).some (i := (idxF recs ((effL l).getD j default).b).toNat) (by omega))) (VQ.gT rfl rfl (VQ.op (fun wq eq => R.ld1 Try.isAgg3 rfl ((((hhH.sl.ext (e7q.trans eq)).row (i := (idxF recs ((effL l).getD j default).b).toNat) (by omega)).cell (i := 0) rfl))) (VQ.gT rfl rfl (VQ.op (fun wq eq => R.eql rfl rfl) (VQ.op (fun wq eq => R.pickTB rfl rfl) (VQ.nil (cutB rfl ?_)))))))))))))))))))) (fun g8_14 => VQ.gF rfl rfl (VQ.gF rfl rfl (VQ.gF rfl rfl (VQ.gF rfl rfl (VQ.gF rfl rfl (VQ.gF rfl rfl (VQ.gF rfl rfl (VQ.gF rfl rfl (VQ.op (fun wq eq => R.pickFB rfl rfl) (VQ.nil (cutB rfl ?_))))))))))))))))) (fun g8_10 => VQ.gF rfl rfl (VQ.op (fun wq eq => R.pickFB rfl rfl) (VQ.op (fun wq eq => R.mvB rfl) (VQ.gF rfl rfl (VQ.gF rfl rfl (VQ.gF rfl rfl (VQ.gF rfl rfl (VQ.gF rfl rfl (VQ.gF rfl rfl (VQ.gF rfl rfl (VQ.gF rfl rfl (VQ.gF rfl rfl (VQ.op (fun wq eq => R.pickFB rfl rfl) (VQ.nil (cutB rfl ?_))))))))))))))))))))) (fun g8_6 => VQ.gF rfl rfl (VQ.op (fun wq eq => R.pickFB rfl rfl) (VQ.op (fun wq eq => R.mvB rfl) (VQ.gF rfl rfl (VQ.gF rfl rfl (VQ.op (fun wq eq => R.pickFB rfl rfl) (VQ.op (fun wq eq => R.mvB rfl) (VQ.gF rfl rfl (VQ.gF rfl rfl (VQ.gF rfl rfl (VQ.gF rfl rfl (VQ.gF rfl rfl (VQ.gF rfl rfl (VQ.gF rfl rfl (VQ.gF rfl rfl (VQ.gF rfl rfl (VQ.op (fun wq eq => R.pickFB rfl rfl) (VQ.nil (cutB rfl ?_))))))))))))))))))))))))))) (fun rg8 w8c e8c => V.cond rfl (fun c60 => ?_) (fun c60 => V.skip (V.region (VL.op (R.mvI rfl) (VL.op (R.add rfl rfl (by omega) (by omega)) (VL.op (R.asI rfl) (VL.nil (?_)))))))))))))))))))))))))))
    · unfold ev; rw [if_pos ⟨g8_6, g8_10, g8_14⟩]; dsimp only; rw [hds_get _ _ _ (by omega), hds_get _ _ _ (by omega)]; exact decide_eq_decide.2 (by omega)
    · unfold ev; rw [if_neg (fun h => by omega)]
    · unfold ev; rw [if_neg (fun h => by omega)]
    · unfold ev; rw [if_neg (fun h => g8_6 h.1)]
    · cases hev : ev recs 2 ((effL l).getD j default) with
      | none => rw [hev] at c60; cases c60
      | some p =>
        rw [hev] at c60 hsn
        obtain ⟨hp, _, hp1, hp2⟩ := ev_some hev
        have hnew : setP ((evs recs 2 ((effL l).take (j + 1))).filterMap (rcP (hdR recs l))) = putF pp (idxF recs ((effL l).getD j default).a) (idxF recs ((effL l).getD j default).b) := by
          rw [hsn, List.filterMap_append, hpp, putF_eq]
          rw [show idxF recs ((effL l).getD j default).a = ((p.1 : Nat) : Int) by rw [hp]; dsimp only; omega, show idxF recs ((effL l).getD j default).b = ((p.2 : Nat) : Int) by rw [hp]; dsimp only; omega]
          show setP (_ ++ List.filterMap (rcP (hdR recs l)) [p]) = _
          rw [List.filterMap_cons]
          have : rcP (hdR recs l) p = some (mkP (p.1 : Nat) (p.2 : Nat)) := by unfold rcP; rw [if_pos (by simpa using c60)]
          rw [this]
          exact setP_snoc _ _
        have E8 := e7q.trans e8c
        refine V.region (VL.op (R.mvS rfl) (VL.op (R.mvI rfl) (VL.op (R.mvI rfl) (VL.callX Try.call23 rfl (put_spec a cap pp (idxF recs ((effL l).getD j default).a) (idxF recs ((effL l).getD j default).b) _ hpl (hS.ext (E8.trans (Mod.refl _ _))) hax hcap) fun x9 w9 ⟨hS9, hax9, hc9⟩ e9 => VL.op (R.asS rfl) (VL.nil (V.region (VL.op (R.mvI rfl) (VL.op (R.add rfl rfl (by omega) (by omega)) (VL.op (R.asI rfl) (VL.nil (⟨(j + 1, x9), by dsimp only; rw [hnew]; rfl, ⟨by dsimp only; omega, (e.trans E8).trans e9, by dsimp only; rw [hnew]; exact hS9, hax9, by dsimp only; rw [hnew]; exact hc9⟩, by dsimp only; omega⟩)))))))))))
    · have hst : (evs recs 2 ((effL l).take (j + 1))).filterMap (rcP (hdR recs l)) = (evs recs 2 ((effL l).take j)).filterMap (rcP (hdR recs l)) := by
        rw [hsn, List.filterMap_append]
        cases hev : ev recs 2 ((effL l).getD j default) with
        | none => simp
        | some p =>
          rw [hev] at c60
          have : rcP (hdR recs l) p = none := by unfold rcP; rw [if_neg (by simpa using c60)]
          dsimp only; rw [List.filterMap_cons, this, List.filterMap_nil, List.append_nil]
      have E8 := e7q.trans e8c
      exact ⟨(j + 1, a, cap), by dsimp only; rw [hst, hpp]; rfl, ⟨by dsimp only; omega, e.trans E8, by dsimp only; rw [hst, ← hpp]; exact hS.ext E8, hax, by dsimp only; rw [hst, ← hpp]; exact hcap⟩, by dsimp only; omega⟩
  · have hjl : j = (effL l).length := by omega
    subst hjl
    have e := E0.trans e
    rw [List.take_length] at hS ⊢
    exact ⟨(a, cap), rfl, hS, e⟩
end Go.Proofs.Ytlefkkelohhnkaa
