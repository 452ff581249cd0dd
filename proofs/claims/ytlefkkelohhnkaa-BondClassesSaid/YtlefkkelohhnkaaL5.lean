/- Bond: BondClasses' walk. -/
import Derived.Test.YtlefkkelohhnkaaL8
namespace Go.Proofs.Ytlefkkelohhnkaa
open Go.Vc
theorem evs_ev {recs : List Rec} {kind : Int} {l : List Dec} {j : Nat} {p : Nat × Nat} (hj : j < l.length) (h : ev recs kind (l.getD j default) = some p) : p ∈ evs recs kind l := List.mem_of_getElem? (evs_at hj h).1
theorem hdR_same {recs : List Rec} {l : List Dec} {p : Nat × Nat} (h : p ∈ evs recs 1 (effL l)) : hdR recs l p.1 = hdR recs l p.2 := by
  obtain ⟨i, hi⟩ := List.mem_iff_getElem?.1 h
  exact hdF_all _ _ _ hi (List.getElem?_eq_some_iff.1 hi).1
theorem hdR_le (recs : List Rec) (l : List Dec) (j : Nat) : hdR recs l j ≤ j := hdF_le _ _ _
theorem hdR_idem (recs : List Rec) (l : List Dec) (j : Nat) : hdR recs l (hdR recs l j) = hdR recs l j := hdF_idem _ _ _
def encU (u : Int) : List Value := [.int .u8 u]
/-- Whether the classes are kept together so far. -/
def kept (recs : List Rec) (cl : List Int) (l : List Dec) : Nat → Bool
  | 0 => decide (recs.length ≤ cl.length)
  | k + 1 => match ev recs 1 (l.getD k default) with | some p => kept recs cl l k && decide (cl.getD p.1 default = cl.getD p.2 default) | none => kept recs cl l k
theorem kept_class {recs : List Rec} {cl : List Int} {l : List Dec} {k : Nat} (hk : k ≤ l.length) (h : kept recs cl l k = true) : recs.length ≤ cl.length ∧ ∀ p ∈ evs recs 1 (l.take k), cl.getD p.1 default = cl.getD p.2 default := by
  induction k with
  | zero => exact ⟨of_decide_eq_true h, fun p hp => by simp [evs] at hp⟩
  | succ k ih =>
    rw [kept] at h
    rw [evs_snoc recs 1 l k (by omega)]
    cases hev : ev recs 1 (l.getD k default) with
    | none =>
      rw [hev] at h
      obtain ⟨h1, h2⟩ := ih (by omega) h
      exact ⟨h1, fun p hp => h2 p (by simpa using hp)⟩
    | some q =>
      rw [hev] at h
      dsimp only at h
      rw [Bool.and_eq_true, decide_eq_true_eq] at h
      obtain ⟨h1, h2⟩ := ih (by omega) h.1
      refine ⟨h1, fun p hp => ?_⟩
      rw [List.mem_append] at hp
      rcases hp with hp | hp
      · exact h2 p hp
      · have : p = q := by simpa using hp
        rw [this]; exact h.2
theorem kept_head {recs : List Rec} {cl : List Int} {l : List Dec} (h : kept recs cl (effL l) (effL l).length = true) (j : Nat) : cl.getD (hdR recs l j) default = cl.getD j default := by
  obtain ⟨h1, h2⟩ := kept_class (Nat.le_refl _) h
  rw [List.take_length] at h2
  exact hdF_class (fun i => cl.getD i default) _ h2 _ (Nat.le_refl _) j
set_option maxRecDepth 100000 in
set_option maxHeartbeats 4000000 in
theorem law5_spec (ra la ca : Option Addr) (rc lc cc : Nat) (recs : List Rec) (l : List Dec) (cl : List Int) (w : World) (hm1 : recs.length ≤ 9223372036854775807) (hm2 : l.length ≤ 9223372036854775807) (hm3 : cl.length ≤ 9223372036854775807) (hR : RecSl w ra recs) (hL : DecSl w la l) (hC : TSl encU 1 w ca cl) :
    RetsP Try.prog 5 #[.slice ra recs.length rc, .slice la l.length lc, .slice ca cl.length cc] w (.bool true) := by
  refine enter (args := [_, _, _]) Try.func5 rfl Try.ntmps5 (by kernel_rfl) rfl ?_
  refine V.seq (V.region (VL.op (R.asB rfl) (VL.nil (V.seq (V.region (VL.callP Try.call9 rfl (lhead_spec _) fun w1_0 e1_0 => VL.op (R.asB rfl) (VL.nil (V.seq (V.seq (V.regionCut [18, 19, 20, 21] 21 (.bool (!fewB recs.length l.length)) (fun w' => Ext _ w') rfl (VL.op (R.mvS rfl) (VL.op (R.mvS rfl) (VL.callP Try.call10 rfl (few_spec ra la rc lc recs.length l.length _) fun w2_2 e2_2 => VL.op (R.not rfl) (VL.nil ⟨rfl, cutB rfl ?_, e2_2⟩)))) (fun rg2 w2c e2c => V.cond rfl (fun c21 => V.seq (V.region (VL.op (R.mvB rfl) (VL.op (R.asB rfl) (VL.nil (V.ret (fret1 (v := .bool _) rfl rfl rfl (⟨rfl, (e1_0.trans e2c)⟩)))))))) (fun c21 => V.skip (V.seq (?_))))))))))))))
  · rfl
  have hf : fewB recs.length l.length = true := by simpa using c21
  have hl := few_le hf
  have E0 := e1_0.trans e2c
  have hR := hR.ext E0
  have hL := hL.ext E0
  have hC := hC.ext E0
  have h1 := hds_len (hdR recs l) recs.length
  have hel := effL_len l
  have hg := fun i hi => hds_get (hdR recs l) recs.length i hi
  have hle := hdR_le recs l
  have hid := hdR_idem recs l
  refine V.region (VL.op (R.mvS rfl) (VL.op (R.mvS rfl) (VL.callX Try.call11 rfl (bind2_spec recs l ra la rc lc _ (by omega) (by omega) hR hL) fun xx w4 hx e4 => VL.op (R.mvT rfl) (VL.op (R.extr rfl rfl) (VL.op (R.extr rfl rfl) (VL.op (R.asS rfl) (VL.op (R.asS rfl) (VL.nil (V.seq (V.seq (V.region (VL.op (R.mvS rfl) (VL.op (R.lenS Try.runUnderlying26 rfl) (VL.op (R.mvS rfl) (VL.op (R.lenS Try.runUnderlying22 rfl) (VL.op (R.neq rfl rfl) (VL.nil (V.condP rfl (fun c33 => V.seq (V.region (VL.op (R.asB rfl) (VL.nil (V.ret (fret1 (v := .bool _) rfl rfl rfl (?_))))))) (fun c33 => V.skip (V.seq (V.seq (?_))))))))))))))))))))))
  · exfalso; omega
  have hH := hx.1
  have hR := hR.ext e4
  have hL := hL.ext e4
  have hC := hC.ext e4
  have E4 := E0.trans e4
  clear hx
  refine V.region (VL.op (R.asI rfl) (VL.nil (V.block (?_))))
  refine V.loop [0, 1, 2, 7, 8, 10] (fun k : Nat => [.slice ra recs.length rc, .slice la l.length lc, .slice ca cl.length cc, .bool true, .slice xx.1.1 (hds (hdR recs l) recs.length).length xx.1.2, .int .i64 (k : Nat)])
    (fun k w' => k ≤ recs.length ∧ Ext w4 w') (fun k => recs.length - k) 0 rfl ⟨Nat.zero_le _, Mod.refl _ _⟩ ?_
  rintro ρ k w5 ⟨hk, e⟩
  have hH5 := hH.ext e
  have hlek := hle k
  have hidk := hid k
  refine V.seq (V.seq (V.region (VL.op (R.mvI rfl) (VL.op (R.mvS rfl) (VL.op (R.lenS Try.runUnderlying26 rfl) (VL.op (R.lss rfl rfl) (VL.nil (V.condP rfl (fun c37 => V.skip (V.seq (V.block (V.seq (?_))))) (fun c37 => V.exit (V.seq (?_)))))))))))
  · have hkl : k < recs.length := by omega
    have hgk := hg k hkl
    have hgh := hg (hdR recs l k) (by omega)
    refine V.regionQCut mixed 27 (by kernel_rfl) rfl (fun w' => Ext _ w') (Ext.drawn _) [40, 41, 42, 43, 44, 45, 46, 47, 48, 49, 50, 51, 52, 53, 54, 55, 56, 57, 58, 59, 60, 61, 62, 63, 64, 65, 66] 66 (.bool false) rfl (VQ.op (fun wq eq => R.mvS rfl) (VQ.op (fun wq eq => R.mvI rfl) (VQ.op (fun wq eq => R.ixS Try.runUnderlying26 Try.sizeOf3 rfl rfl (by omega) (by omega) ((hH5).some (i := k) (by omega))) (VQ.op (fun wq eq => R.ld1 Try.isAgg3 rfl (((((hH5).ext eq).row (i := k) (by omega)).cell (i := 0) rfl))) (VQ.op (fun wq eq => R.lss rfl rfl) (VQ.op (fun wq eq => R.mvB rfl) (VQ.orP rfl rfl (fun g10_5 => VQ.op (fun wq eq => R.mvS rfl) (VQ.gT rfl rfl (VQ.op (fun wq eq => R.mvI rfl) (VQ.gT rfl rfl (VQ.op (fun wq eq => R.ixS Try.runUnderlying26 Try.sizeOf3 rfl rfl (by omega) (by omega) ((hH5).some (i := k) (by omega))) (VQ.gT rfl rfl (VQ.op (fun wq eq => R.ld1 Try.isAgg3 rfl (((((hH5).ext eq).row (i := k) (by omega)).cell (i := 0) rfl))) (VQ.gT rfl rfl (VQ.op (fun wq eq => R.mvI rfl) (VQ.gT rfl rfl (VQ.op (fun wq eq => R.gtr rfl rfl) (VQ.op (fun wq eq => R.pickFB rfl rfl) (VQ.op (fun wq eq => R.mvB rfl) (VQ.orP rfl rfl (fun g10_13 => VQ.op (fun wq eq => R.mvS rfl) (VQ.gT rfl rfl (VQ.op (fun wq eq => R.mvS rfl) (VQ.gT rfl rfl (VQ.op (fun wq eq => R.mvI rfl) (VQ.gT rfl rfl (VQ.op (fun wq eq => R.ixS Try.runUnderlying26 Try.sizeOf3 rfl rfl (by omega) (by omega) ((hH5).some (i := k) (by omega))) (VQ.gT rfl rfl (VQ.op (fun wq eq => R.ld1 Try.isAgg3 rfl (((((hH5).ext eq).row (i := k) (by omega)).cell (i := 0) rfl))) (VQ.gT rfl rfl (VQ.op (fun wq eq => R.ixS Try.runUnderlying26 Try.sizeOf3 rfl rfl (by omega) (by omega) (hH5.some (i := ((hds (hdR recs l) recs.length).getD k default).toNat) (by omega))) (VQ.gT rfl rfl (VQ.op (fun wq eq => R.ld1 Try.isAgg3 rfl ((((hH5.ext eq).row (i := ((hds (hdR recs l) recs.length).getD k default).toNat) (by omega)).cell (i := 0) rfl))) (VQ.gT rfl rfl (VQ.op (fun wq eq => R.mvS rfl) (VQ.gT rfl rfl (VQ.op (fun wq eq => R.mvI rfl) (VQ.gT rfl rfl (VQ.op (fun wq eq => R.ixS Try.runUnderlying26 Try.sizeOf3 rfl rfl (by omega) (by omega) ((hH5).some (i := k) (by omega))) (VQ.gT rfl rfl (VQ.op (fun wq eq => R.ld1 Try.isAgg3 rfl (((((hH5).ext eq).row (i := k) (by omega)).cell (i := 0) rfl))) (VQ.gT rfl rfl (VQ.op (fun wq eq => R.neq rfl rfl) (VQ.op (fun wq eq => R.pickFB rfl rfl) (VQ.nil (cutB rfl ?_)))))))))))))))))))))))))) (fun g10_13 => VQ.gF rfl rfl (VQ.gF rfl rfl (VQ.gF rfl rfl (VQ.gF rfl rfl (VQ.gF rfl rfl (VQ.gF rfl rfl (VQ.gF rfl rfl (VQ.gF rfl rfl (VQ.gF rfl rfl (VQ.gF rfl rfl (VQ.gF rfl rfl (VQ.op (fun wq eq => R.pickTB rfl rfl) (VQ.nil (cutB rfl ?_)))))))))))))))))))))))))))) (fun g10_5 => VQ.gF rfl rfl (VQ.gF rfl rfl (VQ.gF rfl rfl (VQ.gF rfl rfl (VQ.gF rfl rfl (VQ.op (fun wq eq => R.pickTB rfl rfl) (VQ.op (fun wq eq => R.mvB rfl) (VQ.gF rfl rfl (VQ.gF rfl rfl (VQ.gF rfl rfl (VQ.gF rfl rfl (VQ.gF rfl rfl (VQ.gF rfl rfl (VQ.gF rfl rfl (VQ.gF rfl rfl (VQ.gF rfl rfl (VQ.gF rfl rfl (VQ.gF rfl rfl (VQ.gF rfl rfl (VQ.op (fun wq eq => R.pickTB rfl rfl) (VQ.nil (cutB rfl ?_))))))))))))))))))))))))))))) (fun rg10 w10c e10c => V.cond rfl (fun c66 => V.seq (V.region (VL.op (R.asB rfl) (VL.nil (V.ret (fret1 (v := .bool _) rfl rfl rfl (?_))))))) (fun c66 => V.skip (V.region (VL.op (R.mvI rfl) (VL.op (R.add rfl rfl (by omega) (by omega)) (VL.op (R.asI rfl) (VL.nil (⟨k + 1, rfl, ⟨by omega, e.trans e10c⟩, by omega⟩))))))))
    · rw [hgk, show ((hdR recs l k : Nat) : Int).toNat = hdR recs l k by omega, hgh, hidk]; exact decide_eq_false (fun h => h rfl)
    · exfalso; omega
    · exfalso; omega
    · cases c66
  · have E5 := E4.trans e
    have hR := hR.ext e
    have hC := hC.ext e
    obtain ⟨F, hFF⟩ : ∃ F, F = effL l := ⟨_, rfl⟩
    refine V.region (VL.op (R.mvS rfl) (VL.op (R.lenS Try.runUnderlying42 rfl) (VL.op (R.mvS rfl) (VL.op (R.lenS Try.runUnderlying22 rfl) (VL.op (R.geq rfl rfl) (VL.op (R.asB rfl) (VL.nil (V.seq (V.region (VL.op (R.mvS rfl) (VL.callX Try.call16 rfl (effective_spec la lc l _ (by omega) (hL.ext (e.trans (Mod.refl _ _)))) fun x1 w6 ⟨hF, _⟩ e6 => VL.op (R.asS rfl) (VL.nil (V.seq (V.seq (V.region (VL.op (R.asI rfl) (VL.nil (V.block (?_)))))))))))))))))))
    have hH := hH5.ext e6
    have hR := hR.ext e6
    have hC := hC.ext e6
    have E6 := E5.trans e6
    rw [← hFF] at hF hel ⊢
    have hkp0 : kept recs cl F 0 = decide ((recs.length : Int) ≤ cl.length) := decide_eq_decide.2 (by omega)
    refine V.loop [0, 2, 7, 8, 11, 12, 13] (fun j : Nat => [.slice ra recs.length rc, .slice ca cl.length cc, .bool true, .slice xx.1.1 (hds (hdR recs l) recs.length).length xx.1.2, .bool (kept recs cl F j), .slice x1.1 F.length x1.2, .int .i64 (j : Nat)])
      (fun j w' => j ≤ F.length ∧ Ext w6 w') (fun j => F.length - j) 0 (by rw [hkp0]; rfl) ⟨Nat.zero_le _, Mod.refl _ _⟩ ?_
    rintro ρ j w7 ⟨hj, e7⟩
    have hF7 := hF.ext e7
    have hR7 := hR.ext e7
    have hC7 := hC.ext e7
    have hH7 := hH.ext e7
    have hkpj : kept recs cl F (j + 1) = match ev recs 1 (F.getD j default) with | some p => kept recs cl F j && decide (cl.getD p.1 default = cl.getD p.2 default) | none => kept recs cl F j := rfl
    have hkl : kept recs cl F j = true → recs.length ≤ cl.length := fun h => (kept_class hj h).1
    refine V.seq (V.seq (V.region (VL.op (R.mvI rfl) (VL.op (R.mvS rfl) (VL.op (R.lenS Try.runUnderlying23 rfl) (VL.op (R.lss rfl rfl) (VL.nil (V.condP rfl (fun c77 => V.skip (V.seq (V.block (V.seq (?_))))) (fun c77 => V.exit (V.seq (V.seq (?_))))))))))))
    · have hjl : j < F.length := by omega
      have hA := idxF_lt recs (F.getD j default).a
      have hB := idxF_lt recs (F.getD j default).b
      refine V.regionQ mixed 16 (by kernel_rfl) rfl (fun w' => Ext _ w') (Ext.drawn _) (VQ.op (fun wq eq => R.mvS rfl) (VQ.op (fun wq eq => R.mvS rfl) (VQ.op (fun wq eq => R.mvI rfl) (VQ.op (fun wq eq => R.ixS Try.runUnderlying23 Try.sizeOf39 rfl rfl (by omega) (by omega) ((hF7).some (i := j) (by omega))) (VQ.op (fun wq eq => R.fld' (o := 1) Try.runUnderlying39 rfl rfl Try.sizeOf37 rfl rfl) (VQ.op (fun wq eq => R.ldA Try.isAgg37 Try.sizeOf37 rfl rfl ((show RowAt _ _ _ (encKey (F.getD j default).a) from ((((hF7).ext eq).row (i := j) (by omega)).sub 1 3 rfl))) rfl) (VQ.callP (fun _ _ h k => Mod.trans h k) Try.call22 rfl (fun wq eq => index_spec ra rc recs (F.getD j default).a _ (by omega) (hR7.ext eq)) (VQ.op (fun wq eq => R.mvS rfl) (VQ.op (fun wq eq => R.mvS rfl) (VQ.op (fun wq eq => R.mvI rfl) (VQ.op (fun wq eq => R.ixS Try.runUnderlying23 Try.sizeOf39 rfl rfl (by omega) (by omega) ((hF7).some (i := j) (by omega))) (VQ.op (fun wq eq => R.fld' (o := 4) Try.runUnderlying39 rfl rfl Try.sizeOf37 rfl rfl) (VQ.op (fun wq eq => R.ldA Try.isAgg37 Try.sizeOf37 rfl rfl ((show RowAt _ _ _ (encKey (F.getD j default).b) from ((((hF7).ext eq).row (i := j) (by omega)).sub 4 3 rfl))) rfl) (VQ.callP (fun _ _ h k => Mod.trans h k) Try.call22 rfl (fun wq eq => index_spec ra rc recs (F.getD j default).b _ (by omega) (hR7.ext eq)) (VQ.op (fun wq eq => R.asI rfl) (VQ.op (fun wq eq => R.asI rfl) (VQ.nil fun w17q e17q => VL.nil (V.seq (V.seq (V.regionCut [94, 95, 96, 97, 98, 99, 100, 101, 102, 103, 104, 105, 106, 107] 107 (.bool (ev recs 1 (F.getD j default)).isNone) (fun w' => Ext _ w') rfl (VL.op (R.mvS rfl) (VL.op (R.mvI rfl) (VL.op (R.ixS Try.runUnderlying23 Try.sizeOf39 rfl rfl (by omega) (by omega) ((hF7).some (i := j) (by omega))) (VL.op (R.fld' (o := 0) Try.runUnderlying39 rfl rfl Try.sizeOf3 rfl rfl) (VL.op (R.ld1 Try.isAgg3 rfl (((((hF7).ext e17q).row (i := j) (by omega)).cell (i := 0) rfl))) (VL.op (R.neq rfl rfl) (VL.op (R.mvB rfl) (VL.orP rfl rfl (fun g18_6 => VL.op (R.mvI rfl) (VL.gT rfl rfl (VL.op (R.lss rfl rfl) (VL.op (R.pickFB rfl rfl) (VL.op (R.mvB rfl) (VL.orP rfl rfl (fun g18_10 => VL.op (R.mvI rfl) (VL.gT rfl rfl (VL.op (R.lss rfl rfl) (VL.op (R.pickFB rfl rfl) (VL.nil ⟨rfl, cutB rfl ?_, Mod.refl _ _⟩))))) (fun g18_10 => VL.gF rfl rfl (VL.op (R.pickTB rfl rfl) (VL.nil ⟨rfl, cutB rfl ?_, Mod.refl _ _⟩))))))))) (fun g18_6 => VL.gF rfl rfl (VL.op (R.pickTB rfl rfl) (VL.op (R.mvB rfl) (VL.gF rfl rfl (VL.gF rfl rfl (VL.op (R.pickTB rfl rfl) (VL.nil ⟨rfl, cutB rfl ?_, Mod.refl _ _⟩))))))))))))))) (fun rg18 w18c e18c => V.cond rfl (fun c107 => V.exit (V.region (VL.op (R.mvI rfl) (VL.op (R.add rfl rfl (by omega) (by omega)) (VL.op (R.asI rfl) (VL.nil (?_))))))) (fun c107 => V.skip (V.seq (V.seq (?_)))))))))))))))))))))))))
      · unfold ev
        by_cases h : 0 ≤ idxF recs (F.getD j default).b
        · rw [if_pos ⟨Classical.not_not.1 g18_6, by omega, h⟩, decide_eq_false (by omega)]; rfl
        · rw [if_neg (fun hh => h hh.2.2), decide_eq_true (by omega)]; rfl
      · unfold ev; rw [if_neg (fun h => by omega)]; rfl
      · unfold ev; rw [if_neg (fun h => g18_6 h.1)]; rfl
      · rw [Option.isNone_iff_eq_none] at c107
        rw [c107] at hkpj
        dsimp only at hkpj
        exact ⟨j + 1, by rw [hkpj]; rfl, ⟨by omega, e7.trans (e17q.trans e18c)⟩, by omega⟩
      · cases hev : ev recs 1 (F.getD j default) with
        | none => rw [hev] at c107; cases c107
        | some p =>
          rw [hev] at hkpj
          dsimp only at hkpj
          have hsm := hdR_same (recs := recs) (l := l) (hFF ▸ evs_ev hjl hev)
          obtain ⟨hp, _, hp1, hp2⟩ := ev_some hev
          have hia : idxF recs (F.getD j default).a = ((p.1 : Nat) : Int) := by rw [hp]; dsimp only; omega
          have hib : idxF recs (F.getD j default).b = ((p.2 : Nat) : Int) := by rw [hp]; dsimp only; omega
          rw [hia, hib]
          rw [hia] at hA
          rw [hib] at hB
          have hg1 := hg p.1 (by omega)
          have hg2 := hg p.2 (by omega)
          have E17 := e17q.trans e18c
          have hH7 := hH7.ext E17
          refine V.regionQ mixed 9 (by kernel_rfl) rfl (fun w' => Ext _ w') (Ext.drawn _) (VQ.op (fun wq eq => R.mvS rfl) (VQ.op (fun wq eq => R.mvI rfl) (VQ.op (fun wq eq => R.ixS Try.runUnderlying26 Try.sizeOf3 rfl rfl (by omega) (by omega) ((hH7).some (i := p.1) (by omega))) (VQ.op (fun wq eq => R.ld1 Try.isAgg3 rfl (((((hH7).ext eq).row (i := p.1) (by omega)).cell (i := 0) rfl))) (VQ.op (fun wq eq => R.mvS rfl) (VQ.op (fun wq eq => R.mvI rfl) (VQ.op (fun wq eq => R.ixS Try.runUnderlying26 Try.sizeOf3 rfl rfl (by omega) (by omega) ((hH7).some (i := p.2) (by omega))) (VQ.op (fun wq eq => R.ld1 Try.isAgg3 rfl (((((hH7).ext eq).row (i := p.2) (by omega)).cell (i := 0) rfl))) (VQ.op (fun wq eq => R.neq rfl rfl) (VQ.nil fun w19q e19q => VL.nil (V.condP rfl (fun c116 => V.seq (V.region (VL.op (R.asB rfl) (VL.nil (V.ret (fret1 (v := .bool _) rfl rfl rfl (?_))))))) (fun c116 => V.skip (?_)))))))))))))
          · exfalso; rw [hg1, hg2] at c116; omega
          · have hC7 := hC7.ext (E17.trans e19q)
            refine V.regionQCut mixed 13 (by kernel_rfl) rfl (fun w' => Ext _ w') (Ext.drawn _) [11, 117, 118, 119, 120, 121, 122, 123, 124, 125, 126, 127, 128] 11 (.bool (kept recs cl F (j + 1))) rfl (VQ.op (fun wq eq => R.mvB rfl) (VQ.op (fun wq eq => R.mvB rfl) (VQ.and rfl rfl (fun g21_1 => VQ.op (fun wq eq => R.mvS rfl) (VQ.gT rfl rfl (VQ.op (fun wq eq => R.mvI rfl) (VQ.gT rfl rfl (VQ.op (fun wq eq => R.ixS Try.runUnderlying42 Try.sizeOf5 rfl rfl (by have := hkl g21_1; omega) (by have := hkl g21_1; omega) ((hC7).some (i := p.1) (by have := hkl g21_1; omega))) (VQ.gT rfl rfl (VQ.op (fun wq eq => R.ld1 Try.isAgg5 rfl (((((hC7).ext eq).row (i := p.1) (by have := hkl g21_1; omega)).cell (i := 0) rfl))) (VQ.gT rfl rfl (VQ.op (fun wq eq => R.mvS rfl) (VQ.gT rfl rfl (VQ.op (fun wq eq => R.mvI rfl) (VQ.gT rfl rfl (VQ.op (fun wq eq => R.ixS Try.runUnderlying42 Try.sizeOf5 rfl rfl (by have := hkl g21_1; omega) (by have := hkl g21_1; omega) ((hC7).some (i := p.2) (by have := hkl g21_1; omega))) (VQ.gT rfl rfl (VQ.op (fun wq eq => R.ld1 Try.isAgg5 rfl (((((hC7).ext eq).row (i := p.2) (by have := hkl g21_1; omega)).cell (i := 0) rfl))) (VQ.gT rfl rfl (VQ.op (fun wq eq => R.eql rfl rfl) (VQ.op (fun wq eq => R.pickTB rfl rfl) (VQ.op (fun wq eq => R.asB rfl) (VQ.nil (cutB rfl ?_))))))))))))))))))))) (fun g21_1 => VQ.gF rfl rfl (VQ.gF rfl rfl (VQ.gF rfl rfl (VQ.gF rfl rfl (VQ.gF rfl rfl (VQ.gF rfl rfl (VQ.gF rfl rfl (VQ.gF rfl rfl (VQ.op (fun wq eq => R.pickFB rfl rfl) (VQ.op (fun wq eq => R.asB rfl) (VQ.nil (cutB rfl ?_))))))))))))))) (fun rg21 w21c e21c => V.region (VL.op (R.mvI rfl) (VL.op (R.add rfl rfl (by omega) (by omega)) (VL.op (R.asI rfl) (VL.nil (⟨j + 1, rfl, ⟨by omega, (e7.trans E17).trans (e19q.trans e21c)⟩, by omega⟩))))))
            · rw [hkpj, g21_1, Bool.true_and]
            · rw [hkpj, g21_1, Bool.false_and]
    · have hjl : j = F.length := by omega
      subst hjl
      have hkh : kept recs cl F F.length = true → ∀ i, cl.getD (hdR recs l i) default = cl.getD i default := fun h i => by
        rw [hFF] at h; exact kept_head h i
      have E7 := E6.trans e7
      refine V.region (VL.op (R.asI rfl) (VL.nil (V.block (?_))))
      refine V.loop [2, 7, 8, 11, 16] (fun i : Nat => [.slice ca cl.length cc, .bool true, .slice xx.1.1 (hds (hdR recs l) recs.length).length xx.1.2, .bool (kept recs cl F F.length), .int .i64 (i : Nat)])
        (fun i w' => i ≤ recs.length ∧ Ext w7 w') (fun i => recs.length - i) 0 rfl ⟨Nat.zero_le _, Mod.refl _ _⟩ ?_
      rintro ρ i w8 ⟨hi, e8⟩
      have hH8 := hH7.ext e8
      have hC8 := hC7.ext e8
      have hlei := hle i
      refine V.seq (V.seq (V.regionCut [129, 130, 131, 132, 133, 134, 135] 135 (.bool (decide (i < recs.length) && kept recs cl F F.length)) (fun w' => Ext _ w') rfl (VL.op (R.mvI rfl) (VL.op (R.mvS rfl) (VL.op (R.lenS Try.runUnderlying26 rfl) (VL.op (R.lss rfl rfl) (VL.op (R.mvB rfl) (VL.andP rfl rfl (fun g23_4 => VL.op (R.mvB rfl) (VL.op (R.pickTB rfl rfl) (VL.nil ⟨rfl, cutB rfl ?_, Mod.refl _ _⟩))) (fun g23_4 => VL.op (R.pickFB rfl rfl) (VL.nil ⟨rfl, cutB rfl ?_, Mod.refl _ _⟩)))))))) (fun rg23 w23c e23c => V.cond rfl (fun c135 => V.skip (V.seq (V.block (V.seq (?_))))) (fun c135 => V.exit (V.seq (V.region (VL.op (R.mvB rfl) (VL.op (R.asB rfl) (VL.nil (V.ret (fret1 (v := .bool _) rfl rfl rfl (⟨rfl, (E7.trans e8).trans e23c⟩))))))))))))
      · rw [decide_eq_true (by omega), Bool.true_and]
      · rw [decide_eq_false (by omega), Bool.false_and]
      · rw [Bool.and_eq_true, decide_eq_true_eq] at c135
        have hgi := hg i c135.1
        have hkk := hkl c135.2
        have hcl := hkh c135.2 i
        have hH8 := hH8.ext e23c
        have hC8 := hC8.ext e23c
        refine V.regionQ mixed 12 (by kernel_rfl) rfl (fun w' => Ext _ w') (Ext.drawn _) (VQ.op (fun wq eq => R.mvS rfl) (VQ.op (fun wq eq => R.mvI rfl) (VQ.op (fun wq eq => R.ixS Try.runUnderlying42 Try.sizeOf5 rfl rfl (by omega) (by omega) ((hC8).some (i := i) (by omega))) (VQ.op (fun wq eq => R.ld1 Try.isAgg5 rfl (((((hC8).ext eq).row (i := i) (by omega)).cell (i := 0) rfl))) (VQ.op (fun wq eq => R.mvS rfl) (VQ.op (fun wq eq => R.mvS rfl) (VQ.op (fun wq eq => R.mvI rfl) (VQ.op (fun wq eq => R.ixS Try.runUnderlying26 Try.sizeOf3 rfl rfl (by omega) (by omega) ((hH8).some (i := i) (by omega))) (VQ.op (fun wq eq => R.ld1 Try.isAgg3 rfl (((((hH8).ext eq).row (i := i) (by omega)).cell (i := 0) rfl))) (VQ.op (fun wq eq => R.ixS Try.runUnderlying42 Try.sizeOf5 rfl rfl (by omega) (by omega) (hC8.some (i := ((hds (hdR recs l) recs.length).getD i default).toNat) (by omega))) (VQ.op (fun wq eq => R.ld1 Try.isAgg5 rfl ((((hC8.ext eq).row (i := ((hds (hdR recs l) recs.length).getD i default).toNat) (by omega)).cell (i := 0) rfl))) (VQ.op (fun wq eq => R.neq rfl rfl) (VQ.nil fun w25q e25q => VL.nil (V.condP rfl (fun c149 => V.seq (V.region (VL.op (R.asB rfl) (VL.nil (V.ret (fret1 (v := .bool _) rfl rfl rfl (?_))))))) (fun c149 => V.skip (V.region (VL.op (R.mvI rfl) (VL.op (R.add rfl rfl (by omega) (by omega)) (VL.op (R.asI rfl) (VL.nil (⟨i + 1, rfl, ⟨by omega, e8.trans (e23c.trans e25q)⟩, by omega⟩)))))))))))))))))))))
        rw [hgi, show ((hdR recs l i : Nat) : Int).toNat = hdR recs l i by omega] at c149
        exact absurd hcl.symm c149
end Go.Proofs.Ytlefkkelohhnkaa
