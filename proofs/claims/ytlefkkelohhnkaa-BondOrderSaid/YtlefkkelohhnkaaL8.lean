/- Bond: BondOrder's walk. -/
import Derived.Test.YtlefkkelohhnkaaL7
namespace Go.Proofs.Ytlefkkelohhnkaa
open Go.Vc
theorem filter_take {α : Type} [Inhabited α] (p : α → Bool) (l : List α) (k : Nat) (hk : k < l.length) : (l.take (k + 1)).filter p = (l.take k).filter p ++ (if p (l.getD k default) = true then [l.getD k default] else []) := by
  rw [List.take_succ_eq_append_getElem hk, List.filter_append]
  congr 1
  rw [show l.getD k default = l[k] by simp [List.getD, hk], List.filter_cons, List.filter_nil]
theorem rev_get {α : Type} [Inhabited α] (l : List α) (k : Nat) (hk : k < l.length) : l.reverse.getD k default = l.getD (l.length - 1 - k) default := by
  simp [List.getD, List.getElem?_reverse, hk, show l.length - 1 - k < l.length by omega]
set_option maxRecDepth 100000 in
set_option maxHeartbeats 4000000 in
theorem law8_spec (ra la : Option Addr) (rc lc : Nat) (recs : List Rec) (l : List Dec) (w : World) (hm1 : recs.length ≤ 9223372036854775807) (hm2 : l.length ≤ 9223372036854775807) (hR : RecSl w ra recs) (hL : DecSl w la l) :
    RetsP Try.prog 8 #[.slice ra recs.length rc, .slice la l.length lc] w (.bool true) := by
  refine enter (args := [_, _]) Try.func8 rfl Try.ntmps8 (by kernel_rfl) rfl ?_
  refine V.seq (V.region (VL.op (R.asB rfl) (VL.nil (V.seq (V.region (VL.callP Try.call9 rfl (lhead_spec _) fun w1_0 e1_0 => VL.op (R.asB rfl) (VL.nil (V.seq (V.seq (V.regionCut [14, 15, 16, 17] 17 (.bool (!fewB recs.length l.length)) (fun w' => Ext _ w') rfl (VL.op (R.mvS rfl) (VL.op (R.mvS rfl) (VL.callP Try.call10 rfl (few_spec ra la rc lc recs.length l.length _) fun w2_2 e2_2 => VL.op (R.not rfl) (VL.nil ⟨rfl, cutB rfl ?_, e2_2⟩)))) (fun rg2 w2c e2c => V.cond rfl (fun c17 => V.seq (V.region (VL.op (R.mvB rfl) (VL.op (R.asB rfl) (VL.nil (V.ret (fret1 (v := .bool _) rfl rfl rfl (⟨rfl, (e1_0.trans e2c)⟩)))))))) (fun c17 => V.skip (V.seq (?_))))))))))))))
  · rfl
  have hf : fewB recs.length l.length = true := by simpa using c17
  have hl := few_le hf
  have E0 := e1_0.trans e2c
  have hR := hR.ext E0
  have hL := hL.ext E0
  have hel := effL_len l
  refine V.region (VL.op (R.mvS rfl) (VL.callX Try.call16 rfl (effective_spec la lc l _ (by omega) hL) fun xx w4 ⟨hF, _⟩ e4 => VL.op (R.asS rfl) (VL.nil (V.seq (V.region (VL.op (R.asS rfl) (VL.nil (V.cut [0, 1, 5, 7] (fun x : Option Addr × Nat => [.slice ra recs.length rc, .slice la l.length lc, .bool true, .slice x.1 ((effL l).reverse.filter (inB recs)).length x.2]) (fun x w' => Ext w4 w' ∧ DecSl w' x.1 ((effL l).reverse.filter (inB recs))) (V.seq (V.region (VL.op (R.mvS rfl) (VL.op (R.lenS Try.runUnderlying23 rfl) (VL.op (R.sub rfl rfl (by omega) (by omega)) (VL.op (R.asI rfl) (VL.nil (V.block (?_))))))))) (fun rgB0 xB0 wBB0 hBB0 => V.seq (?_))))))))))
  · have hR := hR.ext e4
    refine V.loop [0, 1, 5, 6, 7, 8] (fun x : Nat × Option Addr × Nat => [.slice ra recs.length rc, .slice la l.length lc, .bool true, .slice xx.1 (effL l).length xx.2, .slice x.2.1 (((effL l).reverse.take x.1).filter (inB recs)).length x.2.2, .int .i64 (((effL l).length : Int) - 1 - (x.1 : Nat))])
      (fun x w' => x.1 ≤ (effL l).length ∧ Ext w4 w' ∧ OwnT encDec 7 39 w4.heap.size w' x.2.1 x.2.2 (((effL l).reverse.take x.1).filter (inB recs))) (fun x => (effL l).length - x.1) (0, none, 0) (by simp only [Int.natCast_zero, Int.sub_zero]; rfl) ⟨Nat.zero_le _, Mod.refl _ _, OwnT.nil encDec 7 39 _ _⟩ ?_
    rintro ρ ⟨k, a, cap⟩ w5 ⟨hk, e, hO⟩
    dsimp only at hk e hO ⊢
    have hF5 := hF.ext e
    have hR5 := hR.ext e
    have hrl : (effL l).reverse.length = (effL l).length := List.length_reverse
    have hol : (((effL l).reverse.take k).filter (inB recs)).length ≤ 60 := Nat.le_trans (List.length_filter_le _ _) (by rw [List.length_take]; omega)
    refine V.seq (V.seq (V.region (VL.op (R.mvI rfl) (VL.op (R.geq rfl rfl) (VL.nil (V.condP rfl (fun c25 => V.skip (V.seq (V.block (V.seq (?_))))) (fun c25 => V.exit (?_))))))))
    · have hkl : k < (effL l).length := by omega
      obtain ⟨i, hi⟩ : ∃ i, i = (effL l).length - 1 - k := ⟨_, rfl⟩
      have hii : ((effL l).length : Int) - 1 - (k : Nat) = ((i : Nat) : Int) := by omega
      have hft := filter_take (inB recs) (effL l).reverse k (by omega)
      rw [rev_get _ _ hkl, ← hi] at hft
      have hnx : ((i : Nat) : Int) - 1 = ((effL l).length : Int) - 1 - ((k + 1 : Nat) : Int) := by omega
      rw [hii]
      refine V.regionCut [28, 29, 30, 31, 32, 33, 34, 35, 36, 37, 38, 39, 40, 41, 42, 43, 44, 45] 45 (.bool (inB recs ((effL l).getD i default))) (fun w' => Ext _ w') rfl (VL.op (R.mvS rfl) (VL.op (R.mvS rfl) (VL.op (R.mvI rfl) (VL.op (R.ixS Try.runUnderlying23 Try.sizeOf39 rfl rfl (by omega) (by omega) ((hF5).some (i := i) (by omega))) (VL.op (R.fld' (o := 1) Try.runUnderlying39 rfl rfl Try.sizeOf37 rfl rfl) (VL.op (R.ldA Try.isAgg37 Try.sizeOf37 rfl rfl ((show RowAt _ _ _ (encKey ((effL l).getD i default).a) from ((((hF5).ext (Mod.refl _ _)).row (i := i) (by omega)).sub 1 3 rfl))) rfl) (VL.callP Try.call22 rfl (index_spec ra rc recs ((effL l).getD i default).a _ (by omega) (hR5.ext (Mod.refl _ _))) fun w9_6 e9_6 => VL.op (R.geq rfl rfl) (VL.op (R.mvB rfl) (VL.andP rfl rfl (fun g9_8 => VL.op (R.mvS rfl) (VL.gT rfl rfl (VL.op (R.mvS rfl) (VL.gT rfl rfl (VL.op (R.mvI rfl) (VL.gT rfl rfl (VL.op (R.ixS Try.runUnderlying23 Try.sizeOf39 rfl rfl (by omega) (by omega) ((hF5).some (i := i) (by omega))) (VL.gT rfl rfl (VL.op (R.fld' (o := 4) Try.runUnderlying39 rfl rfl Try.sizeOf37 rfl rfl) (VL.gT rfl rfl (VL.op (R.ldA Try.isAgg37 Try.sizeOf37 rfl rfl ((show RowAt _ _ _ (encKey ((effL l).getD i default).b) from ((((hF5).ext e9_6).row (i := i) (by omega)).sub 4 3 rfl))) rfl) (VL.gT rfl rfl (VL.callP Try.call22 rfl (index_spec ra rc recs ((effL l).getD i default).b _ (by omega) (hR5.ext e9_6)) fun w9_15 e9_15 => VL.gT rfl rfl (VL.op (R.geq rfl rfl) (VL.op (R.pickTB rfl rfl) (VL.nil ⟨rfl, cutB rfl ?_, (Mod.trans e9_6 e9_15)⟩)))))))))))))))) (fun g9_8 => VL.gF rfl rfl (VL.gF rfl rfl (VL.gF rfl rfl (VL.gF rfl rfl (VL.gF rfl rfl (VL.gF rfl rfl (VL.gF rfl rfl (VL.op (R.pickFB rfl rfl) (VL.nil ⟨rfl, cutB rfl ?_, e9_6⟩)))))))))))))))))) (fun rg9 w9c e9c => V.cond rfl (fun c45 => V.region (VL.op (R.mvS rfl) (VL.op (R.mvS rfl) (VL.op (R.mvI rfl) (VL.op (R.ixS Try.runUnderlying23 Try.sizeOf39 rfl rfl (by omega) (by omega) ((hF5).some (i := i) (by omega))) (VL.op (R.ldA Try.isAgg39 Try.sizeOf39 rfl rfl ((show RowAt _ _ _ (encDec ((effL l).getD i default)) from (((hF5).ext e9c).row (i := i) (by omega)))) rfl) (VL.append1 el23 Try.runUnderlying23 Try.sizeOf39 Try.zeroValue39 rfl ((effL l).getD i default) rfl rfl rfl (hO.ext e9c) rfl rfl rfl (by omega) (by unfold maxLen; omega) (by have := e.size; have := (e9c).size; omega) fun a8 cap8 w8 vt ho8 m8 hf8 => VL.op (R.asS rfl) (VL.nil (V.region (VL.op (R.mvI rfl) (VL.op (R.sub rfl rfl (by omega) (by omega)) (VL.op (R.asI rfl) (VL.nil (?_)))))))))))))) (fun c45 => V.skip (V.region (VL.op (R.mvI rfl) (VL.op (R.sub rfl rfl (by omega) (by omega)) (VL.op (R.asI rfl) (VL.nil (?_))))))))
      · unfold inB; rw [decide_eq_true g9_8, Bool.true_and]
      · unfold inB; rw [decide_eq_false g9_8, Bool.false_and]
      · rw [if_pos c45] at hft
        refine ⟨(k + 1, a8, cap8), ?_, ⟨by dsimp only; omega, Mod.ownA (e.trans e9c) m8 fun y hy => hO.ge y hy, by dsimp only; rw [hft]; exact ho8⟩, by dsimp only; omega⟩
        dsimp only
        rw [hft, List.length_append, ← hnx]; rfl
      · rw [if_neg (by rw [c45]; decide), List.append_nil] at hft
        refine ⟨(k + 1, a, cap), ?_, ⟨by dsimp only; omega, e.trans e9c, by dsimp only; rw [hft]; exact hO.ext e9c⟩, by dsimp only; omega⟩
        dsimp only
        rw [hft, ← hnx]; rfl
    · have hkl : k = (effL l).reverse.length := by omega
      subst hkl
      rw [List.take_length] at hO
      exact ⟨(a, cap), by rw [List.take_length]; rfl, e, hO.sl⟩
  · obtain ⟨eB, hT⟩ := hBB0
    have hR := hR.ext (e4.trans eB)
    have hL := hL.ext (e4.trans eB)
    have h1 := hds_len (hdR recs l) recs.length
    have h2 := bndP_len recs l
    have h4 := conP_len recs l
    have hfl : ((effL l).reverse.filter (inB recs)).length ≤ 60 := Nat.le_trans (List.length_filter_le _ _) (by rw [List.length_reverse]; omega)
    have t1 : hds (hdR recs ((effL l).reverse.filter (inB recs))) recs.length = hds (hdR recs l) recs.length := by rw [turn_hd]
    refine V.region (VL.op (R.mvS rfl) (VL.op (R.mvS rfl) (VL.callX Try.call11 rfl (bind2_spec recs l ra la rc lc _ (by omega) (by omega) hR hL) fun p w6 hp e6 => VL.op (R.mvT rfl) (VL.op (R.extr rfl rfl) (VL.op (R.extr rfl rfl) (VL.op (R.asS rfl) (VL.op (R.asS rfl) (VL.nil (V.seq (V.region (VL.op (R.mvS rfl) (VL.op (R.mvS rfl) (VL.callX Try.call11 rfl (bind_is t1 (turn_bnd recs l) ra xB0.1 rc xB0.2 _ (by omega) (by omega) (hR.ext e6) (hT.ext e6)) fun q w7 hq e7 => VL.op (R.mvT rfl) (VL.op (R.extr rfl rfl) (VL.op (R.extr rfl rfl) (VL.op (R.asS rfl) (VL.op (R.asS rfl) (VL.nil (V.seq (V.region (VL.op (R.mvB rfl) (VL.op (R.mvB rfl) (VL.and rfl rfl (fun g13_1 => VL.op (R.mvS rfl) (VL.gT rfl rfl (VL.op (R.mvS rfl) (VL.gT rfl rfl (VL.callP Try.call13 rfl (ints_spec p.1.1 q.1.1 p.1.2 q.1.2 (hds (hdR recs l) recs.length) (hds (hdR recs l) recs.length) _ (by omega) (by omega) (hp.1.ext e7) hq.1) fun w13_4 e13_4 => VL.op (R.pickTB rfl rfl) (VL.op (R.mvB rfl) (VL.and rfl rfl (fun g13_6 => VL.op (R.mvS rfl) (VL.gT rfl rfl (VL.op (R.mvS rfl) (VL.gT rfl rfl (VL.callP Try.call14 rfl (pairs_spec p.2.1 q.2.1 p.2.2 q.2.2 (bndP recs l) (bndP recs l) _ (by omega) (by omega) ((hp.2.ext e7).ext e13_4) (hq.2.ext e13_4)) fun w13_9 e13_9 => VL.op (R.pickTB rfl rfl) (VL.op (R.mvB rfl) (VL.and rfl rfl (fun g13_11 => VL.op (R.mvS rfl) (VL.gT rfl rfl (VL.op (R.mvS rfl) (VL.gT rfl rfl (VL.callX Try.call18 rfl (contra_spec recs l ra la rc lc _ (by omega) (by omega) (hR.ext (((e6.trans e7).trans e13_4).trans e13_9)) (hL.ext (((e6.trans e7).trans e13_4).trans e13_9))) fun s w8 hs e8 => VL.gT rfl rfl (VL.op (R.mvS rfl) (VL.gT rfl rfl (VL.op (R.mvS rfl) (VL.gT rfl rfl (VL.callX Try.call18 rfl (contra_is (turn_con recs l) ra xB0.1 rc xB0.2 _ (by omega) (by omega) (hR.ext ((((e6.trans e7).trans e13_4).trans e13_9).trans e8)) (hT.ext ((((e6.trans e7).trans e13_4).trans e13_9).trans e8))) fun t w9 ht e9 => VL.gT rfl rfl (VL.callP Try.call14 rfl (pairs_spec s.1 t.1 s.2 t.2 (conP recs l) (conP recs l) _ (by omega) (by omega) (hs.ext e9) ht) fun w13_18 e13_18 => VL.op (R.pickTB rfl rfl) (VL.op (R.asB rfl) (VL.nil (V.ret (fret1 (v := .bool _) rfl rfl rfl (⟨?_, (E0.trans (e4.trans eB)).trans ((((((e6.trans e7).trans e13_4).trans e13_9).trans e8).trans e9).trans e13_18)⟩)))))))))))))))) (fun g13_11 => VL.gF rfl rfl (VL.gF rfl rfl (VL.gF rfl rfl (VL.gF rfl rfl (VL.gF rfl rfl (VL.gF rfl rfl (VL.op (R.pickFB rfl rfl) (VL.op (R.asB rfl) (VL.nil (V.ret (fret1 (v := .bool _) rfl rfl rfl (⟨?_, (E0.trans (e4.trans eB)).trans (((e6.trans e7).trans e13_4).trans e13_9)⟩))))))))))))))))))) (fun g13_6 => VL.gF rfl rfl (VL.gF rfl rfl (VL.op (R.pickFB rfl rfl) (VL.op (R.mvB rfl) (VL.gF rfl rfl (VL.gF rfl rfl (VL.gF rfl rfl (VL.gF rfl rfl (VL.gF rfl rfl (VL.gF rfl rfl (VL.gF rfl rfl (VL.op (R.pickFB rfl rfl) (VL.op (R.asB rfl) (VL.nil (V.ret (fret1 (v := .bool _) rfl rfl rfl (⟨?_, (E0.trans (e4.trans eB)).trans ((e6.trans e7).trans e13_4)⟩)))))))))))))))))))))))) (fun g13_1 => VL.gF rfl rfl (VL.gF rfl rfl (VL.op (R.pickFB rfl rfl) (VL.op (R.mvB rfl) (VL.gF rfl rfl (VL.gF rfl rfl (VL.gF rfl rfl (VL.op (R.pickFB rfl rfl) (VL.op (R.mvB rfl) (VL.gF rfl rfl (VL.gF rfl rfl (VL.gF rfl rfl (VL.gF rfl rfl (VL.gF rfl rfl (VL.gF rfl rfl (VL.gF rfl rfl (VL.op (R.pickFB rfl rfl) (VL.op (R.asB rfl) (VL.nil (V.ret (fret1 (v := .bool _) rfl rfl rfl (⟨?_, (E0.trans (e4.trans eB)).trans (e6.trans e7)⟩)))))))))))))))))))))))))))))))))))))))))))))
    all_goals first | (rw [decide_eq_true rfl]; done) | (exfalso; simp_all; done)
end Go.Proofs.Ytlefkkelohhnkaa
