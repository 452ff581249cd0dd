/- SurviveOthers' walk. -/
import Derived.Test.YtbckofoibdljgaaL7
import Derived.Test.YtbckofoibdljgaaP8
namespace Go.Proofs.Ytbckofoibdljgaa
open Go.Vc Go.Sort
theorem shK_same {α : Type} [Inhabited α] (f : α → α) (l : List α) {k : Nat} (hk : k < l.length) (h : f (l.getD k default) = l.getD k default) : shK f l (k + 1) = shK f l k := by
  rw [← shK_set f l hk, h]
  have e := shK_get f l hk
  apply List.ext_getElem (by simp)
  intro i h1 h2
  rw [List.getElem_set]
  split
  · rename_i hik; subst hik
    rw [← e]; simp [List.getD, h2]
  · rfl
set_option maxRecDepth 100000 in
set_option maxHeartbeats 4000000 in
theorem law5_spec (by_ : Int) (a b : Option Addr) (ca cb : Nat) (l : List Cell) (t : List Int) (w : World) (hm : l.length ≤ 9223372036854775807) (hm2 : t.length ≤ 9223372036854775807) (hxa : a = none → ca = 0) (hS : CellSl w a l) (hT : IntSl w b t) :
    RetsP Try.prog 5 #[.int .i64 by_, .slice a l.length ca, .slice b t.length cb] w (.bool true) := by
  refine enter (args := [_, _, _]) Try.func5 rfl Try.ntmps5 (by kernel_rfl) rfl ?_
  refine V.seq (V.region (VL.op (R.asB rfl) (VL.nil (V.seq (V.region (VL.callP Try.call10 rfl (head_spec _) fun w1_0 e1_0 => VL.op (R.asB rfl) (VL.nil (V.seq (V.seq (V.regionCut [18, 19, 20, 21, 22, 23, 24, 25] 25 (.bool (!fewB l 30 || decide (40 < (t.length : Int)))) (fun w' => Ext _ w') rfl (VL.op (R.mvS rfl) (VL.callP Try.call11 rfl (few_spec a ca l 30 _ hm (hS.ext e1_0)) fun w2_1 e2_1 => VL.op (R.not rfl) (VL.op (R.mvB rfl) (VL.or rfl rfl (fun g2_3 => VL.op (R.mvS rfl) (VL.gT rfl rfl (VL.op (R.lenS Try.runUnderlying23 rfl) (VL.gT rfl rfl (VL.op (R.gtr rfl rfl) (VL.op (R.pickFB rfl rfl) (VL.nil ⟨rfl, cutB rfl ?_, e2_1⟩))))))) (fun g2_3 => VL.gF rfl rfl (VL.gF rfl rfl (VL.op (R.pickTB rfl rfl) (VL.nil ⟨rfl, cutB rfl ?_, e2_1⟩)))))))) (fun rg2 w2c e2c => V.cond rfl (fun c25 => V.seq (V.region (VL.op (R.mvB rfl) (VL.op (R.asB rfl) (VL.nil (V.ret (fret1 (v := .bool _) rfl rfl rfl (⟨rfl, (e1_0.trans e2c)⟩)))))))) (fun c25 => V.skip (V.seq (?_))))))))))))))
  · rw [g2_3, Bool.false_or]
  · rw [g2_3]; rfl
  rw [Bool.or_eq_false_iff] at c25
  have hf : fewB l 30 = true := by simpa using c25.1
  have hl := few_len hf
  have ht40 : ¬ (40 < (t.length : Int)) := of_decide_eq_false c25.2
  have E0 := e1_0.trans e2c
  have hS := hS.ext E0
  have hT := hT.ext E0
  have hol : (othersF by_ l t).length ≤ l.length := Nat.le_trans (othK_len _ _ _) (rankL_len by_ l t)
  refine V.region (VL.op (R.mvI rfl) (VL.op (R.mvS rfl) (VL.op (R.mvS rfl) (VL.callP Try.call12 rfl (choose_spec by_ a b ca cb l t _ (by omega) (by omega) (hS.ext (Mod.refl _ _)) (hT.ext (Mod.refl _ _))) fun w4_3 e4_3 => VL.op (R.asI rfl) (VL.nil (V.seq (V.region (VL.op (R.mvI rfl) (VL.op (R.mvS rfl) (VL.op (R.mvS rfl) (VL.callX Try.call15 rfl (others_spec by_ a b ca cb l t _ (by omega) (by omega) (hS.ext e4_3) (hT.ext e4_3)) fun x w5 hx e5 => VL.op (R.asS rfl) (VL.nil (V.seq (V.seq (V.region (VL.op (R.mvI rfl) (VL.op (R.lss rfl rfl) (VL.nil (V.condP rfl (fun c36 => V.seq (V.region (VL.op (R.mvB rfl) (VL.op (R.mvB rfl) (VL.and rfl rfl (fun g7_1 => VL.op (R.mvS rfl) (VL.gT rfl rfl (VL.op (R.lenS Try.runUnderlying23 rfl) (VL.gT rfl rfl (VL.op (R.eql rfl rfl) (VL.op (R.pickTB rfl rfl) (VL.op (R.asB rfl) (VL.nil (V.ret (fret1 (v := .bool _) rfl rfl rfl (⟨?_, E0.trans (e4_3.trans e5)⟩))))))))))) (fun g7_1 => VL.gF rfl rfl (VL.gF rfl rfl (VL.op (R.pickFB rfl rfl) (VL.op (R.asB rfl) (VL.nil (V.ret (fret1 (v := .bool _) rfl rfl rfl (⟨?_, E0.trans (e4_3.trans e5)⟩))))))))))))) (fun c36 => V.skip (V.seq (?_))))))))))))))))))))))
  · rw [others_neg c36]; rfl
  · cases g7_1
  obtain ⟨A, hA⟩ : ∃ A, A = allF by_ l t := ⟨_, rfl⟩
  have h0 : 0 ≤ chooseF by_ l t := by omega
  have hAl : A.length = (othersF by_ l t).length + 1 := by rw [hA]; rfl
  have hAr : ∀ i, i < A.length → 0 ≤ A.getD i default ∧ A.getD i default < l.length := fun i hi => by rw [hA] at hi ⊢; exact all_pos h0 hi
  have hAc : ∀ i, i < A.length → chooseF by_ (left l (valsOf l (A.take i))) t = A.getD i default := fun i hi => by rw [hA] at hi ⊢; exact all_left h0 hi
  have hAe : ∀ j, j < l.length → counts ((left l (valsOf l A)).getD j default) = false := fun j hj => by rw [hA]; exact all_end h0 hj
  refine V.region (VL.op (R.mvI rfl) (VL.buildSl Try.runUnderlying23 Try.sizeOf3 Try.zeroValue3 rfl rfl rfl fun b8 w8 hb8 e8 hX8 => VL.op (R.mvS rfl) (VL.appendT el23 (fun _ => rfl) rfl rfl ((OwnT.of1 encI 1 (chooseF by_ l t) hX8 (Nat.le_of_eq (Eq.symm hb8)) rfl rfl)) rfl rfl ((OwnT.sl (hx.ext e8))) ((OwnT.hax hx)) (by simp; omega) (by simp [maxLen]; omega) (e8).size (show _ = (allF by_ l t).length from Nat.add_comm _ _) fun a9 cc9 w9 ho9 m9 hf9 => VL.op (R.asS rfl) (VL.nil (V.seq (V.region (VL.op (R.asI rfl) (VL.nil (V.seq (?_))))))))))
  have E9 : Ext w5 w9 := Mod.ownA e8 m9 fun k hk => by have := aBlk_some hk; omega
  refine V.region (VL.buildSl Try.runUnderlying22 Try.sizeOf34 Try.zeroValue34 rfl rfl rfl fun b10 w10 hb10 e10 hX10 => VL.op (R.mvS rfl) (VL.appendT el22 (fun _ => rfl) rfl rfl ((OwnT.of0 encCell 5 hX10 (Nat.le_of_eq (Eq.symm hb10)))) rfl rfl ((hS.ext ((e4_3.trans (e5.trans E9)).trans e10))) (hxa) (by simp; omega) (by simp [maxLen]; omega) (e10).size (Nat.zero_add _) fun c11 cc11 w11 hc11 m11 hf11 => VL.op (R.asS rfl) (VL.nil (V.seq (V.seq (V.region (VL.op (R.asI rfl) (VL.nil (V.block (?_))))))))))
  have ho10 := ho9.ext e10
  have ho11 := ho10.mod m11 fun k h1 h2 => by have := ho9.lt k h1; have := aBlk_some h2; omega
  have E11 : Ext w9 w11 := Mod.ownA e10 m11 fun k hk => by have := aBlk_some hk; omega
  have hsep : Sep c11 a9 := by
    refine Sep.grown (n := w10.heap.size) (b := a9) ?_ hf11 ho10.lt
    exact Sep.fresh (n := w9.heap.size) (fun k hk => by rw [aBlk_some hk]; omega) ho9.lt
  have Ebig : Ext w2c w11 := e4_3.trans (e5.trans (E9.trans E11))
  have ho : OwnT encI 1 3 w5.heap.size w11 a9 cc9 (allF by_ l t) := ho11.weaken (B' := w5.heap.size) (Nat.le_refl _)
  rw [← hA] at ho ⊢
  clear ho9 ho10 ho11 hf9 hf11 hX8 hX10 m9 m11 hx
  have hc0 : OwnT encCell 5 34 w5.heap.size w11 c11 cc11 (left l (valsOf l (A.take 0))) := by
    have e : left l (valsOf l (A.take 0)) = [] ++ l := by rw [List.take_zero]; exact left_nil l
    rw [e]; exact hc11.weaken E9.size
  have hB5 : w5.heap.size ≤ w11.heap.size := (E9.trans E11).size
  have h25 : w2c.heap.size ≤ w5.heap.size := (e4_3.trans e5).size
  refine V.loop [0, 1, 2, 7, 10, 11, 12, 13] (fun x : Nat × Int => [.int .i64 by_, .slice a l.length ca, .slice b t.length cb, .bool true, .slice a9 A.length cc9, .int .i64 x.2, .slice c11 l.length cc11, .int .i64 (x.1 : Nat)])
    (fun x w' => x.1 ≤ A.length ∧ 0 ≤ x.2 ∧ x.2 ≤ x.1 * 30 ∧ (0 < x.1 → 0 < x.2) ∧ Ext w2c w' ∧ OwnT encCell 5 34 w5.heap.size w' c11 cc11 (left l (valsOf l (A.take x.1))) ∧ OwnT encI 1 3 w5.heap.size w' a9 cc9 A) (fun x => A.length - x.1) (0, 0) rfl ⟨Nat.zero_le _, by decide, by decide, by decide, Ebig, hc0, ho⟩ ?_
  rintro ρ ⟨i, s⟩ w1 ⟨hi, hs0, hs1, hs2, e, hc, ho⟩
  dsimp only at hi hs0 hs1 hs2 e hc ho ⊢
  obtain ⟨L, hL⟩ : ∃ L, L = left l (valsOf l (A.take i)) := ⟨_, rfl⟩
  have hLl : L.length = l.length := by rw [hL, left_len]
  rw [← hL] at hc
  have hAr := hAr i
  have hAc := hAc i
  have hch : i < A.length → ∀ w', Ext w1 w' → RetsP Try.prog 12 #[.int .i64 by_, .slice c11 l.length cc11, .slice b t.length cb] w' (.int .i64 (A.getD i default)) := fun h w' e' => by
    have h1 := choose_spec by_ c11 b cc11 cb L t w' (by omega) (by omega) (hc.sl.ext e') (hT.ext (e.trans e'))
    rwa [hL, hAc h, ← hL, hLl] at h1
  have hlv : i < A.length → counts (L.getD (A.getD i default).toNat default) = true ∧ (L.getD (A.getD i default).toNat default).val = (l.getD (A.getD i default).toNat default).val := fun h => by
    rw [hL]; exact left_val (hAr h).1 (hAr h).2 (hAc h)
  obtain ⟨v, hv⟩ : ∃ v, v = (L.getD (A.getD i default).toNat default).val := ⟨_, rfl⟩
  refine V.seq (V.seq (V.region (VL.op (R.mvI rfl) (VL.op (R.mvS rfl) (VL.op (R.lenS Try.runUnderlying23 rfl) (VL.op (R.lss rfl rfl) (VL.nil (V.condP rfl (fun c53 => V.skip (V.cut [0, 1, 2, 7, 10, 11, 12, 13] (fun x : Int => [.int .i64 by_, .slice a l.length ca, .slice b t.length cb, .bool true, .slice a9 A.length cc9, .int .i64 x, .slice c11 l.length cc11, .int .i64 (i : Nat)]) (fun x w' => 0 < x ∧ x ≤ (i + 1) * 30 ∧ Ext w2c w' ∧ OwnT encCell 5 34 w5.heap.size w' c11 cc11 (left l (valsOf l (A.take (i + 1)))) ∧ OwnT encI 1 3 w5.heap.size w' a9 cc9 A) (V.block (V.seq (V.seq (V.regionQCut mixed 36 (by kernel_rfl) rfl (fun w' => Ext _ w') (Ext.drawn _) [56, 57, 58, 59, 60, 61, 62, 63, 64, 65, 66, 67, 68, 69, 70, 71, 72, 73, 74, 75, 76, 77, 78, 79, 80, 81, 82, 83, 84, 85, 86, 87, 88, 89, 90, 91] 91 (.bool (false)) rfl (VQ.op (fun wq eq => R.mvS rfl) (VQ.op (fun wq eq => R.mvI rfl) (VQ.op (fun wq eq => R.ixS Try.runUnderlying23 Try.sizeOf3 rfl rfl (by have := hAr (by omega); omega) (by have := hAr (by omega); omega) ((ho.sl).some (i := i) (by have := hAr (by omega); omega))) (VQ.op (fun wq eq => R.ld1 Try.isAgg3 rfl (((((ho.sl).ext eq).row (i := i) (by have := hAr (by omega); omega)).cell (i := 0) rfl))) (VQ.op (fun wq eq => R.lss rfl rfl) (VQ.op (fun wq eq => R.mvB rfl) (VQ.orP rfl rfl (fun g14_5 => VQ.op (fun wq eq => R.mvS rfl) (VQ.gT rfl rfl (VQ.op (fun wq eq => R.mvI rfl) (VQ.gT rfl rfl (VQ.op (fun wq eq => R.ixS Try.runUnderlying23 Try.sizeOf3 rfl rfl (by have := hAr (by omega); omega) (by have := hAr (by omega); omega) ((ho.sl).some (i := i) (by have := hAr (by omega); omega))) (VQ.gT rfl rfl (VQ.op (fun wq eq => R.ld1 Try.isAgg3 rfl (((((ho.sl).ext eq).row (i := i) (by have := hAr (by omega); omega)).cell (i := 0) rfl))) (VQ.gT rfl rfl (VQ.op (fun wq eq => R.mvS rfl) (VQ.gT rfl rfl (VQ.op (fun wq eq => R.lenS Try.runUnderlying22 rfl) (VQ.gT rfl rfl (VQ.op (fun wq eq => R.geq rfl rfl) (VQ.op (fun wq eq => R.pickFB rfl rfl) (VQ.op (fun wq eq => R.mvB rfl) (VQ.orP rfl rfl (fun g14_14 => VQ.op (fun wq eq => R.mvS rfl) (VQ.gT rfl rfl (VQ.op (fun wq eq => R.mvS rfl) (VQ.gT rfl rfl (VQ.op (fun wq eq => R.mvI rfl) (VQ.gT rfl rfl (VQ.op (fun wq eq => R.ixS Try.runUnderlying23 Try.sizeOf3 rfl rfl (by have := hAr (by omega); omega) (by have := hAr (by omega); omega) ((ho.sl).some (i := i) (by have := hAr (by omega); omega))) (VQ.gT rfl rfl (VQ.op (fun wq eq => R.ld1 Try.isAgg3 rfl (((((ho.sl).ext eq).row (i := i) (by have := hAr (by omega); omega)).cell (i := 0) rfl))) (VQ.gT rfl rfl (VQ.op (fun wq eq => R.ixS Try.runUnderlying22 Try.sizeOf34 rfl rfl (by have := hAr (by omega); omega) (by have := hAr (by omega); omega) ((hc.sl).some (i := (A.getD i default).toNat) (by have := hAr (by omega); omega))) (VQ.gT rfl rfl (VQ.op (fun wq eq => R.ldA Try.isAgg34 Try.sizeOf34 rfl rfl ((((hc.sl).ext eq).row (i := (A.getD i default).toNat) (by have := hAr (by omega); omega))) rfl) (VQ.gT rfl rfl (VQ.callP (fun _ _ h k => Mod.trans h k) Try.call18 rfl (fun wq eq => counts_spec (L.getD (A.getD i default).toNat default) _) (VQ.gT rfl rfl (VQ.op (fun wq eq => R.not rfl) (VQ.op (fun wq eq => R.pickFB rfl rfl) (VQ.op (fun wq eq => R.mvB rfl) (VQ.or rfl rfl (fun g14_25 => VQ.op (fun wq eq => R.mvI rfl) (VQ.gT rfl rfl (VQ.op (fun wq eq => R.mvS rfl) (VQ.gT rfl rfl (VQ.op (fun wq eq => R.mvS rfl) (VQ.gT rfl rfl (VQ.callP (fun _ _ h k => Mod.trans h k) Try.call12 rfl (fun wq eq => hch (by omega) _ eq) (VQ.gT rfl rfl (VQ.op (fun wq eq => R.mvS rfl) (VQ.gT rfl rfl (VQ.op (fun wq eq => R.mvI rfl) (VQ.gT rfl rfl (VQ.op (fun wq eq => R.ixS Try.runUnderlying23 Try.sizeOf3 rfl rfl (by have := hAr (by omega); omega) (by have := hAr (by omega); omega) ((ho.sl).some (i := i) (by have := hAr (by omega); omega))) (VQ.gT rfl rfl (VQ.op (fun wq eq => R.ld1 Try.isAgg3 rfl (((((ho.sl).ext eq).row (i := i) (by have := hAr (by omega); omega)).cell (i := 0) rfl))) (VQ.gT rfl rfl (VQ.op (fun wq eq => R.neq rfl rfl) (VQ.op (fun wq eq => R.pickFB rfl rfl) (VQ.nil (cutB rfl ?_)))))))))))))))))))) (fun g14_25 => VQ.gF rfl rfl (VQ.gF rfl rfl (VQ.gF rfl rfl (VQ.gF rfl rfl (VQ.gF rfl rfl (VQ.gF rfl rfl (VQ.gF rfl rfl (VQ.gF rfl rfl (VQ.op (fun wq eq => R.pickTB rfl rfl) (VQ.nil (cutB rfl ?_))))))))))))))))))))))))))))))) (fun g14_14 => VQ.gF rfl rfl (VQ.gF rfl rfl (VQ.gF rfl rfl (VQ.gF rfl rfl (VQ.gF rfl rfl (VQ.gF rfl rfl (VQ.gF rfl rfl (VQ.gF rfl rfl (VQ.op (fun wq eq => R.pickTB rfl rfl) (VQ.op (fun wq eq => R.mvB rfl) (VQ.gF rfl rfl (VQ.gF rfl rfl (VQ.gF rfl rfl (VQ.gF rfl rfl (VQ.gF rfl rfl (VQ.gF rfl rfl (VQ.gF rfl rfl (VQ.gF rfl rfl (VQ.gF rfl rfl (VQ.op (fun wq eq => R.pickTB rfl rfl) (VQ.nil (cutB rfl ?_)))))))))))))))))))))))))))))))))))))) (fun g14_5 => VQ.gF rfl rfl (VQ.gF rfl rfl (VQ.gF rfl rfl (VQ.gF rfl rfl (VQ.gF rfl rfl (VQ.gF rfl rfl (VQ.op (fun wq eq => R.pickTB rfl rfl) (VQ.op (fun wq eq => R.mvB rfl) (VQ.gF rfl rfl (VQ.gF rfl rfl (VQ.gF rfl rfl (VQ.gF rfl rfl (VQ.gF rfl rfl (VQ.gF rfl rfl (VQ.gF rfl rfl (VQ.gF rfl rfl (VQ.gF rfl rfl (VQ.op (fun wq eq => R.pickTB rfl rfl) (VQ.op (fun wq eq => R.mvB rfl) (VQ.gF rfl rfl (VQ.gF rfl rfl (VQ.gF rfl rfl (VQ.gF rfl rfl (VQ.gF rfl rfl (VQ.gF rfl rfl (VQ.gF rfl rfl (VQ.gF rfl rfl (VQ.gF rfl rfl (VQ.op (fun wq eq => R.pickTB rfl rfl) (VQ.nil (cutB rfl ?_)))))))))))))))))))))))))))))))))))))) (fun rg14 w14c e14c => V.cond rfl (fun c91 => V.seq (V.region (VL.op (R.asB rfl) (VL.nil (V.ret (fret1 (v := .bool _) rfl rfl rfl (⟨?_, E0.trans (e.trans e14c)⟩))))))) (fun c91 => V.skip (V.seq (V.region (VL.op (R.mvS rfl) (VL.op (R.mvS rfl) (VL.op (R.mvI rfl) (VL.op (R.ixS Try.runUnderlying23 Try.sizeOf3 rfl rfl (by have := hAr (by omega); omega) (by have := hAr (by omega); omega) ((ho.sl).some (i := i) (by have := hAr (by omega); omega))) (VL.op (R.ld1 Try.isAgg3 rfl (((((ho.sl).ext e14c).row (i := i) (by have := hAr (by omega); omega)).cell (i := 0) rfl))) (VL.op (R.ixS Try.runUnderlying22 Try.sizeOf34 rfl rfl (by have := hAr (by omega); omega) (by have := hAr (by omega); omega) ((hc.sl).some (i := (A.getD i default).toNat) (by have := hAr (by omega); omega))) (VL.op (R.fld' (o := 0) Try.runUnderlying34 rfl rfl Try.sizeOf32 rfl rfl) (VL.op (R.ldA Try.isAgg32 Try.sizeOf32 rfl rfl ((show RowAt _ _ _ (encVal (L.getD (A.getD i default).toNat default).val) from ((((hc.sl).ext e14c).row (i := (A.getD i default).toNat) (by have := hAr (by omega); omega)).sub 0 3 rfl))) rfl) (VL.allocSt (v := .agg (encVal (L.getD (A.getD i default).toNat default).val).toArray) Try.zeroValue32 Try.sizeOf32 rfl rfl rfl rfl rfl fun b16_8 w16_8 hb16_8 e16_8 hB16_8 => VL.nil (V.seq (V.region (VL.op (R.asI rfl) (VL.nil (V.block (?_))))))))))))))))))))))) (fun rgB1 xB1 wBB1 hBB1 => V.region (VL.op (R.mvI rfl) (VL.op (R.add rfl rfl (by omega) (by omega)) (VL.op (R.asI rfl) (VL.nil (⟨(i + 1, xB1), rfl, ⟨by dsimp only; omega, ?_⟩, by dsimp only; omega⟩)))))))) (fun c53 => V.exit (V.seq (V.seq (V.region (VL.op (R.asI rfl) (VL.nil (V.block (?_))))))))))))))))
  · exact decide_eq_false fun h => h rfl
  · rw [(hlv (by omega)).1] at g14_25; cases g14_25
  · have := hAr (by omega); omega
  · have := hAr (by omega); omega
  · cases c91
  · have hbs : ¬ aBlk c11 b16_8 := fun h => by
      have := (hc.ext e14c).lt _ h
      omega
    have ez := e14c.trans e16_8
    have hc := hc.ext ez
    have ho := ho.ext ez
    rw [← hv] at hB16_8
    have hn : i < A.length := by omega
    have hvx := hlv hn
    have hAx := hAr hn
    refine V.loop [0, 1, 2, 7, 10, 11, 12, 13, 14, 15] (fun x : Nat × Int => [.int .i64 by_, .slice a l.length ca, .slice b t.length cb, .bool true, .slice a9 A.length cc9, .int .i64 x.2, .slice c11 l.length cc11, .int .i64 (i : Nat), .pointer (some ⟨b16_8, 0, none⟩), .int .i64 (x.1 : Nat)])
      (fun x w' => x.1 ≤ l.length ∧ 0 ≤ x.2 ∧ x.2 ≤ i * 30 + x.1 ∧ ((A.getD i default).toNat < x.1 → 0 < x.2) ∧ Vc.Mod (aBlk c11) w16_8 w' ∧ OwnT encCell 5 34 w5.heap.size w' c11 cc11 (shK (zap v) L x.1)) (fun x => l.length - x.1) (0, s) rfl ⟨Nat.zero_le _, hs0, by dsimp only; omega, fun h => absurd h (Nat.not_lt_zero _), Mod.refl _ _, by rw [shK_zero]; exact hc⟩ ?_
    rintro ρ ⟨k, s2⟩ w2 ⟨hk, q0, q1, q2, m2, hc2⟩
    dsimp only at hk q0 q1 q2 m2 hc2 ⊢
    have lz := shK_len (zap v) L k
    have hz : k < l.length → (shK (zap v) L k).getD k default = L.getD k default := fun h => shK_get _ _ (by omega)
    have hB2 := hB16_8.mod m2 hbs
    refine V.seq (V.seq (V.region (VL.op (R.mvI rfl) (VL.op (R.mvS rfl) (VL.op (R.lenS Try.runUnderlying22 rfl) (VL.op (R.lss rfl rfl) (VL.nil (V.condP rfl (fun c103 => V.skip (V.seq (V.block (V.seq (V.regionQ mixed 7 (by kernel_rfl) rfl (fun w' => Ext _ w') (Ext.drawn _) (VQ.op (fun wq eq => R.mvS rfl) (VQ.op (fun wq eq => R.mvI rfl) (VQ.op (fun wq eq => R.ixS Try.runUnderlying22 Try.sizeOf34 rfl rfl (by omega) (by omega) ((hc2.sl).some (i := k) (by omega))) (VQ.op (fun wq eq => R.fld' (o := 0) Try.runUnderlying34 rfl rfl Try.sizeOf32 rfl rfl) (VQ.op (fun wq eq => R.ldA Try.isAgg32 Try.sizeOf32 rfl rfl ((show RowAt _ _ _ (encVal ((shK (zap v) L k).getD k default).val) from ((((hc2.sl).ext eq).row (i := k) (by omega)).sub 0 3 rfl))) rfl) (VQ.op (fun wq eq => R.ldA Try.isAgg32 Try.sizeOf32 rfl rfl (((hB2.ext eq).rowAt 0 3)) rfl) (VQ.op (fun wq eq => R.eqlK key32 Try.eqGuardType32 encV_agg ((shK (zap v) L k).getD k default).val v rfl rfl) (VQ.nil fun w20q e20q => VL.nil (V.condP rfl (fun c112 => V.seq (?_)) (fun c112 => V.skip (V.region (VL.op (R.mvI rfl) (VL.op (R.add rfl rfl (by omega) (by omega)) (VL.op (R.asI rfl) (VL.nil (⟨(k + 1, s2), rfl, ⟨by dsimp only; omega, q0, by dsimp only; omega, ?_⟩, by dsimp only; omega⟩))))))))))))))))))))) (fun c103 => V.exit (?_))))))))))
    · have hc2 := hc2.ext e20q
      refine V.region (VL.op (R.mvS rfl) (VL.op (R.mvI rfl) (VL.op (R.build Try.zeroValue34 Try.runUnderlying34 pl34 rfl) (VL.op (R.ixS Try.runUnderlying22 Try.sizeOf34 rfl rfl (by omega) (by omega) ((hc2.sl).some (i := k) (by omega))) (VL.ownSt eltCell (v := .agg _) Try.sizeOf34 (hc2) k 0 (default : Cell) rfl rfl (by omega) rfl rfl rfl rfl rfl fun w3 hc3 m3 hs3 => VL.nil (V.region (VL.op (R.mvI rfl) (VL.op (R.add rfl rfl (by omega) (by omega)) (VL.op (R.asI rfl) (VL.nil (V.region (VL.op (R.mvI rfl) (VL.op (R.add rfl rfl (by omega) (by omega)) (VL.op (R.asI rfl) (VL.nil (⟨(k + 1, s2 + 1), rfl, ⟨by dsimp only; omega, by dsimp only; omega, by dsimp only; omega, fun _ => by dsimp only; omega, ?_, ?_⟩, by dsimp only; omega⟩))))))))))))))))
      · exact (m2.ext e20q).then m3 fun _ _ h => h
      · have hd : zap v (L.getD k default) = default := if_pos (by rw [← hz (by omega)]; exact c112)
        have := shK_set (zap v) L (k := k) (by omega)
        rw [hd] at this
        dsimp only
        rw [← this]; exact hc3
    · refine ⟨fun h => ?_, m2.ext e20q, ?_⟩
      · dsimp only at h ⊢
        by_cases hk2 : (A.getD i default).toNat = k
        · exfalso
          apply c112
          rw [hz (by omega), hv, hk2]
        · exact q2 (by omega)
      · dsimp only
        rw [shK_same _ _ (by omega)]
        · exact hc2.ext e20q
        · unfold zap
          rw [if_neg (by rw [← hz (by omega)]; exact c112)]
    · have hkl : k = l.length := by omega
      subst hkl
      refine ⟨s2, rfl, ?_⟩
      have hf2 : 0 < s2 := q2 (by omega)
      refine ⟨hf2, by omega, Mod.ownA (e.trans ez) m2 (fun x hx => by have := hc.ge x hx; omega), ?_, ho.mod m2 hsep.symm⟩
      rw [valsOf_take l A hn, ← hvx.2, ← hv, ← left_zap, ← hL]
      rw [← hLl, shK_all] at hc2
      exact hc2
  · exact ⟨by dsimp only; omega, by dsimp only; omega, fun _ => by dsimp only; omega, hBB1.2.2⟩
  · have hiA : i = A.length := by omega
    subst hiA
    rw [hL, List.take_length] at hc
    refine V.loop [7, 11, 12, 16] (fun k : Nat => [.bool true, .int .i64 s, .slice c11 l.length cc11, .int .i64 (k : Nat)])
      (fun k w' => k ≤ l.length ∧ Ext w1 w') (fun k => l.length - k) 0 rfl ⟨Nat.zero_le _, Mod.refl _ _⟩ ?_
    rintro ρ k w2 ⟨hk, e2⟩
    have ll := left_len l (valsOf l A)
    refine V.seq (V.seq (V.region (VL.op (R.mvI rfl) (VL.op (R.mvS rfl) (VL.op (R.lenS Try.runUnderlying22 rfl) (VL.op (R.lss rfl rfl) (VL.nil (V.condP rfl (fun c122 => V.skip (V.seq (V.block (V.seq (V.region (VL.op (R.mvS rfl) (VL.op (R.mvI rfl) (VL.op (R.ixS Try.runUnderlying22 Try.sizeOf34 rfl rfl (by omega) (by omega) (((hc.ext e2).sl).some (i := k) (by omega))) (VL.op (R.ldA Try.isAgg34 Try.sizeOf34 rfl rfl (((((hc.ext e2).sl).ext (Mod.refl _ _)).row (i := k) (by omega))) rfl) (VL.callP Try.call18 rfl (counts_spec ((left l (valsOf l A)).getD k default) _) fun w26_4 e26_4 => VL.nil (V.cond rfl (fun c129 => V.seq (V.region (VL.op (R.asB rfl) (VL.nil (V.ret (fret1 (v := .bool _) rfl rfl rfl (⟨?_, E0.trans (e.trans (e2.trans e26_4))⟩))))))) (fun c129 => V.skip (V.region (VL.op (R.mvI rfl) (VL.op (R.add rfl rfl (by omega) (by omega)) (VL.op (R.asI rfl) (VL.nil (⟨k + 1, rfl, ⟨by omega, e2.trans e26_4⟩, by omega⟩)))))))))))))))))) (fun c122 => V.exit (V.seq (V.region (VL.op (R.mvB rfl) (VL.op (R.mvB rfl) (VL.and rfl rfl (fun g28_1 => VL.op (R.mvI rfl) (VL.gT rfl rfl (VL.op (R.gtr rfl rfl) (VL.op (R.pickTB rfl rfl) (VL.op (R.asB rfl) (VL.nil (V.ret (fret1 (v := .bool _) rfl rfl rfl (⟨?_, E0.trans (e.trans (e2.trans (Mod.refl _ _)))⟩))))))))) (fun g28_1 => VL.gF rfl rfl (VL.op (R.pickFB rfl rfl) (VL.op (R.asB rfl) (VL.nil (V.ret (fret1 (v := .bool _) rfl rfl rfl (⟨?_, E0.trans (e.trans (e2.trans (Mod.refl _ _)))⟩)))))))))))))))))))))
    · rw [hAe k (by omega)] at c129; cases c129
    · rw [decide_eq_true (hs2 (by omega))]
    · cases g28_1
end Go.Proofs.Ytbckofoibdljgaa
