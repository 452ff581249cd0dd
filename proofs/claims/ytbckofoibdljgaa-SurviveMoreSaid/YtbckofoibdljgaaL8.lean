/- SurviveMore's walk. -/
import Derived.Test.YtbckofoibdljgaaL9
import Derived.Test.YtbckofoibdljgaaP9
import Derived.Test.YtbckofoibdljgaaVcMany
namespace Go.Proofs.Ytbckofoibdljgaa
open Go.Vc Go.Sort
def mR (l : List Cell) (f : Cell) (a : Option Addr) (ca B : Nat) : Nat → Value → World → Prop
  | 0, u, w => ∃ b, u = .slice (some ⟨b, 0, none⟩) 0 0 ∧ OwnT encCell 5 34 B w (some ⟨b, 0, none⟩) 0 ([] : List Cell)
  | 1, u, _ => u = .slice a l.length ca
  | 2, u, w => ∃ a' cap', u = .slice a' l.length cap' ∧ OwnT encCell 5 34 B w a' cap' l
  | 3, u, _ => u = .agg (encCell f).toArray
  | 4, u, w => ∃ b, u = .slice (some ⟨b, 0, none⟩) 1 1 ∧ OwnT encCell 5 34 B w (some ⟨b, 0, none⟩) 1 [f]
  | _, _, _ => True
set_option maxRecDepth 100000 in
set_option maxHeartbeats 4000000 in
theorem law8_spec (by_ : Int) (a b : Option Addr) (ca cb : Nat) (l : List Cell) (t : List Int) (f : Cell) (tr : Int) (w : World) (hm : l.length ≤ 9223372036854775807) (hm2 : t.length ≤ 9223372036854775807) (hxa : a = none → ca = 0) (hxb : b = none → cb = 0) (hS : CellSl w a l) (hT : IntSl w b t) :
    RetsP Try.prog 8 #[.int .i64 by_, .slice a l.length ca, .slice b t.length cb, .agg (encCell f).toArray, .int .i64 tr] w (.bool true) := by
  refine enter (args := [_, _, _, _, _]) Try.func8 rfl Try.ntmps8 (by kernel_rfl) rfl ?_
  refine V.seq (V.region (VL.box (v := .agg _) rfl fun b0_0 w0_0 hb0_0 e0_0 hB0_0 => VL.op (R.asB rfl) (VL.nil (V.seq (V.region (VL.callP Try.call10 rfl (head_spec _) fun w1_0 e1_0 => VL.op (R.asB rfl) (VL.nil (V.seq (V.seq (V.regionCut [17, 18, 19, 20, 21, 22, 23, 24, 25, 26, 27, 28, 29, 30, 31, 32] 32 (.bool (!fewB l 30 || !fewB [f] 1 || decide (t.length ≠ l.length))) (fun w' => Ext _ w') rfl (VL.op (R.mvS rfl) (VL.callP Try.call11 rfl (few_spec a ca l 30 _ hm (hS.ext (e0_0.trans e1_0))) fun w2_1 e2_1 => VL.op (R.not rfl) (VL.op (R.mvB rfl) (VL.or rfl rfl (fun g2_3 => VL.op (R.ldA Try.isAgg34 Try.sizeOf34 rfl rfl ((show RowAt _ _ _ (encCell f) from (((hB0_0.ext e1_0).ext e2_1).rowAt 0 5))) rfl) (VL.gT rfl rfl (VL.buildSl Try.runUnderlying22 Try.sizeOf34 Try.zeroValue34 rfl rfl rfl fun b2 w2 hb2 e2 hX2 => VL.gT rfl rfl (VL.callP Try.call11 rfl (few_spec (some ⟨b2, 0, none⟩) 1 [f] 1 _ (show 1 ≤ 9223372036854775807 by omega) (OwnT.sl (OwnT.of1 encCell 5 f hX2 (Nat.le_refl _) rfl rfl))) fun w2_6 e2_6 => VL.gT rfl rfl (VL.op (R.not rfl) (VL.op (R.pickFB rfl rfl) (VL.op (R.mvB rfl) (VL.or rfl rfl (fun g2_9 => VL.op (R.mvS rfl) (VL.gT rfl rfl (VL.op (R.lenS Try.runUnderlying23 rfl) (VL.gT rfl rfl (VL.op (R.mvS rfl) (VL.gT rfl rfl (VL.op (R.lenS Try.runUnderlying22 rfl) (VL.gT rfl rfl (VL.op (R.neq rfl rfl) (VL.op (R.pickFB rfl rfl) (VL.nil ⟨rfl, cutB rfl ?_, (Mod.trans e2_1 (Mod.trans e2 e2_6))⟩))))))))))) (fun g2_9 => VL.gF rfl rfl (VL.gF rfl rfl (VL.gF rfl rfl (VL.gF rfl rfl (VL.op (R.pickTB rfl rfl) (VL.nil ⟨rfl, cutB rfl ?_, (Mod.trans e2_1 (Mod.trans e2 e2_6))⟩)))))))))))))) (fun g2_3 => VL.gF rfl rfl (VL.gF rfl rfl (VL.gF rfl rfl (VL.op (R.pickTB rfl rfl) (VL.op (R.mvB rfl) (VL.gF rfl rfl (VL.gF rfl rfl (VL.gF rfl rfl (VL.gF rfl rfl (VL.gF rfl rfl (VL.op (R.pickTB rfl rfl) (VL.nil ⟨rfl, cutB rfl ?_, e2_1⟩)))))))))))))))) (fun rg2 w2c e2c => V.cond rfl (fun c32 => V.seq (V.region (VL.op (R.mvB rfl) (VL.op (R.asB rfl) (VL.nil (V.ret (fret1 (v := .bool _) rfl rfl rfl (⟨rfl, ((e0_0.trans e1_0).trans e2c)⟩)))))))) (fun c32 => V.skip (V.seq (?_))))))))))))))
  any_goals first | (simp_all; done) | (simp_all; omega)
  simp only [Bool.or_eq_false_iff, decide_eq_false_iff_not, Bool.not_eq_false'] at c32
  obtain ⟨⟨hf, hf1⟩, hlt⟩ := c32
  have hl := few_len hf
  have hlt : t.length = l.length := by omega
  have hX := (hB0_0.ext e1_0).ext e2c
  have E0 := (e0_0.trans e1_0).trans e2c
  have hS := hS.ext E0
  have hT := hT.ext E0
  refine V.regionM mixed 5 (by kernel_rfl) rfl (mR l f a ca w2c.heap.size) ?_ (fun vals => VMs.op ?_ (VMs.op ?_ (VMs.op ?_ (VMs.op ?_ (VMs.op ?_ (VMs.nil fun w4 e4 h => ?_))))))
  · intro i u w1 w2 h1 h2 h3
    match i with
    | 0 => obtain ⟨b, hb, ho⟩ := h2; exact ⟨b, hb, ho.ext h3⟩
    | 1 => exact h2
    | 2 => obtain ⟨a', c', hb, ho⟩ := h2; exact ⟨a', c', hb, ho.ext h3⟩
    | 3 => exact h2
    | 4 => obtain ⟨b, hb, ho⟩ := h2; exact ⟨b, hb, ho.ext h3⟩
    | n + 5 => trivial
  · intro w' e h
    refine yieldsR_op (R.buildSl0 Try.runUnderlying22 Try.sizeOf34) ⟨⟨_, rfl, OwnT.of0 encCell 5 (Blk.alloc _ _) e.size⟩, Ext.alloc _ _⟩
  · intro w' e h
    exact yieldsR_op (R.mvS rfl) ⟨rfl, Mod.refl _ _⟩
  · intro w' e h
    obtain ⟨b0, hv0, ho0⟩ := h 0 (by kernel_rfl)
    have hv1 : vals 1 = .slice a l.length ca := h 1 (by kernel_rfl)
    exact yieldsR_append0 el22 (fun _ => rfl) hv0 ho0 hv1 (hS.ext e) hxa (by omega) (by unfold maxLen; omega) e.size fun a' c' w'' ho he => ⟨⟨a', c', rfl, ho⟩, he⟩
  · intro w' e h
    exact yieldsR_op (R.ldA Try.isAgg34 Try.sizeOf34 rfl rfl ((show RowAt _ _ _ (encCell f) from (hX.ext e).rowAt 0 5)) rfl) ⟨rfl, Mod.refl _ _⟩
  · intro w' e h
    have hv3 : vals 3 = .agg (encCell f).toArray := h 3 (by kernel_rfl)
    exact yieldsR_build1 Try.runUnderlying22 Try.sizeOf34 Try.zeroValue34 rfl rfl rfl f hv3 rfl rfl e.size fun b w'' ho he => ⟨⟨b, rfl, ho⟩, he⟩
  obtain ⟨a2, c2, hv2, ho2⟩ := h 2 (by omega)
  obtain ⟨b4, hv4, ho4⟩ := h 4 (by omega)
  refine VL.appendT el22 (fun _ => rfl) hv2 rfl ho2 hv4 (show 1 = [f].length from rfl) (OwnT.sl ho4) (fun h => by cases h) (by simp; omega) (by simp [maxLen]; omega) e4.size (nm := (l ++ [f]).length) (by simp) fun a5 c5 w5 ho5 m5 hf5 => VL.op (R.asS rfl) (VL.nil ?_)
  have E5 : Ext w2c w5 := Mod.ownA e4 m5 ho2.ge
  clear h hv2 hv4 ho2 ho4
  repeat refine V.seq ?_
  have hbd : (([] ++ t).length + 1) * 8 ≤ 140737488355328 := by rw [List.nil_append]; omega
  have hbm : ([] ++ t).length + 1 ≤ maxLen := by rw [List.nil_append]; unfold maxLen; omega
  refine V.region (VL.buildSl Try.runUnderlying23 Try.sizeOf3 Try.zeroValue3 rfl rfl rfl fun b6 w6 hb6 e6 hX6 => VL.op (R.mvS rfl) (VL.appendT el23 (fun _ => rfl) rfl rfl ((OwnT.of0 encI 1 hX6 (Nat.le_of_eq (Eq.symm hb6)))) rfl rfl ((hT.ext (E5.trans e6))) (hxb) (by simp; omega) (by simp [maxLen]; omega) (e6).size (Nat.zero_add _) fun d7 cd7 w7 hd7 m7 hf7 => VL.op (R.mvI rfl) (VL.append1 el23 Try.runUnderlying23 Try.sizeOf3 Try.zeroValue3 rfl (tr) rfl rfl rfl hd7 rfl rfl rfl hbd hbm ((Mod.ownA e6 m7 (fun k hk => (OwnSl.blk (OwnT.of0 encI 1 hX6 (Nat.le_of_eq (Eq.symm hb6))) k hk).1))).size fun a8 cc8 w8 vt8 ho8 m8 hf8 => VL.op (R.asS rfl) (VL.nil (V.seq (?_))))))
  have hd8 : OwnT encI 1 3 w5.heap.size w8 a8 cc8 (t ++ [tr]) := ho8
  have E8 : Ext w5 w8 := Mod.ownA (Mod.ownA e6 m7 fun k hk => by have := aBlk_some hk; omega) m8 hd7.ge
  have hc8 := (OwnT.sl ho5).ext E8
  have hd8 := OwnT.sl hd8
  have E5' := E5.trans E8
  have hS := hS.ext E5'
  have hT := hT.ext E5'
  have E := E0.trans E5'
  have hlc : (l ++ [f]).length = l.length + 1 := by simp
  have hlt2 : (t ++ [tr]).length = t.length + 1 := by simp
  have hXf := (hX.ext E5')
  obtain ⟨m1, m2⟩ := more_law by_ l t f tr hlt
  have rg1 := chooseF_rng by_ l t
  have rg2 := chooseF_rng by_ (l ++ [f]) (t ++ [tr])
  obtain ⟨b_, hb_⟩ : ∃ x, x = chooseF by_ (l ++ [f]) (t ++ [tr]) := ⟨_, rfl⟩
  obtain ⟨a_, ha_⟩ : ∃ x, x = chooseF by_ l t := ⟨_, rfl⟩
  have hch : ∀ w', Ext w8 w' → RetsP Try.prog 12 #[.int .i64 by_, .slice a5 (l ++ [f]).length c5, .slice a8 (t.length + 1) cc8] w' (.int .i64 b_) := fun w' e' => by
    have h1 := choose_spec by_ a5 a8 c5 cc8 (l ++ [f]) (t ++ [tr]) w' (by omega) (by omega) (hc8.ext e') (hd8.ext e')
    rwa [hlt2, ← hb_] at h1
  have hca : ∀ w', Ext w8 w' → RetsP Try.prog 12 #[.int .i64 by_, .slice a l.length ca, .slice b t.length cb] w' (.int .i64 a_) := fun w' e' => by
    rw [ha_]; exact choose_spec by_ a b ca cb l t w' (by omega) (by omega) (hS.ext e') (hT.ext e')
  rw [← hb_, ← ha_] at m1 m2
  rw [← hb_] at rg2
  rw [← ha_] at rg1
  clear hb_ ha_
  refine V.region (VL.op (R.mvI rfl) (VL.op (R.mvS rfl) (VL.op (R.mvS rfl) (VL.callP Try.call12 rfl (hca _ (Mod.refl _ _)) fun w6_3 e6_3 => VL.op (R.asI rfl) (VL.nil (V.seq (V.region (VL.op (R.mvI rfl) (VL.op (R.mvS rfl) (VL.op (R.mvS rfl) (VL.callP Try.call12 rfl (hch _ e6_3) fun w7_3 e7_3 => VL.op (R.asI rfl) (VL.nil (V.seq (V.seq (V.region (VL.op (R.mvI rfl) (VL.op (R.lss rfl rfl) (VL.nil (V.condP rfl (fun c55 => V.seq (V.region (VL.op (R.mvB rfl) (VL.op (R.mvB rfl) (VL.and rfl rfl (fun g9_1 => VL.op (R.mvI rfl) (VL.gT rfl rfl (VL.op (R.eql rfl rfl) (VL.op (R.pickTB rfl rfl) (VL.op (R.asB rfl) (VL.nil (V.ret (fret1 (v := .bool _) rfl rfl rfl (⟨?_, E.trans (e6_3.trans e7_3)⟩))))))))) (fun g9_1 => VL.gF rfl rfl (VL.op (R.pickFB rfl rfl) (VL.op (R.asB rfl) (VL.nil (V.ret (fret1 (v := .bool _) rfl rfl rfl (⟨?_, E.trans (e6_3.trans e7_3)⟩)))))))))))) (fun c55 => V.skip (V.seq (V.regionQCut mixed 41 (by kernel_rfl) rfl (fun w' => Ext _ w') (Ext.drawn _) [10, 61, 62, 63, 64, 65, 66, 67, 68, 69, 70, 71, 72, 73, 74, 75, 76, 77, 78, 79, 80, 81, 82, 83, 84, 85, 86, 87, 88, 89, 90, 91, 92, 93, 94, 95, 96, 97, 98, 99, 100] 10 (.bool (true)) rfl (VQ.op (fun wq eq => R.mvB rfl) (VQ.op (fun wq eq => R.mvB rfl) (VQ.and rfl rfl (fun g10_1 => VQ.op (fun wq eq => R.mvI rfl) (VQ.gT rfl rfl (VQ.op (fun wq eq => R.mvS rfl) (VQ.gT rfl rfl (VQ.op (fun wq eq => R.lenS Try.runUnderlying22 rfl) (VQ.gT rfl rfl (VQ.op (fun wq eq => R.lss rfl rfl) (VQ.op (fun wq eq => R.pickTB rfl rfl) (VQ.op (fun wq eq => R.mvB rfl) (VQ.andP rfl rfl (fun g10_7 => VQ.op (fun wq eq => R.mvS rfl) (VQ.gT rfl rfl (VQ.op (fun wq eq => R.mvI rfl) (VQ.gT rfl rfl (VQ.op (fun wq eq => R.ixS Try.runUnderlying22 Try.sizeOf34 rfl rfl (by omega) (by omega) ((hc8).some (i := b_.toNat) (by omega))) (VQ.gT rfl rfl (VQ.op (fun wq eq => R.fld' (o := 0) Try.runUnderlying34 rfl rfl Try.sizeOf32 rfl rfl) (VQ.gT rfl rfl (VQ.op (fun wq eq => R.ldA Try.isAgg32 Try.sizeOf32 rfl rfl ((show RowAt _ _ _ (encVal ((l ++ [f]).getD b_.toNat default).val) from ((((hc8).ext ((e6_3.trans e7_3).trans eq)).row (i := b_.toNat) (by omega)).sub 0 3 rfl))) rfl) (VQ.gT rfl rfl (VQ.op (fun wq eq => R.fld' (o := 0) Try.runUnderlying34 rfl rfl Try.sizeOf32 rfl rfl) (VQ.gT rfl rfl (VQ.op (fun wq eq => R.ldA Try.isAgg32 Try.sizeOf32 rfl rfl (((show RowAt _ _ _ (encVal f.val) from (hXf.ext ((e6_3.trans e7_3).trans eq)).rowAt 0 3))) rfl) (VQ.gT rfl rfl (VQ.op (fun wq eq => R.eqlK key32 Try.eqGuardType32 encV_agg ((l ++ [f]).getD b_.toNat default).val f.val rfl rfl) (VQ.gT rfl rfl (VQ.op (fun wq eq => R.mvB rfl) (VQ.orP rfl rfl (fun g10_16 => VQ.op (fun wq eq => R.mvI rfl) (VQ.gT rfl rfl (VQ.op (fun wq eq => R.geq rfl rfl) (VQ.gT rfl rfl (VQ.op (fun wq eq => R.mvB rfl) (VQ.andP rfl rfl (fun g10_19 => VQ.op (fun wq eq => R.mvI rfl) (VQ.gT rfl rfl (VQ.op (fun wq eq => R.mvS rfl) (VQ.gT rfl rfl (VQ.op (fun wq eq => R.lenS Try.runUnderlying22 rfl) (VQ.gT rfl rfl (VQ.op (fun wq eq => R.lss rfl rfl) (VQ.gT rfl rfl (VQ.op (fun wq eq => R.pickTB rfl rfl) (VQ.gT rfl rfl (VQ.op (fun wq eq => R.mvB rfl) (VQ.andP rfl rfl (fun g10_25 => VQ.op (fun wq eq => R.mvS rfl) (VQ.gT rfl rfl (VQ.op (fun wq eq => R.mvI rfl) (VQ.gT rfl rfl (VQ.op (fun wq eq => R.ixS Try.runUnderlying22 Try.sizeOf34 rfl rfl (by omega) (by omega) ((hc8).some (i := b_.toNat) (by omega))) (VQ.gT rfl rfl (VQ.op (fun wq eq => R.fld' (o := 0) Try.runUnderlying34 rfl rfl Try.sizeOf32 rfl rfl) (VQ.gT rfl rfl (VQ.op (fun wq eq => R.ldA Try.isAgg32 Try.sizeOf32 rfl rfl ((show RowAt _ _ _ (encVal ((l ++ [f]).getD b_.toNat default).val) from ((((hc8).ext ((e6_3.trans e7_3).trans eq)).row (i := b_.toNat) (by omega)).sub 0 3 rfl))) rfl) (VQ.gT rfl rfl (VQ.op (fun wq eq => R.mvS rfl) (VQ.gT rfl rfl (VQ.op (fun wq eq => R.mvI rfl) (VQ.gT rfl rfl (VQ.op (fun wq eq => R.ixS Try.runUnderlying22 Try.sizeOf34 rfl rfl (by omega) (by omega) ((hS).some (i := a_.toNat) (by omega))) (VQ.gT rfl rfl (VQ.op (fun wq eq => R.fld' (o := 0) Try.runUnderlying34 rfl rfl Try.sizeOf32 rfl rfl) (VQ.gT rfl rfl (VQ.op (fun wq eq => R.ldA Try.isAgg32 Try.sizeOf32 rfl rfl ((show RowAt _ _ _ (encVal (l.getD a_.toNat default).val) from ((((hS).ext ((e6_3.trans e7_3).trans eq)).row (i := a_.toNat) (by omega)).sub 0 3 rfl))) rfl) (VQ.gT rfl rfl (VQ.op (fun wq eq => R.eqlK key32 Try.eqGuardType32 encV_agg ((l ++ [f]).getD b_.toNat default).val (l.getD a_.toNat default).val rfl rfl) (VQ.gT rfl rfl (VQ.op (fun wq eq => R.pickTB rfl rfl) (VQ.gT rfl rfl (VQ.op (fun wq eq => R.pickFB rfl rfl) (VQ.op (fun wq eq => R.pickTB rfl rfl) (VQ.op (fun wq eq => R.asB rfl) (VQ.nil (cutB rfl ?_))))))))))))))))))))))))))))) (fun g10_25 => VQ.gF rfl rfl (VQ.gF rfl rfl (VQ.gF rfl rfl (VQ.gF rfl rfl (VQ.gF rfl rfl (VQ.gF rfl rfl (VQ.gF rfl rfl (VQ.gF rfl rfl (VQ.gF rfl rfl (VQ.gF rfl rfl (VQ.gT rfl rfl (VQ.op (fun wq eq => R.pickFB rfl rfl) (VQ.gT rfl rfl (VQ.op (fun wq eq => R.pickFB rfl rfl) (VQ.op (fun wq eq => R.pickTB rfl rfl) (VQ.op (fun wq eq => R.asB rfl) (VQ.nil (cutB rfl ?_)))))))))))))))))))))))))))))) (fun g10_19 => VQ.gF rfl rfl (VQ.gF rfl rfl (VQ.gF rfl rfl (VQ.gT rfl rfl (VQ.op (fun wq eq => R.pickFB rfl rfl) (VQ.gT rfl rfl (VQ.op (fun wq eq => R.mvB rfl) (VQ.gF rfl rfl (VQ.gF rfl rfl (VQ.gF rfl rfl (VQ.gF rfl rfl (VQ.gF rfl rfl (VQ.gF rfl rfl (VQ.gF rfl rfl (VQ.gF rfl rfl (VQ.gF rfl rfl (VQ.gF rfl rfl (VQ.gF rfl rfl (VQ.gT rfl rfl (VQ.op (fun wq eq => R.pickFB rfl rfl) (VQ.gT rfl rfl (VQ.op (fun wq eq => R.pickFB rfl rfl) (VQ.op (fun wq eq => R.pickTB rfl rfl) (VQ.op (fun wq eq => R.asB rfl) (VQ.nil (cutB rfl ?_)))))))))))))))))))))))))))))))) (fun g10_16 => VQ.gF rfl rfl (VQ.gF rfl rfl (VQ.gU rfl rfl (VQ.gU rfl rfl (VQ.gU rfl rfl (VQ.gU rfl rfl (VQ.gF rfl rfl (VQ.gF rfl rfl (VQ.gU rfl rfl (VQ.gU rfl rfl (VQ.gU rfl rfl (VQ.gU rfl rfl (VQ.gU rfl rfl (VQ.gU rfl rfl (VQ.gU rfl rfl (VQ.gU rfl rfl (VQ.gU rfl rfl (VQ.gU rfl rfl (VQ.gU rfl rfl (VQ.gF rfl rfl (VQ.gT rfl rfl (VQ.op (fun wq eq => R.pickTB rfl rfl) (VQ.op (fun wq eq => R.pickTB rfl rfl) (VQ.op (fun wq eq => R.asB rfl) (VQ.nil (cutB rfl ?_)))))))))))))))))))))))))))))))))))))))))))) (fun g10_7 => VQ.gF rfl rfl (VQ.gF rfl rfl (VQ.gF rfl rfl (VQ.gF rfl rfl (VQ.gF rfl rfl (VQ.gF rfl rfl (VQ.gF rfl rfl (VQ.gF rfl rfl (VQ.gU rfl rfl (VQ.gU rfl rfl (VQ.gU rfl rfl (VQ.gU rfl rfl (VQ.gU rfl rfl (VQ.gU rfl rfl (VQ.gU rfl rfl (VQ.gU rfl rfl (VQ.gU rfl rfl (VQ.gU rfl rfl (VQ.gU rfl rfl (VQ.gU rfl rfl (VQ.gU rfl rfl (VQ.gU rfl rfl (VQ.gU rfl rfl (VQ.gU rfl rfl (VQ.gU rfl rfl (VQ.gU rfl rfl (VQ.gU rfl rfl (VQ.gU rfl rfl (VQ.gU rfl rfl (VQ.gF rfl rfl (VQ.op (fun wq eq => R.pickFB rfl rfl) (VQ.op (fun wq eq => R.asB rfl) (VQ.nil (cutB rfl ?_)))))))))))))))))))))))))))))))))))))))))))) (fun g10_1 => VQ.gF rfl rfl (VQ.gF rfl rfl (VQ.gF rfl rfl (VQ.op (fun wq eq => R.pickFB rfl rfl) (VQ.op (fun wq eq => R.mvB rfl) (VQ.gF rfl rfl (VQ.gF rfl rfl (VQ.gF rfl rfl (VQ.gF rfl rfl (VQ.gF rfl rfl (VQ.gF rfl rfl (VQ.gF rfl rfl (VQ.gF rfl rfl (VQ.gF rfl rfl (VQ.gU rfl rfl (VQ.gU rfl rfl (VQ.gU rfl rfl (VQ.gU rfl rfl (VQ.gU rfl rfl (VQ.gU rfl rfl (VQ.gU rfl rfl (VQ.gU rfl rfl (VQ.gU rfl rfl (VQ.gU rfl rfl (VQ.gU rfl rfl (VQ.gU rfl rfl (VQ.gU rfl rfl (VQ.gU rfl rfl (VQ.gU rfl rfl (VQ.gU rfl rfl (VQ.gU rfl rfl (VQ.gU rfl rfl (VQ.gU rfl rfl (VQ.gU rfl rfl (VQ.gU rfl rfl (VQ.gF rfl rfl (VQ.op (fun wq eq => R.pickFB rfl rfl) (VQ.op (fun wq eq => R.asB rfl) (VQ.nil (cutB rfl ?_))))))))))))))))))))))))))))))))))))))))))) (fun rg10 w10c e10c => V.ret (fret1 (v := .bool _) rfl rfl rfl (⟨?_, E.trans ((e6_3.trans e7_3).trans e10c)⟩)))))))))))))))))))))))))
  any_goals rfl
  any_goals (exfalso; omega)
  · rw [decide_eq_true (m1 c55)]
  · cases g9_1
  · rcases m2 (by omega) with h | h
    · exact absurd h g10_16
    · exact decide_eq_true h.2
  · rcases m2 (by omega) with h | h
    · exact absurd h g10_16
    · exact absurd h.1 g10_19
  · cases g10_1
end Go.Proofs.Ytbckofoibdljgaa
