/- SurviveMatchesReference's walk. -/
import Derived.Test.YtbckofoibdljgaaH
namespace Go.Proofs.Ytbckofoibdljgaa
open Go.Vc Go.Sort
theorem few_len {l : List Cell} {n : Int} (h : fewB l n = true) : (l.length : Int) ≤ n := by
  unfold fewB at h
  rw [Bool.and_eq_true] at h
  exact of_decide_eq_true h.2
set_option maxHeartbeats 4000000 in
theorem law3_spec (by_ : Int) (a b : Option Addr) (ca cb : Nat) (l : List Cell) (t : List Int) (w : World) (hm : l.length ≤ 9223372036854775807) (hm2 : t.length ≤ 9223372036854775807) (hS : CellSl w a l) (hT : IntSl w b t) :
    RetsP Try.prog 3 #[.int .i64 by_, .slice a l.length ca, .slice b t.length cb] w (.bool true) := by
  refine enter (args := [_, _, _]) Try.func3 rfl Try.ntmps3 (by kernel_rfl) rfl ?_
  refine V.seq (V.region (VL.op (R.asB rfl) (VL.nil (V.seq (V.region (VL.callP Try.call10 rfl (head_spec _) fun w1_0 e1_0 => VL.op (R.asB rfl) (VL.nil (V.seq (V.seq (V.regionCut [9, 10, 11, 12, 13, 14, 15, 16] 16 (.bool (!fewB l 30 || decide (40 < (t.length : Int)))) (fun w' => Ext _ w') rfl (VL.op (R.mvS rfl) (VL.callP Try.call11 rfl (few_spec a ca l 30 _ hm (hS.ext e1_0)) fun w2_1 e2_1 => VL.op (R.not rfl) (VL.op (R.mvB rfl) (VL.or rfl rfl (fun g2_3 => VL.op (R.mvS rfl) (VL.gT rfl rfl (VL.op (R.lenS Try.runUnderlying23 rfl) (VL.gT rfl rfl (VL.op (R.gtr rfl rfl) (VL.op (R.pickFB rfl rfl) (VL.nil ⟨rfl, cutB rfl ?_, e2_1⟩))))))) (fun g2_3 => VL.gF rfl rfl (VL.gF rfl rfl (VL.op (R.pickTB rfl rfl) (VL.nil ⟨rfl, cutB rfl ?_, e2_1⟩)))))))) (fun rg2 w2c e2c => V.cond rfl (fun c16 => V.seq (V.region (VL.op (R.mvB rfl) (VL.op (R.asB rfl) (VL.nil (V.ret (fret1 (v := .bool _) rfl rfl rfl (⟨rfl, (e1_0.trans e2c)⟩)))))))) (fun c16 => V.skip (V.seq (?_))))))))))))))
  · rw [g2_3, Bool.false_or]
  · rw [g2_3]; rfl
  · rw [Bool.or_eq_false_iff] at c16
    have hf : fewB l 30 = true := by simpa using c16.1
    have hl := few_len hf
    have ht : ¬ (40 < (t.length : Int)) := of_decide_eq_false c16.2
    have hS := hS.ext (e1_0.trans e2c)
    have hT := hT.ext (e1_0.trans e2c)
    have hol : (othersF by_ l t).length ≤ l.length := Nat.le_trans (othK_len _ _ _) (rankL_len by_ l t)
    refine V.region (VL.op (R.mvB rfl) (VL.op (R.mvB rfl) (VL.and rfl rfl (fun g4_1 => VL.op (R.mvI rfl) (VL.gT rfl rfl (VL.op (R.mvS rfl) (VL.gT rfl rfl (VL.op (R.mvS rfl) (VL.gT rfl rfl (VL.callP Try.call12 rfl (choose_spec by_ a b ca cb l t _ (by omega) (by omega) (hS.ext (Mod.refl _ _)) (hT.ext (Mod.refl _ _))) fun w4_5 e4_5 => VL.gT rfl rfl (VL.op (R.mvI rfl) (VL.gT rfl rfl (VL.op (R.mvS rfl) (VL.gT rfl rfl (VL.op (R.mvS rfl) (VL.gT rfl rfl (VL.callP Try.call13 rfl (rchoose_spec by_ a b ca cb l t _ (by omega) (hS.ext e4_5) (hT.ext e4_5)) fun w4_9 e4_9 => VL.gT rfl rfl (VL.op (R.eql rfl rfl) (VL.op (R.pickTB rfl rfl) (VL.op (R.mvB rfl) (VL.andP rfl rfl (fun g4_12 => VL.op (R.mvI rfl) (VL.gT rfl rfl (VL.op (R.mvS rfl) (VL.gT rfl rfl (VL.op (R.mvS rfl) (VL.gT rfl rfl (VL.callX Try.call15 rfl (others_spec by_ a b ca cb l t _ (by omega) (by omega) (hS.ext (e4_5.trans e4_9)) (hT.ext (e4_5.trans e4_9))) fun x w3 hx e3 => VL.gT rfl rfl (VL.op (R.mvI rfl) (VL.gT rfl rfl (VL.op (R.mvS rfl) (VL.gT rfl rfl (VL.op (R.mvS rfl) (VL.gT rfl rfl (VL.callX Try.call16 rfl (rothers_spec by_ a b ca cb l t _ (by omega) (hS.ext ((e4_5.trans e4_9).trans e3)) (hT.ext ((e4_5.trans e4_9).trans e3))) fun y w4 ⟨hy, _⟩ e4 => VL.gT rfl rfl (VL.callP Try.call14 rfl (ints_spec x.1 y.1 x.2 y.2 (othersF by_ l t) (rothersF by_ l t) _ (by omega) (by rw [← others_eq]; omega) ((OwnT.sl hx).ext e4) hy) fun w4_21 e4_21 => VL.op (R.pickTB rfl rfl) (VL.op (R.asB rfl) (VL.nil (V.ret (fret1 (v := .bool _) rfl rfl rfl (⟨?_, (e1_0.trans e2c).trans ((((e4_5.trans e4_9).trans e3).trans e4).trans e4_21)⟩)))))))))))))))))))) (fun g4_12 => VL.gF rfl rfl (VL.gF rfl rfl (VL.gF rfl rfl (VL.gF rfl rfl (VL.gF rfl rfl (VL.gF rfl rfl (VL.gF rfl rfl (VL.gF rfl rfl (VL.op (R.pickFB rfl rfl) (VL.op (R.asB rfl) (VL.nil (V.ret (fret1 (v := .bool _) rfl rfl rfl (⟨?_, (e1_0.trans e2c).trans (e4_5.trans e4_9)⟩)))))))))))))))))))))))))))))))) (fun g4_1 => VL.gF rfl rfl (VL.gF rfl rfl (VL.gF rfl rfl (VL.gF rfl rfl (VL.gF rfl rfl (VL.gF rfl rfl (VL.gF rfl rfl (VL.gF rfl rfl (VL.op (R.pickFB rfl rfl) (VL.op (R.mvB rfl) (VL.gF rfl rfl (VL.gF rfl rfl (VL.gF rfl rfl (VL.gF rfl rfl (VL.gF rfl rfl (VL.gF rfl rfl (VL.gF rfl rfl (VL.gF rfl rfl (VL.gF rfl rfl (VL.op (R.pickFB rfl rfl) (VL.op (R.asB rfl) (VL.nil (V.ret (fret1 (v := .bool _) rfl rfl rfl (⟨?_, (e1_0.trans e2c).trans (Mod.refl _ _)⟩))))))))))))))))))))))))))))
    all_goals first | (rw [others_eq]; simp; done) | (exfalso; rw [choose_eq] at *; simp at *; done) | (exfalso; simp_all [choose_eq]; done)
end Go.Proofs.Ytbckofoibdljgaa
