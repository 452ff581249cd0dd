/- The comparing functions that are values. -/
import Derived.Test.YtbckofoibdljgaaS5
namespace Go.Proofs.Ytbckofoibdljgaa
open Go.Vc

def encCand (c : Cand) : List Value := encCell c.cell ++ [.int .i64 c.at_, .int .i64 c.trust, .int .i64 c.many]

theorem rule1_spec (a b : Cand) (w : World) : RetsP Try.prog 34 #[.agg (encCand a).toArray, .agg (encCand b).toArray] w (.int .i64 (cmpI b.cell.time a.cell.time)) := by
  refine enter (args := [_, _]) Try.func34 rfl Try.ntmps34 (by kernel_rfl) rfl ?_
  refine V.seq (V.region (VL.box (v := .agg _) rfl fun b0_0 w0_0 hb0_0 e0_0 hB0_0 => VL.box (v := .agg _) rfl fun b0_1 w0_1 hb0_1 e0_1 hB0_1 => VL.op (R.asI rfl) (VL.nil (V.seq (V.region (VL.op (R.fld' (o := 0) Try.runUnderlying44 rfl rfl Try.sizeOf34 rfl rfl) (VL.op (R.fld' (o := 4) Try.runUnderlying34 rfl rfl Try.sizeOf3 rfl rfl) (VL.op (R.ld1 Try.isAgg3 rfl ((hB0_1.cell _))) (VL.op (R.fld' (o := 0) Try.runUnderlying44 rfl rfl Try.sizeOf34 rfl rfl) (VL.op (R.fld' (o := 4) Try.runUnderlying34 rfl rfl Try.sizeOf3 rfl rfl) (VL.op (R.ld1 Try.isAgg3 rfl (((hB0_0.ext e0_1).cell _))) (?_))))))))))))
  refine VL.callP Try.call32 rfl (cmpI_spec _ _ _) fun w1_6 e1_6 => VL.op (R.asI rfl) (VL.nil (V.ret (fret1 (v := .int _ _) rfl rfl rfl (⟨rfl, ((e0_0.trans e0_1).trans e1_6)⟩))))
theorem rule2_spec (a b : Cand) (w : World) : RetsP Try.prog 35 #[.agg (encCand a).toArray, .agg (encCand b).toArray] w (.int .i64 (cmpI b.many a.many)) := by
  refine enter (args := [_, _]) Try.func35 rfl Try.ntmps35 (by kernel_rfl) rfl ?_
  refine V.seq (V.region (VL.box (v := .agg _) rfl fun b0_0 w0_0 hb0_0 e0_0 hB0_0 => VL.box (v := .agg _) rfl fun b0_1 w0_1 hb0_1 e0_1 hB0_1 => VL.op (R.asI rfl) (VL.nil (V.seq (V.region (VL.op (R.fld' (o := 7) Try.runUnderlying44 rfl rfl Try.sizeOf3 rfl rfl) (VL.op (R.ld1 Try.isAgg3 rfl ((hB0_1.cell _))) (VL.op (R.fld' (o := 7) Try.runUnderlying44 rfl rfl Try.sizeOf3 rfl rfl) (VL.op (R.ld1 Try.isAgg3 rfl (((hB0_0.ext e0_1).cell _))) (?_))))))))))
  refine VL.callP Try.call32 rfl (cmpI_spec _ _ _) fun w1_4 e1_4 => VL.op (R.asI rfl) (VL.nil (V.ret (fret1 (v := .int _ _) rfl rfl rfl (⟨rfl, ((e0_0.trans e0_1).trans e1_4)⟩))))
theorem rule3_spec (a b : Cand) (w : World) : RetsP Try.prog 36 #[.agg (encCand a).toArray, .agg (encCand b).toArray] w (.int .i64 (cmpI b.trust a.trust)) := by
  refine enter (args := [_, _]) Try.func36 rfl Try.ntmps36 (by kernel_rfl) rfl ?_
  refine V.seq (V.region (VL.box (v := .agg _) rfl fun b0_0 w0_0 hb0_0 e0_0 hB0_0 => VL.box (v := .agg _) rfl fun b0_1 w0_1 hb0_1 e0_1 hB0_1 => VL.op (R.asI rfl) (VL.nil (V.seq (V.region (VL.op (R.fld' (o := 6) Try.runUnderlying44 rfl rfl Try.sizeOf3 rfl rfl) (VL.op (R.ld1 Try.isAgg3 rfl ((hB0_1.cell _))) (VL.op (R.fld' (o := 6) Try.runUnderlying44 rfl rfl Try.sizeOf3 rfl rfl) (VL.op (R.ld1 Try.isAgg3 rfl (((hB0_0.ext e0_1).cell _))) (?_))))))))))
  refine VL.callP Try.call32 rfl (cmpI_spec _ _ _) fun w1_4 e1_4 => VL.op (R.asI rfl) (VL.nil (V.ret (fret1 (v := .int _ _) rfl rfl rfl (⟨rfl, ((e0_0.trans e0_1).trans e1_4)⟩))))
theorem rule4_spec (a b : Cand) (w : World) : RetsP Try.prog 37 #[.agg (encCand a).toArray, .agg (encCand b).toArray] w (.int .i64 (cmpI b.cell.val.text.size a.cell.val.text.size)) := by
  refine enter (args := [_, _]) Try.func37 rfl Try.ntmps37 (by kernel_rfl) rfl ?_
  refine V.seq (V.region (VL.box (v := .agg _) rfl fun b0_0 w0_0 hb0_0 e0_0 hB0_0 => VL.box (v := .agg _) rfl fun b0_1 w0_1 hb0_1 e0_1 hB0_1 => VL.op (R.asI rfl) (VL.nil (V.seq (V.region (VL.op (R.fld' (o := 0) Try.runUnderlying44 rfl rfl Try.sizeOf34 rfl rfl) (VL.op (R.fld' (o := 0) Try.runUnderlying34 rfl rfl Try.sizeOf32 rfl rfl) (VL.op (R.fld' (o := 2) Try.runUnderlying32 rfl rfl Try.sizeOf9 rfl rfl) (VL.op (R.ld1 Try.isAgg9 rfl ((hB0_1.cell _))) (VL.op (R.lenG Try.runUnderlying9 rfl) (VL.op (R.fld' (o := 0) Try.runUnderlying44 rfl rfl Try.sizeOf34 rfl rfl) (VL.op (R.fld' (o := 0) Try.runUnderlying34 rfl rfl Try.sizeOf32 rfl rfl) (VL.op (R.fld' (o := 2) Try.runUnderlying32 rfl rfl Try.sizeOf9 rfl rfl) (VL.op (R.ld1 Try.isAgg9 rfl (((hB0_0.ext e0_1).cell _))) (VL.op (R.lenG Try.runUnderlying9 rfl) (?_))))))))))))))))
  refine VL.callP Try.call32 rfl (cmpI_spec _ _ _) fun w1_10 e1_10 => VL.op (R.asI rfl) (VL.nil (V.ret (fret1 (v := .int _ _) rfl rfl rfl (⟨rfl, ((e0_0.trans e0_1).trans e1_10)⟩))))
theorem rule5_spec (a b : Cand) (w : World) : RetsP Try.prog 38 #[.agg (encCand a).toArray, .agg (encCand b).toArray] w (.int .i64 (cmpV a.cell.val b.cell.val)) := by
  refine enter (args := [_, _]) Try.func38 rfl Try.ntmps38 (by kernel_rfl) rfl ?_
  refine V.seq (V.region (VL.box (v := .agg _) rfl fun b0_0 w0_0 hb0_0 e0_0 hB0_0 => VL.box (v := .agg _) rfl fun b0_1 w0_1 hb0_1 e0_1 hB0_1 => VL.op (R.asI rfl) (VL.nil (V.seq (V.region (VL.op (R.fld' (o := 0) Try.runUnderlying44 rfl rfl Try.sizeOf34 rfl rfl) (VL.op (R.fld' (o := 0) Try.runUnderlying34 rfl rfl Try.sizeOf32 rfl rfl) (VL.op (R.ldA Try.isAgg32 Try.sizeOf32 rfl rfl (((hB0_0.ext e0_1).rowAt 0 3)) rfl) (VL.op (R.fld' (o := 0) Try.runUnderlying44 rfl rfl Try.sizeOf34 rfl rfl) (VL.op (R.fld' (o := 0) Try.runUnderlying34 rfl rfl Try.sizeOf32 rfl rfl) (VL.op (R.ldA Try.isAgg32 Try.sizeOf32 rfl rfl ((hB0_1.rowAt 0 3)) rfl) (?_))))))))))))
  refine VL.callP Try.call20 rfl (compare_spec a.cell.val b.cell.val _) fun w1_6 e1_6 => VL.op (R.asI rfl) (VL.nil (V.ret (fret1 (v := .int _ _) rfl rfl rfl (⟨rfl, ((e0_0.trans e0_1).trans e1_6)⟩))))
theorem rule6_spec (a b : Cand) (w : World) : RetsP Try.prog 39 #[.agg (encCand a).toArray, .agg (encCand b).toArray] w (.int .i64 (cmpV b.cell.val a.cell.val)) := by
  refine enter (args := [_, _]) Try.func39 rfl Try.ntmps39 (by kernel_rfl) rfl ?_
  refine V.seq (V.region (VL.box (v := .agg _) rfl fun b0_0 w0_0 hb0_0 e0_0 hB0_0 => VL.box (v := .agg _) rfl fun b0_1 w0_1 hb0_1 e0_1 hB0_1 => VL.op (R.asI rfl) (VL.nil (V.seq (V.region (VL.op (R.fld' (o := 0) Try.runUnderlying44 rfl rfl Try.sizeOf34 rfl rfl) (VL.op (R.fld' (o := 0) Try.runUnderlying34 rfl rfl Try.sizeOf32 rfl rfl) (VL.op (R.ldA Try.isAgg32 Try.sizeOf32 rfl rfl ((hB0_1.rowAt 0 3)) rfl) (VL.op (R.fld' (o := 0) Try.runUnderlying44 rfl rfl Try.sizeOf34 rfl rfl) (VL.op (R.fld' (o := 0) Try.runUnderlying34 rfl rfl Try.sizeOf32 rfl rfl) (VL.op (R.ldA Try.isAgg32 Try.sizeOf32 rfl rfl (((hB0_0.ext e0_1).rowAt 0 3)) rfl) (?_))))))))))))
  refine VL.callP Try.call20 rfl (compare_spec b.cell.val a.cell.val _) fun w1_6 e1_6 => VL.op (R.asI rfl) (VL.nil (V.ret (fret1 (v := .int _ _) rfl rfl rfl (⟨rfl, ((e0_0.trans e0_1).trans e1_6)⟩))))

/-- The rule's function. -/
def ruleF (by_ : Int) : Nat := if by_ = 1 then 34 else if by_ = 2 then 35 else if by_ = 3 then 36 else if by_ = 4 then 37 else if by_ = 5 then 38 else 39
theorem rule_spec (by_ : Int) (a b : Cand) (w : World) : RetsP Try.prog (ruleF by_) #[.agg (encCand a).toArray, .agg (encCand b).toArray] w (.int .i64 (better by_ a b)) := by
  unfold ruleF better
  (repeat' split)
  · exact rule1_spec a b w
  · exact rule2_spec a b w
  · exact rule3_spec a b w
  · exact rule4_spec a b w
  · exact rule5_spec a b w
  · exact rule6_spec a b w
theorem rule_fn (by_ : Int) : IsFn Try.prog (ruleF by_) := by
  unfold ruleF
  (repeat' split)
  · exact Try.call34
  · exact Try.call35
  · exact Try.call36
  · exact Try.call37
  · exact Try.call38
  · exact Try.call39
end Go.Proofs.Ytbckofoibdljgaa
