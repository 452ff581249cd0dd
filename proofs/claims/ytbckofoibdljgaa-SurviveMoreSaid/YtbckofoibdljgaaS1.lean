/- The small functions: comparing numbers, texts and values. -/
import Derived.Test.YtbckofoibdljgaaTy
namespace Go.Proofs.Ytbckofoibdljgaa
open Go.Vc

def cmpI (a b : Int) : Int := if a < b then -1 else if b < a then 1 else 0

theorem isNaN_spec (x : Int) (w : World) : RetsP Try.prog 42 #[.int .i64 x] w (.bool false) := by
  refine enter (args := [_]) Try.func42 rfl Try.ntmps42 (by kernel_rfl) rfl ?_
  refine V.seq (V.region (VL.op (R.asB rfl) (VL.nil (V.seq (V.region (VL.op (R.mvI rfl) (VL.op (R.mvI rfl) (VL.op (R.neq rfl rfl) (VL.op (R.asB rfl) (VL.nil (V.ret (fret1 (v := .bool _) rfl rfl rfl (⟨?_, (Mod.refl _ _)⟩)))))))))))))
  simp

theorem cmpI_spec (a b : Int) (w : World) : RetsP Try.prog 32 #[.int .i64 a, .int .i64 b] w (.int .i64 (cmpI a b)) := by
  refine enter (args := [_, _]) Try.func32 rfl Try.ntmps32 (by kernel_rfl) rfl ?_
  refine V.seq (V.region (VL.op (R.asI rfl) (VL.nil (V.seq (V.region (VL.op (R.mvI rfl) (VL.callP Try.call42 rfl (isNaN_spec _ _) fun w1_1 e1_1 => VL.op (R.asB rfl) (VL.nil (V.seq (V.region (VL.op (R.mvI rfl) (VL.callP Try.call42 rfl (isNaN_spec _ _) fun w2_1 e2_1 => VL.op (R.asB rfl) (VL.nil (V.seq (V.seq (V.region (VL.op (R.mvB rfl) (VL.nil (V.cond rfl (fun c11 => V.seq (V.seq (V.region (VL.op (R.mvB rfl) (VL.nil (V.cond rfl (fun c12 => V.seq (V.region (VL.op (R.asI rfl) (VL.nil (V.ret (fret1 (v := .int _ _) rfl rfl rfl (⟨?_, (e1_1.trans e2_1)⟩))))))) (fun c12 => V.skip (V.seq (V.region (VL.op (R.asI rfl) (VL.nil (V.ret (fret1 (v := .int _ _) rfl rfl rfl (⟨?_, (e1_1.trans e2_1)⟩)))))))))))))) (fun c11 => V.skip (V.seq (V.seq (V.region (VL.op (R.mvB rfl) (VL.nil (V.cond rfl (fun c13 => V.seq (V.region (VL.op (R.asI rfl) (VL.nil (V.ret (fret1 (v := .int _ _) rfl rfl rfl (⟨?_, (e1_1.trans e2_1)⟩))))))) (fun c13 => V.skip (V.seq (V.seq (V.region (VL.op (R.mvI rfl) (VL.op (R.mvI rfl) (VL.op (R.lss rfl rfl) (VL.nil (V.condP rfl (fun c16 => V.seq (V.region (VL.op (R.asI rfl) (VL.nil (V.ret (fret1 (v := .int _ _) rfl rfl rfl (⟨?_, (e1_1.trans e2_1)⟩))))))) (fun c16 => V.skip (V.seq (V.seq (V.region (VL.op (R.mvI rfl) (VL.op (R.mvI rfl) (VL.op (R.gtr rfl rfl) (VL.nil (V.condP rfl (fun c19 => V.seq (V.region (VL.op (R.asI rfl) (VL.nil (V.ret (fret1 (v := .int _ _) rfl rfl rfl (⟨?_, (e1_1.trans e2_1)⟩))))))) (fun c19 => V.skip (V.seq (V.region (VL.op (R.asI rfl) (VL.nil (V.ret (fret1 (v := .int _ _) rfl rfl rfl (⟨?_, (e1_1.trans e2_1)⟩))))))))))))))))))))))))))))))))))))))))))))))))))))
  all_goals first | (simp_all [cmpI]; done) | (simp_all [cmpI]; (repeat' split) <;> omega)

theorem orderI_spec (a b : Int) (w : World) : RetsP Try.prog 25 #[.int .i64 a, .int .i64 b] w (.int .i64 (cmpI a b)) := by
  refine enter (args := [_, _]) Try.func25 rfl Try.ntmps25 (by kernel_rfl) rfl ?_
  refine V.seq (V.region (VL.op (R.asI rfl) (VL.nil (V.seq (V.block (V.seq (V.region (VL.op (R.mvI rfl) (VL.op (R.mvI rfl) (VL.op (R.lss rfl rfl) (VL.op (R.asB rfl) (VL.nil (V.condP rfl (fun c5 => V.seq (V.region (VL.op (R.asI rfl) (VL.nil (V.ret (fret1 (v := .int _ _) rfl rfl rfl (⟨?_, (Mod.refl _ _)⟩))))))) (fun c5 => V.seq (V.region (VL.op (R.mvI rfl) (VL.op (R.mvI rfl) (VL.op (R.gtr rfl rfl) (VL.op (R.asB rfl) (VL.nil (V.condP rfl (fun c9 => V.seq (V.region (VL.op (R.asI rfl) (VL.nil (V.ret (fret1 (v := .int _ _) rfl rfl rfl (⟨?_, (Mod.refl _ _)⟩))))))) (fun c9 => V.skip (V.seq (V.region (VL.op (R.asI rfl) (VL.nil (V.ret (fret1 (v := .int _ _) rfl rfl rfl (⟨?_, (Mod.refl _ _)⟩)))))))))))))))))))))))))))))
  all_goals first | (simp_all [cmpI]; done) | (simp_all [cmpI]; (repeat' split) <;> omega)

def cmpG (a b : ByteArray) : Int := if sLt a b then -1 else if a = b then 0 else 1

theorem orderG_spec (a b : ByteArray) (w : World) : RetsP Try.prog 26 #[.string a, .string b] w (.int .i64 (cmpG a b)) := by
  refine enter (args := [_, _]) Try.func26 rfl Try.ntmps26 (by kernel_rfl) rfl ?_
  refine V.seq (V.region (VL.op (R.asI rfl) (VL.nil (V.seq (V.block (V.seq (V.region (VL.op (R.mvG rfl) (VL.op (R.mvG rfl) (VL.op (R.lssG rfl rfl) (VL.op (R.asB rfl) (VL.nil (V.cond rfl (fun c5 => V.seq (V.region (VL.op (R.asI rfl) (VL.nil (V.ret (fret1 (v := .int _ _) rfl rfl rfl (⟨?_, (Mod.refl _ _)⟩))))))) (fun c5 => V.seq (V.region (VL.op (R.mvG rfl) (VL.op (R.mvG rfl) (VL.op (R.gtrG rfl rfl) (VL.op (R.asB rfl) (VL.nil (V.cond rfl (fun c9 => V.seq (V.region (VL.op (R.asI rfl) (VL.nil (V.ret (fret1 (v := .int _ _) rfl rfl rfl (⟨?_, (Mod.refl _ _)⟩))))))) (fun c9 => V.skip (V.seq (V.region (VL.op (R.asI rfl) (VL.nil (V.ret (fret1 (v := .int _ _) rfl rfl rfl (⟨?_, (Mod.refl _ _)⟩)))))))))))))))))))))))))))))
  all_goals simp_all [cmpG]

structure Val where
  kind : Int
  n : Int
  text : ByteArray
  deriving DecidableEq
def encVal (v : Val) : List Value := [.int .i64 v.kind, .int .i64 v.n, .string v.text]
def cmpV (a b : Val) : Int := if cmpI a.kind b.kind ≠ 0 then cmpI a.kind b.kind else if cmpI a.n b.n ≠ 0 then cmpI a.n b.n else cmpG a.text b.text

theorem compare_spec (a b : Val) (w : World) : RetsP Try.prog 20 #[.agg (encVal a).toArray, .agg (encVal b).toArray] w (.int .i64 (cmpV a b)) := by
  obtain ⟨ka, na, ta⟩ := a
  obtain ⟨kb, nb, tb⟩ := b
  refine enter (args := [_, _]) Try.func20 rfl Try.ntmps20 (by kernel_rfl) rfl ?_
  refine V.seq (V.region (VL.box (v := .agg _) rfl fun b0_0 w0_0 hb0_0 e0_0 hB0_0 => VL.box (v := .agg _) rfl fun b0_1 w0_1 hb0_1 e0_1 hB0_1 => VL.op (R.asI rfl) (VL.nil (V.seq (V.seq (V.region (VL.op (R.fld' (o := 0) Try.runUnderlying32 rfl rfl Try.sizeOf3 rfl rfl) (VL.op (R.ld1 Try.isAgg3 rfl (((hB0_0.ext e0_1).cell _))) (VL.op (R.fld' (o := 0) Try.runUnderlying32 rfl rfl Try.sizeOf3 rfl rfl) (VL.op (R.ld1 Try.isAgg3 rfl ((hB0_1.cell _))) (VL.callP Try.call25 rfl (orderI_spec _ _ _) fun w1_4 e1_4 => VL.op (R.asI rfl) (VL.nil (V.seq (V.region (VL.op (R.mvI rfl) (VL.op (R.neq rfl rfl) (VL.nil (V.condP rfl (fun c13 => V.seq (V.region (VL.op (R.mvI rfl) (VL.op (R.asI rfl) (VL.nil (V.ret (fret1 (v := .int _ _) rfl rfl rfl (⟨?_, ((e0_0.trans e0_1).trans e1_4)⟩)))))))) (fun c13 => V.skip (V.seq (V.seq (V.region (VL.op (R.fld' (o := 1) Try.runUnderlying32 rfl rfl Try.sizeOf3 rfl rfl) (VL.op (R.ld1 Try.isAgg3 rfl ((((hB0_0.ext e0_1).ext e1_4).cell _))) (VL.op (R.fld' (o := 1) Try.runUnderlying32 rfl rfl Try.sizeOf3 rfl rfl) (VL.op (R.ld1 Try.isAgg3 rfl (((hB0_1.ext e1_4).cell _))) (VL.callP Try.call25 rfl (orderI_spec _ _ _) fun w4_4 e4_4 => VL.op (R.asI rfl) (VL.nil (V.seq (V.region (VL.op (R.mvI rfl) (VL.op (R.neq rfl rfl) (VL.nil (V.condP rfl (fun c21 => V.seq (V.region (VL.op (R.mvI rfl) (VL.op (R.asI rfl) (VL.nil (V.ret (fret1 (v := .int _ _) rfl rfl rfl (⟨?_, (((e0_0.trans e0_1).trans e1_4).trans e4_4)⟩)))))))) (fun c21 => V.skip (V.seq (V.region (VL.op (R.fld' (o := 2) Try.runUnderlying32 rfl rfl Try.sizeOf9 rfl rfl) (VL.op (R.ld1 Try.isAgg9 rfl (((((hB0_0.ext e0_1).ext e1_4).ext e4_4).cell _))) (VL.op (R.fld' (o := 2) Try.runUnderlying32 rfl rfl Try.sizeOf9 rfl rfl) (VL.op (R.ld1 Try.isAgg9 rfl ((((hB0_1.ext e1_4).ext e4_4).cell _))) (VL.callP Try.call26 rfl (orderG_spec _ _ _) fun w7_4 e7_4 => VL.op (R.asI rfl) (VL.nil (V.ret (fret1 (v := .int _ _) rfl rfl rfl (⟨?_, ((((e0_0.trans e0_1).trans e1_4).trans e4_4).trans e7_4)⟩))))))))))))))))))))))))))))))))))))))))))))))
  all_goals simp_all [cmpV]
end Go.Proofs.Ytbckofoibdljgaa
