/- The small functions: comparing numbers, texts and values. -/
import Derived.Test.YtckihgamnmmbnaaTy
namespace Go.Proofs.Ytckihgamnmmbnaa
open Go.Vc

def cmpI (a b : Int) : Int := if a < b then -1 else if b < a then 1 else 0

theorem isNaN_spec (x : Int) (w : World) : RetsP Try.prog 79 #[.int .i64 x] w (.bool false) := by
  refine enter (args := [_]) Try.func79 rfl Try.ntmps79 (by kernel_rfl) rfl ?_
  refine V.seq (V.region (VL.op (R.asB rfl) (VL.nil (V.seq (V.region (VL.op (R.mvI rfl) (VL.op (R.mvI rfl) (VL.op (R.neq rfl rfl) (VL.op (R.asB rfl) (VL.nil (V.ret (fret1 (v := .bool _) rfl rfl rfl (⟨?_, (Mod.refl _ _)⟩)))))))))))))
  simp

theorem cmpI_spec (a b : Int) (w : World) : RetsP Try.prog 66 #[.int .i64 a, .int .i64 b] w (.int .i64 (cmpI a b)) := by
  refine enter (args := [_, _]) Try.func66 rfl Try.ntmps66 (by kernel_rfl) rfl ?_
  refine V.seq (V.region (VL.op (R.asI rfl) (VL.nil (V.seq (V.region (VL.op (R.mvI rfl) (VL.callP Try.call79 rfl (isNaN_spec _ _) fun w1_1 e1_1 => VL.op (R.asB rfl) (VL.nil (V.seq (V.region (VL.op (R.mvI rfl) (VL.callP Try.call79 rfl (isNaN_spec _ _) fun w2_1 e2_1 => VL.op (R.asB rfl) (VL.nil (V.seq (V.seq (V.region (VL.op (R.mvB rfl) (VL.nil (V.cond rfl (fun c11 => V.seq (V.seq (V.region (VL.op (R.mvB rfl) (VL.nil (V.cond rfl (fun c12 => V.seq (V.region (VL.op (R.asI rfl) (VL.nil (V.ret (fret1 (v := .int _ _) rfl rfl rfl (⟨?_, (e1_1.trans e2_1)⟩))))))) (fun c12 => V.skip (V.seq (V.region (VL.op (R.asI rfl) (VL.nil (V.ret (fret1 (v := .int _ _) rfl rfl rfl (⟨?_, (e1_1.trans e2_1)⟩)))))))))))))) (fun c11 => V.skip (V.seq (V.seq (V.region (VL.op (R.mvB rfl) (VL.nil (V.cond rfl (fun c13 => V.seq (V.region (VL.op (R.asI rfl) (VL.nil (V.ret (fret1 (v := .int _ _) rfl rfl rfl (⟨?_, (e1_1.trans e2_1)⟩))))))) (fun c13 => V.skip (V.seq (V.seq (V.region (VL.op (R.mvI rfl) (VL.op (R.mvI rfl) (VL.op (R.lss rfl rfl) (VL.nil (V.condP rfl (fun c16 => V.seq (V.region (VL.op (R.asI rfl) (VL.nil (V.ret (fret1 (v := .int _ _) rfl rfl rfl (⟨?_, (e1_1.trans e2_1)⟩))))))) (fun c16 => V.skip (V.seq (V.seq (V.region (VL.op (R.mvI rfl) (VL.op (R.mvI rfl) (VL.op (R.gtr rfl rfl) (VL.nil (V.condP rfl (fun c19 => V.seq (V.region (VL.op (R.asI rfl) (VL.nil (V.ret (fret1 (v := .int _ _) rfl rfl rfl (⟨?_, (e1_1.trans e2_1)⟩))))))) (fun c19 => V.skip (V.seq (V.region (VL.op (R.asI rfl) (VL.nil (V.ret (fret1 (v := .int _ _) rfl rfl rfl (⟨?_, (e1_1.trans e2_1)⟩))))))))))))))))))))))))))))))))))))))))))))))))))))
  all_goals first | (simp_all [cmpI]; done) | (simp_all [cmpI]; (repeat' split) <;> omega)

theorem orderI_spec (a b : Int) (w : World) : RetsP Try.prog 80 #[.int .i64 a, .int .i64 b] w (.int .i64 (cmpI a b)) := by
  refine enter (args := [_, _]) Try.func80 rfl Try.ntmps80 (by kernel_rfl) rfl ?_
  refine V.seq (V.region (VL.op (R.asI rfl) (VL.nil (V.seq (V.block (V.seq (V.region (VL.op (R.mvI rfl) (VL.op (R.mvI rfl) (VL.op (R.lss rfl rfl) (VL.op (R.asB rfl) (VL.nil (V.condP rfl (fun c5 => V.seq (V.region (VL.op (R.asI rfl) (VL.nil (V.ret (fret1 (v := .int _ _) rfl rfl rfl (⟨?_, (Mod.refl _ _)⟩))))))) (fun c5 => V.seq (V.region (VL.op (R.mvI rfl) (VL.op (R.mvI rfl) (VL.op (R.gtr rfl rfl) (VL.op (R.asB rfl) (VL.nil (V.condP rfl (fun c9 => V.seq (V.region (VL.op (R.asI rfl) (VL.nil (V.ret (fret1 (v := .int _ _) rfl rfl rfl (⟨?_, (Mod.refl _ _)⟩))))))) (fun c9 => V.skip (V.seq (V.region (VL.op (R.asI rfl) (VL.nil (V.ret (fret1 (v := .int _ _) rfl rfl rfl (⟨?_, (Mod.refl _ _)⟩)))))))))))))))))))))))))))))
  all_goals first | (simp_all [cmpI]; done) | (simp_all [cmpI]; (repeat' split) <;> omega)

def cmpG (a b : ByteArray) : Int := if sLt a b then -1 else if a = b then 0 else 1

theorem orderG_spec (a b : ByteArray) (w : World) : RetsP Try.prog 81 #[.string a, .string b] w (.int .i64 (cmpG a b)) := by
  refine enter (args := [_, _]) Try.func81 rfl Try.ntmps81 (by kernel_rfl) rfl ?_
  refine V.seq (V.region (VL.op (R.asI rfl) (VL.nil (V.seq (V.block (V.seq (V.region (VL.op (R.mvG rfl) (VL.op (R.mvG rfl) (VL.op (R.lssG rfl rfl) (VL.op (R.asB rfl) (VL.nil (V.cond rfl (fun c5 => V.seq (V.region (VL.op (R.asI rfl) (VL.nil (V.ret (fret1 (v := .int _ _) rfl rfl rfl (⟨?_, (Mod.refl _ _)⟩))))))) (fun c5 => V.seq (V.region (VL.op (R.mvG rfl) (VL.op (R.mvG rfl) (VL.op (R.gtrG rfl rfl) (VL.op (R.asB rfl) (VL.nil (V.cond rfl (fun c9 => V.seq (V.region (VL.op (R.asI rfl) (VL.nil (V.ret (fret1 (v := .int _ _) rfl rfl rfl (⟨?_, (Mod.refl _ _)⟩))))))) (fun c9 => V.skip (V.seq (V.region (VL.op (R.asI rfl) (VL.nil (V.ret (fret1 (v := .int _ _) rfl rfl rfl (⟨?_, (Mod.refl _ _)⟩)))))))))))))))))))))))))))))
  all_goals simp_all [cmpG]

structure Val where
  kind : Int
  n : Int
  text : ByteArray
  deriving DecidableEq
def encVal (v : Val) : List Value := [.int .i64 v.kind, .int .i64 v.n, .string v.text]
def cmpV (a b : Val) : Int := if cmpI a.kind b.kind ≠ 0 then cmpI a.kind b.kind else if cmpI a.n b.n ≠ 0 then cmpI a.n b.n else cmpG a.text b.text

theorem compare_spec (a b : Val) (w : World) : RetsP Try.prog 67 #[.agg (encVal a).toArray, .agg (encVal b).toArray] w (.int .i64 (cmpV a b)) := by
  obtain ⟨ka, na, ta⟩ := a
  obtain ⟨kb, nb, tb⟩ := b
  refine enter (args := [_, _]) Try.func67 rfl Try.ntmps67 (by kernel_rfl) rfl ?_
  refine V.seq (V.region (VL.box (v := .agg _) rfl fun b0_0 w0_0 hb0_0 e0_0 hB0_0 => VL.box (v := .agg _) rfl fun b0_1 w0_1 hb0_1 e0_1 hB0_1 => VL.op (R.asI rfl) (VL.nil (V.seq (V.seq (V.region (VL.op (R.fld' (o := 0) Try.runUnderlying55 rfl rfl Try.sizeOf3 rfl rfl) (VL.op (R.ld1 Try.isAgg3 rfl (((hB0_0.ext e0_1).cell _))) (VL.op (R.fld' (o := 0) Try.runUnderlying55 rfl rfl Try.sizeOf3 rfl rfl) (VL.op (R.ld1 Try.isAgg3 rfl ((hB0_1.cell _))) (VL.callP Try.call80 rfl (orderI_spec _ _ _) fun w1_4 e1_4 => VL.op (R.asI rfl) (VL.nil (V.seq (V.region (VL.op (R.mvI rfl) (VL.op (R.neq rfl rfl) (VL.nil (V.condP rfl (fun c13 => V.seq (V.region (VL.op (R.mvI rfl) (VL.op (R.asI rfl) (VL.nil (V.ret (fret1 (v := .int _ _) rfl rfl rfl (⟨?_, ((e0_0.trans e0_1).trans e1_4)⟩)))))))) (fun c13 => V.skip (V.seq (V.seq (V.region (VL.op (R.fld' (o := 1) Try.runUnderlying55 rfl rfl Try.sizeOf3 rfl rfl) (VL.op (R.ld1 Try.isAgg3 rfl ((((hB0_0.ext e0_1).ext e1_4).cell _))) (VL.op (R.fld' (o := 1) Try.runUnderlying55 rfl rfl Try.sizeOf3 rfl rfl) (VL.op (R.ld1 Try.isAgg3 rfl (((hB0_1.ext e1_4).cell _))) (VL.callP Try.call80 rfl (orderI_spec _ _ _) fun w4_4 e4_4 => VL.op (R.asI rfl) (VL.nil (V.seq (V.region (VL.op (R.mvI rfl) (VL.op (R.neq rfl rfl) (VL.nil (V.condP rfl (fun c21 => V.seq (V.region (VL.op (R.mvI rfl) (VL.op (R.asI rfl) (VL.nil (V.ret (fret1 (v := .int _ _) rfl rfl rfl (⟨?_, (((e0_0.trans e0_1).trans e1_4).trans e4_4)⟩)))))))) (fun c21 => V.skip (V.seq (V.region (VL.op (R.fld' (o := 2) Try.runUnderlying55 rfl rfl Try.sizeOf9 rfl rfl) (VL.op (R.ld1 Try.isAgg9 rfl (((((hB0_0.ext e0_1).ext e1_4).ext e4_4).cell _))) (VL.op (R.fld' (o := 2) Try.runUnderlying55 rfl rfl Try.sizeOf9 rfl rfl) (VL.op (R.ld1 Try.isAgg9 rfl ((((hB0_1.ext e1_4).ext e4_4).cell _))) (VL.callP Try.call81 rfl (orderG_spec _ _ _) fun w7_4 e7_4 => VL.op (R.asI rfl) (VL.nil (V.ret (fret1 (v := .int _ _) rfl rfl rfl (⟨?_, ((((e0_0.trans e0_1).trans e1_4).trans e4_4).trans e7_4)⟩))))))))))))))))))))))))))))))))))))))))))))))
  all_goals simp_all [cmpV]
end Go.Proofs.Ytckihgamnmmbnaa


/- The small functions: what a value must be, what counts; the reference's. -/
namespace Go.Proofs.Ytckihgamnmmbnaa
open Go.Vc

def validV (v : Val) : Bool :=
  if v.kind = 0 then decide (v.n = 0) && decide (v.text = { data := #[] })
  else if v.kind = 1 then decide (v.n = 0) && decide ((v.text.size : Int) ≤ 200)
  else if v.kind = 2 then decide (-1000000000 ≤ v.n) && decide (v.n ≤ 1000000000) && decide (v.text = { data := #[] })
  else if v.kind = 3 then decide (0 ≤ v.n) && decide (v.n ≤ 73048) && decide (v.text = { data := #[] })
  else if v.kind = 4 then decide (0 ≤ v.n) && decide (v.n ≤ 1) && decide (v.text = { data := #[] })
  else false

set_option maxHeartbeats 1000000 in
theorem valid_spec (v : Val) (w : World) : RetsP Try.prog 61 #[.agg (encVal v).toArray] w (.bool (validV v)) := by
  obtain ⟨k, n, t⟩ := v
  refine enter (args := [_]) Try.func61 rfl Try.ntmps61 (by kernel_rfl) rfl ?_
  refine V.seq (V.region (VL.box (v := .agg _) rfl fun b0_0 w0_0 hb0_0 e0_0 hB0_0 => VL.op (R.asB rfl) (VL.nil (V.seq (V.seq (V.region (VL.op (R.fld' (o := 0) Try.runUnderlying55 rfl rfl Try.sizeOf3 rfl rfl) (VL.op (R.ld1 Try.isAgg3 rfl ((hB0_0.cell _))) (VL.op (R.neq rfl rfl) (VL.op (R.mvB rfl) (VL.andP rfl rfl (fun g1_3 => VL.op (R.fld' (o := 2) Try.runUnderlying55 rfl rfl Try.sizeOf9 rfl rfl) (VL.gT rfl rfl (VL.op (R.ld1 Try.isAgg9 rfl ((hB0_0.cell _))) (VL.gT rfl rfl (VL.op (R.neqG rfl rfl) (VL.op (R.pickTB rfl rfl) (VL.nil (V.condP rfl (fun c12 => V.seq (V.region (VL.op (R.asB rfl) (VL.nil (V.ret (fret1 (v := .bool _) rfl rfl rfl (⟨?_, e0_0⟩))))))) (fun c12 => V.skip (V.seq (V.region (VL.op (R.asI rfl) (VL.op (R.asI rfl) (VL.nil (V.seq (V.seq (V.region (VL.op (R.fld' (o := 0) Try.runUnderlying55 rfl rfl Try.sizeOf3 rfl rfl) (VL.op (R.ld1 Try.isAgg3 rfl ((hB0_0.cell _))) (VL.nil (V.block (V.seq (V.region (VL.op (R.eql rfl rfl) (VL.op (R.asB rfl) (VL.nil (V.condP rfl (fun c15 => V.skip (V.seq (V.region (VL.op (R.mvI rfl) (VL.op (R.fld' (o := 1) Try.runUnderlying55 rfl rfl Try.sizeOf3 rfl rfl) (VL.op (R.ld1 Try.isAgg3 rfl ((hB0_0.cell _))) (VL.op (R.leq rfl rfl) (VL.op (R.mvB rfl) (VL.andP rfl rfl (fun g16_4 => VL.op (R.fld' (o := 1) Try.runUnderlying55 rfl rfl Try.sizeOf3 rfl rfl) (VL.gT rfl rfl (VL.op (R.ld1 Try.isAgg3 rfl ((hB0_0.cell _))) (VL.gT rfl rfl (VL.op (R.mvI rfl) (VL.gT rfl rfl (VL.op (R.leq rfl rfl) (VL.op (R.pickTB rfl rfl) (VL.op (R.asB rfl) (VL.nil (V.ret (fret1 (v := .bool _) rfl rfl rfl (⟨?_, e0_0⟩))))))))))))) (fun g16_4 => VL.gF rfl rfl (VL.gF rfl rfl (VL.gF rfl rfl (VL.op (R.pickFB rfl rfl) (VL.op (R.asB rfl) (VL.nil (V.ret (fret1 (v := .bool _) rfl rfl rfl (⟨?_, e0_0⟩)))))))))))))))))) (fun c15 => V.seq (V.region (VL.op (R.eql rfl rfl) (VL.op (R.asB rfl) (VL.nil (V.condP rfl (fun c17 => V.seq (V.region (VL.op (R.fld' (o := 2) Try.runUnderlying55 rfl rfl Try.sizeOf9 rfl rfl) (VL.op (R.ld1 Try.isAgg9 rfl ((hB0_0.cell _))) (VL.op (R.lenG Try.runUnderlying9 rfl) (VL.op (R.gtr rfl rfl) (VL.nil (V.condP rfl (fun c22 => V.seq (V.region (VL.op (R.asB rfl) (VL.nil (V.ret (fret1 (v := .bool _) rfl rfl rfl (⟨?_, e0_0⟩))))))) (fun c22 => V.skip (V.seq (V.region (VL.op (R.mvI rfl) (VL.op (R.fld' (o := 1) Try.runUnderlying55 rfl rfl Try.sizeOf3 rfl rfl) (VL.op (R.ld1 Try.isAgg3 rfl ((hB0_0.cell _))) (VL.op (R.leq rfl rfl) (VL.op (R.mvB rfl) (VL.andP rfl rfl (fun g16_4 => VL.op (R.fld' (o := 1) Try.runUnderlying55 rfl rfl Try.sizeOf3 rfl rfl) (VL.gT rfl rfl (VL.op (R.ld1 Try.isAgg3 rfl ((hB0_0.cell _))) (VL.gT rfl rfl (VL.op (R.mvI rfl) (VL.gT rfl rfl (VL.op (R.leq rfl rfl) (VL.op (R.pickTB rfl rfl) (VL.op (R.asB rfl) (VL.nil (V.ret (fret1 (v := .bool _) rfl rfl rfl (⟨?_, e0_0⟩))))))))))))) (fun g16_4 => VL.gF rfl rfl (VL.gF rfl rfl (VL.gF rfl rfl (VL.op (R.pickFB rfl rfl) (VL.op (R.asB rfl) (VL.nil (V.ret (fret1 (v := .bool _) rfl rfl rfl (⟨?_, e0_0⟩)))))))))))))))))))))))))) (fun c17 => V.seq (V.region (VL.op (R.eql rfl rfl) (VL.op (R.asB rfl) (VL.nil (V.condP rfl (fun c23 => V.region (VL.op (R.asI rfl) (VL.op (R.asI rfl) (VL.nil (V.seq (V.region (VL.op (R.mvI rfl) (VL.op (R.fld' (o := 1) Try.runUnderlying55 rfl rfl Try.sizeOf3 rfl rfl) (VL.op (R.ld1 Try.isAgg3 rfl ((hB0_0.cell _))) (VL.op (R.leq rfl rfl) (VL.op (R.mvB rfl) (VL.andP rfl rfl (fun g16_4 => VL.op (R.fld' (o := 1) Try.runUnderlying55 rfl rfl Try.sizeOf3 rfl rfl) (VL.gT rfl rfl (VL.op (R.ld1 Try.isAgg3 rfl ((hB0_0.cell _))) (VL.gT rfl rfl (VL.op (R.mvI rfl) (VL.gT rfl rfl (VL.op (R.leq rfl rfl) (VL.op (R.pickTB rfl rfl) (VL.op (R.asB rfl) (VL.nil (V.ret (fret1 (v := .bool _) rfl rfl rfl (⟨?_, e0_0⟩))))))))))))) (fun g16_4 => VL.gF rfl rfl (VL.gF rfl rfl (VL.gF rfl rfl (VL.op (R.pickFB rfl rfl) (VL.op (R.asB rfl) (VL.nil (V.ret (fret1 (v := .bool _) rfl rfl rfl (⟨?_, e0_0⟩))))))))))))))))))))) (fun c23 => V.seq (V.region (VL.op (R.eql rfl rfl) (VL.op (R.asB rfl) (VL.nil (V.condP rfl (fun c25 => V.region (VL.op (R.asI rfl) (VL.nil (V.seq (V.region (VL.op (R.mvI rfl) (VL.op (R.fld' (o := 1) Try.runUnderlying55 rfl rfl Try.sizeOf3 rfl rfl) (VL.op (R.ld1 Try.isAgg3 rfl ((hB0_0.cell _))) (VL.op (R.leq rfl rfl) (VL.op (R.mvB rfl) (VL.andP rfl rfl (fun g16_4 => VL.op (R.fld' (o := 1) Try.runUnderlying55 rfl rfl Try.sizeOf3 rfl rfl) (VL.gT rfl rfl (VL.op (R.ld1 Try.isAgg3 rfl ((hB0_0.cell _))) (VL.gT rfl rfl (VL.op (R.mvI rfl) (VL.gT rfl rfl (VL.op (R.leq rfl rfl) (VL.op (R.pickTB rfl rfl) (VL.op (R.asB rfl) (VL.nil (V.ret (fret1 (v := .bool _) rfl rfl rfl (⟨?_, e0_0⟩))))))))))))) (fun g16_4 => VL.gF rfl rfl (VL.gF rfl rfl (VL.gF rfl rfl (VL.op (R.pickFB rfl rfl) (VL.op (R.asB rfl) (VL.nil (V.ret (fret1 (v := .bool _) rfl rfl rfl (⟨?_, e0_0⟩)))))))))))))))))))) (fun c25 => V.seq (V.region (VL.op (R.eql rfl rfl) (VL.op (R.asB rfl) (VL.nil (V.condP rfl (fun c27 => V.region (VL.op (R.asI rfl) (VL.nil (V.seq (V.region (VL.op (R.mvI rfl) (VL.op (R.fld' (o := 1) Try.runUnderlying55 rfl rfl Try.sizeOf3 rfl rfl) (VL.op (R.ld1 Try.isAgg3 rfl ((hB0_0.cell _))) (VL.op (R.leq rfl rfl) (VL.op (R.mvB rfl) (VL.andP rfl rfl (fun g16_4 => VL.op (R.fld' (o := 1) Try.runUnderlying55 rfl rfl Try.sizeOf3 rfl rfl) (VL.gT rfl rfl (VL.op (R.ld1 Try.isAgg3 rfl ((hB0_0.cell _))) (VL.gT rfl rfl (VL.op (R.mvI rfl) (VL.gT rfl rfl (VL.op (R.leq rfl rfl) (VL.op (R.pickTB rfl rfl) (VL.op (R.asB rfl) (VL.nil (V.ret (fret1 (v := .bool _) rfl rfl rfl (⟨?_, e0_0⟩))))))))))))) (fun g16_4 => VL.gF rfl rfl (VL.gF rfl rfl (VL.gF rfl rfl (VL.op (R.pickFB rfl rfl) (VL.op (R.asB rfl) (VL.nil (V.ret (fret1 (v := .bool _) rfl rfl rfl (⟨?_, e0_0⟩)))))))))))))))))))) (fun c27 => V.seq (V.region (VL.op (R.asB rfl) (VL.nil (V.ret (fret1 (v := .bool _) rfl rfl rfl (⟨?_, e0_0⟩)))))))))))))))))))))))))))))))))))))))))))))))))))))))))) (fun g1_3 => VL.gF rfl rfl (VL.gF rfl rfl (VL.op (R.pickFB rfl rfl) (VL.nil (V.condF rfl (V.skip (V.seq (V.region (VL.op (R.asI rfl) (VL.op (R.asI rfl) (VL.nil (V.seq (V.seq (V.region (VL.op (R.fld' (o := 0) Try.runUnderlying55 rfl rfl Try.sizeOf3 rfl rfl) (VL.op (R.ld1 Try.isAgg3 rfl ((hB0_0.cell _))) (VL.nil (V.block (V.seq (V.region (VL.op (R.eql rfl rfl) (VL.op (R.asB rfl) (VL.nil (V.condP rfl (fun c15 => V.skip (V.seq (V.region (VL.op (R.mvI rfl) (VL.op (R.fld' (o := 1) Try.runUnderlying55 rfl rfl Try.sizeOf3 rfl rfl) (VL.op (R.ld1 Try.isAgg3 rfl ((hB0_0.cell _))) (VL.op (R.leq rfl rfl) (VL.op (R.mvB rfl) (VL.andP rfl rfl (fun g16_4 => VL.op (R.fld' (o := 1) Try.runUnderlying55 rfl rfl Try.sizeOf3 rfl rfl) (VL.gT rfl rfl (VL.op (R.ld1 Try.isAgg3 rfl ((hB0_0.cell _))) (VL.gT rfl rfl (VL.op (R.mvI rfl) (VL.gT rfl rfl (VL.op (R.leq rfl rfl) (VL.op (R.pickTB rfl rfl) (VL.op (R.asB rfl) (VL.nil (V.ret (fret1 (v := .bool _) rfl rfl rfl (⟨?_, e0_0⟩))))))))))))) (fun g16_4 => VL.gF rfl rfl (VL.gF rfl rfl (VL.gF rfl rfl (VL.op (R.pickFB rfl rfl) (VL.op (R.asB rfl) (VL.nil (V.ret (fret1 (v := .bool _) rfl rfl rfl (⟨?_, e0_0⟩)))))))))))))))))) (fun c15 => V.seq (V.region (VL.op (R.eql rfl rfl) (VL.op (R.asB rfl) (VL.nil (V.condP rfl (fun c17 => V.seq (V.region (VL.op (R.fld' (o := 2) Try.runUnderlying55 rfl rfl Try.sizeOf9 rfl rfl) (VL.op (R.ld1 Try.isAgg9 rfl ((hB0_0.cell _))) (VL.op (R.lenG Try.runUnderlying9 rfl) (VL.op (R.gtr rfl rfl) (VL.nil (V.condP rfl (fun c22 => V.seq (V.region (VL.op (R.asB rfl) (VL.nil (V.ret (fret1 (v := .bool _) rfl rfl rfl (⟨?_, e0_0⟩))))))) (fun c22 => V.skip (V.seq (V.region (VL.op (R.mvI rfl) (VL.op (R.fld' (o := 1) Try.runUnderlying55 rfl rfl Try.sizeOf3 rfl rfl) (VL.op (R.ld1 Try.isAgg3 rfl ((hB0_0.cell _))) (VL.op (R.leq rfl rfl) (VL.op (R.mvB rfl) (VL.andP rfl rfl (fun g16_4 => VL.op (R.fld' (o := 1) Try.runUnderlying55 rfl rfl Try.sizeOf3 rfl rfl) (VL.gT rfl rfl (VL.op (R.ld1 Try.isAgg3 rfl ((hB0_0.cell _))) (VL.gT rfl rfl (VL.op (R.mvI rfl) (VL.gT rfl rfl (VL.op (R.leq rfl rfl) (VL.op (R.pickTB rfl rfl) (VL.op (R.asB rfl) (VL.nil (V.ret (fret1 (v := .bool _) rfl rfl rfl (⟨?_, e0_0⟩))))))))))))) (fun g16_4 => VL.gF rfl rfl (VL.gF rfl rfl (VL.gF rfl rfl (VL.op (R.pickFB rfl rfl) (VL.op (R.asB rfl) (VL.nil (V.ret (fret1 (v := .bool _) rfl rfl rfl (⟨?_, e0_0⟩)))))))))))))))))))))))))) (fun c17 => V.seq (V.region (VL.op (R.eql rfl rfl) (VL.op (R.asB rfl) (VL.nil (V.condP rfl (fun c23 => V.region (VL.op (R.asI rfl) (VL.op (R.asI rfl) (VL.nil (V.seq (V.region (VL.op (R.mvI rfl) (VL.op (R.fld' (o := 1) Try.runUnderlying55 rfl rfl Try.sizeOf3 rfl rfl) (VL.op (R.ld1 Try.isAgg3 rfl ((hB0_0.cell _))) (VL.op (R.leq rfl rfl) (VL.op (R.mvB rfl) (VL.andP rfl rfl (fun g16_4 => VL.op (R.fld' (o := 1) Try.runUnderlying55 rfl rfl Try.sizeOf3 rfl rfl) (VL.gT rfl rfl (VL.op (R.ld1 Try.isAgg3 rfl ((hB0_0.cell _))) (VL.gT rfl rfl (VL.op (R.mvI rfl) (VL.gT rfl rfl (VL.op (R.leq rfl rfl) (VL.op (R.pickTB rfl rfl) (VL.op (R.asB rfl) (VL.nil (V.ret (fret1 (v := .bool _) rfl rfl rfl (⟨?_, e0_0⟩))))))))))))) (fun g16_4 => VL.gF rfl rfl (VL.gF rfl rfl (VL.gF rfl rfl (VL.op (R.pickFB rfl rfl) (VL.op (R.asB rfl) (VL.nil (V.ret (fret1 (v := .bool _) rfl rfl rfl (⟨?_, e0_0⟩))))))))))))))))))))) (fun c23 => V.seq (V.region (VL.op (R.eql rfl rfl) (VL.op (R.asB rfl) (VL.nil (V.condP rfl (fun c25 => V.region (VL.op (R.asI rfl) (VL.nil (V.seq (V.region (VL.op (R.mvI rfl) (VL.op (R.fld' (o := 1) Try.runUnderlying55 rfl rfl Try.sizeOf3 rfl rfl) (VL.op (R.ld1 Try.isAgg3 rfl ((hB0_0.cell _))) (VL.op (R.leq rfl rfl) (VL.op (R.mvB rfl) (VL.andP rfl rfl (fun g16_4 => VL.op (R.fld' (o := 1) Try.runUnderlying55 rfl rfl Try.sizeOf3 rfl rfl) (VL.gT rfl rfl (VL.op (R.ld1 Try.isAgg3 rfl ((hB0_0.cell _))) (VL.gT rfl rfl (VL.op (R.mvI rfl) (VL.gT rfl rfl (VL.op (R.leq rfl rfl) (VL.op (R.pickTB rfl rfl) (VL.op (R.asB rfl) (VL.nil (V.ret (fret1 (v := .bool _) rfl rfl rfl (⟨?_, e0_0⟩))))))))))))) (fun g16_4 => VL.gF rfl rfl (VL.gF rfl rfl (VL.gF rfl rfl (VL.op (R.pickFB rfl rfl) (VL.op (R.asB rfl) (VL.nil (V.ret (fret1 (v := .bool _) rfl rfl rfl (⟨?_, e0_0⟩)))))))))))))))))))) (fun c25 => V.seq (V.region (VL.op (R.eql rfl rfl) (VL.op (R.asB rfl) (VL.nil (V.condP rfl (fun c27 => V.region (VL.op (R.asI rfl) (VL.nil (V.seq (V.region (VL.op (R.mvI rfl) (VL.op (R.fld' (o := 1) Try.runUnderlying55 rfl rfl Try.sizeOf3 rfl rfl) (VL.op (R.ld1 Try.isAgg3 rfl ((hB0_0.cell _))) (VL.op (R.leq rfl rfl) (VL.op (R.mvB rfl) (VL.andP rfl rfl (fun g16_4 => VL.op (R.fld' (o := 1) Try.runUnderlying55 rfl rfl Try.sizeOf3 rfl rfl) (VL.gT rfl rfl (VL.op (R.ld1 Try.isAgg3 rfl ((hB0_0.cell _))) (VL.gT rfl rfl (VL.op (R.mvI rfl) (VL.gT rfl rfl (VL.op (R.leq rfl rfl) (VL.op (R.pickTB rfl rfl) (VL.op (R.asB rfl) (VL.nil (V.ret (fret1 (v := .bool _) rfl rfl rfl (⟨?_, e0_0⟩))))))))))))) (fun g16_4 => VL.gF rfl rfl (VL.gF rfl rfl (VL.gF rfl rfl (VL.op (R.pickFB rfl rfl) (VL.op (R.asB rfl) (VL.nil (V.ret (fret1 (v := .bool _) rfl rfl rfl (⟨?_, e0_0⟩)))))))))))))))))))) (fun c27 => V.seq (V.region (VL.op (R.asB rfl) (VL.nil (V.ret (fret1 (v := .bool _) rfl rfl rfl (⟨?_, e0_0⟩))))))))))))))))))))))))))))))))))))))))))))))))))))))))))))))))))
  all_goals first | (simp_all [validV]; done) | (simp_all [validV]; omega)

set_option maxHeartbeats 1000000 in
theorem rvalid_spec (v : Val) (w : World) : RetsP Try.prog 38 #[.agg (encVal v).toArray] w (.bool (validV v)) := by
  obtain ⟨k, n, t⟩ := v
  refine enter (args := [_]) Try.func38 rfl Try.ntmps38 (by kernel_rfl) rfl ?_
  refine V.seq (V.region (VL.box (v := .agg _) rfl fun b0_0 w0_0 hb0_0 e0_0 hB0_0 => VL.op (R.asB rfl) (VL.nil (V.seq (V.seq (V.region (VL.op (R.fld' (o := 0) Try.runUnderlying55 rfl rfl Try.sizeOf3 rfl rfl) (VL.op (R.ld1 Try.isAgg3 rfl ((hB0_0.cell _))) (VL.nil (V.block (V.seq (V.region (VL.op (R.eql rfl rfl) (VL.op (R.asB rfl) (VL.nil (V.condP rfl (fun c5 => V.seq (V.region (VL.op (R.fld' (o := 1) Try.runUnderlying55 rfl rfl Try.sizeOf3 rfl rfl) (VL.op (R.ld1 Try.isAgg3 rfl ((hB0_0.cell _))) (VL.op (R.eql rfl rfl) (VL.op (R.mvB rfl) (VL.andP rfl rfl (fun g3_3 => VL.op (R.fld' (o := 2) Try.runUnderlying55 rfl rfl Try.sizeOf9 rfl rfl) (VL.gT rfl rfl (VL.op (R.ld1 Try.isAgg9 rfl ((hB0_0.cell _))) (VL.gT rfl rfl (VL.op (R.eqlG rfl rfl) (VL.op (R.pickTB rfl rfl) (VL.op (R.asB rfl) (VL.nil (V.ret (fret1 (v := .bool _) rfl rfl rfl (⟨?_, e0_0⟩))))))))))) (fun g3_3 => VL.gF rfl rfl (VL.gF rfl rfl (VL.op (R.pickFB rfl rfl) (VL.op (R.asB rfl) (VL.nil (V.ret (fret1 (v := .bool _) rfl rfl rfl (⟨?_, e0_0⟩))))))))))))))) (fun c5 => V.seq (V.region (VL.op (R.eql rfl rfl) (VL.op (R.asB rfl) (VL.nil (V.condP rfl (fun c15 => V.seq (V.region (VL.op (R.fld' (o := 1) Try.runUnderlying55 rfl rfl Try.sizeOf3 rfl rfl) (VL.op (R.ld1 Try.isAgg3 rfl ((hB0_0.cell _))) (VL.op (R.eql rfl rfl) (VL.op (R.mvB rfl) (VL.andP rfl rfl (fun g5_3 => VL.op (R.fld' (o := 2) Try.runUnderlying55 rfl rfl Try.sizeOf9 rfl rfl) (VL.gT rfl rfl (VL.op (R.ld1 Try.isAgg9 rfl ((hB0_0.cell _))) (VL.gT rfl rfl (VL.op (R.lenG Try.runUnderlying9 rfl) (VL.gT rfl rfl (VL.op (R.leq rfl rfl) (VL.op (R.pickTB rfl rfl) (VL.op (R.asB rfl) (VL.nil (V.ret (fret1 (v := .bool _) rfl rfl rfl (⟨?_, e0_0⟩))))))))))))) (fun g5_3 => VL.gF rfl rfl (VL.gF rfl rfl (VL.gF rfl rfl (VL.op (R.pickFB rfl rfl) (VL.op (R.asB rfl) (VL.nil (V.ret (fret1 (v := .bool _) rfl rfl rfl (⟨?_, e0_0⟩)))))))))))))))) (fun c15 => V.seq (V.region (VL.op (R.eql rfl rfl) (VL.op (R.asB rfl) (VL.nil (V.condP rfl (fun c26 => V.seq (V.region (VL.op (R.fld' (o := 1) Try.runUnderlying55 rfl rfl Try.sizeOf3 rfl rfl) (VL.op (R.ld1 Try.isAgg3 rfl ((hB0_0.cell _))) (VL.op (R.geq rfl rfl) (VL.op (R.mvB rfl) (VL.andP rfl rfl (fun g7_3 => VL.op (R.fld' (o := 1) Try.runUnderlying55 rfl rfl Try.sizeOf3 rfl rfl) (VL.gT rfl rfl (VL.op (R.ld1 Try.isAgg3 rfl ((hB0_0.cell _))) (VL.gT rfl rfl (VL.op (R.leq rfl rfl) (VL.op (R.pickTB rfl rfl) (VL.op (R.mvB rfl) (VL.andP rfl rfl (fun g7_8 => VL.op (R.fld' (o := 2) Try.runUnderlying55 rfl rfl Try.sizeOf9 rfl rfl) (VL.gT rfl rfl (VL.op (R.ld1 Try.isAgg9 rfl ((hB0_0.cell _))) (VL.gT rfl rfl (VL.op (R.eqlG rfl rfl) (VL.op (R.pickTB rfl rfl) (VL.op (R.asB rfl) (VL.nil (V.ret (fret1 (v := .bool _) rfl rfl rfl (⟨?_, e0_0⟩))))))))))) (fun g7_8 => VL.gF rfl rfl (VL.gF rfl rfl (VL.op (R.pickFB rfl rfl) (VL.op (R.asB rfl) (VL.nil (V.ret (fret1 (v := .bool _) rfl rfl rfl (⟨?_, e0_0⟩)))))))))))))))) (fun g7_3 => VL.gF rfl rfl (VL.gF rfl rfl (VL.op (R.pickFB rfl rfl) (VL.op (R.mvB rfl) (VL.gF rfl rfl (VL.gF rfl rfl (VL.gF rfl rfl (VL.op (R.pickFB rfl rfl) (VL.op (R.asB rfl) (VL.nil (V.ret (fret1 (v := .bool _) rfl rfl rfl (⟨?_, e0_0⟩)))))))))))))))))))) (fun c26 => V.seq (V.region (VL.op (R.eql rfl rfl) (VL.op (R.asB rfl) (VL.nil (V.condP rfl (fun c41 => V.seq (V.region (VL.op (R.fld' (o := 1) Try.runUnderlying55 rfl rfl Try.sizeOf3 rfl rfl) (VL.op (R.ld1 Try.isAgg3 rfl ((hB0_0.cell _))) (VL.op (R.geq rfl rfl) (VL.op (R.mvB rfl) (VL.andP rfl rfl (fun g9_3 => VL.op (R.fld' (o := 1) Try.runUnderlying55 rfl rfl Try.sizeOf3 rfl rfl) (VL.gT rfl rfl (VL.op (R.ld1 Try.isAgg3 rfl ((hB0_0.cell _))) (VL.gT rfl rfl (VL.op (R.leq rfl rfl) (VL.op (R.pickTB rfl rfl) (VL.op (R.mvB rfl) (VL.andP rfl rfl (fun g9_8 => VL.op (R.fld' (o := 2) Try.runUnderlying55 rfl rfl Try.sizeOf9 rfl rfl) (VL.gT rfl rfl (VL.op (R.ld1 Try.isAgg9 rfl ((hB0_0.cell _))) (VL.gT rfl rfl (VL.op (R.eqlG rfl rfl) (VL.op (R.pickTB rfl rfl) (VL.op (R.asB rfl) (VL.nil (V.ret (fret1 (v := .bool _) rfl rfl rfl (⟨?_, e0_0⟩))))))))))) (fun g9_8 => VL.gF rfl rfl (VL.gF rfl rfl (VL.op (R.pickFB rfl rfl) (VL.op (R.asB rfl) (VL.nil (V.ret (fret1 (v := .bool _) rfl rfl rfl (⟨?_, e0_0⟩)))))))))))))))) (fun g9_3 => VL.gF rfl rfl (VL.gF rfl rfl (VL.op (R.pickFB rfl rfl) (VL.op (R.mvB rfl) (VL.gF rfl rfl (VL.gF rfl rfl (VL.gF rfl rfl (VL.op (R.pickFB rfl rfl) (VL.op (R.asB rfl) (VL.nil (V.ret (fret1 (v := .bool _) rfl rfl rfl (⟨?_, e0_0⟩)))))))))))))))))))) (fun c41 => V.seq (V.region (VL.op (R.eql rfl rfl) (VL.op (R.asB rfl) (VL.nil (V.condP rfl (fun c56 => V.seq (V.region (VL.op (R.fld' (o := 1) Try.runUnderlying55 rfl rfl Try.sizeOf3 rfl rfl) (VL.op (R.ld1 Try.isAgg3 rfl ((hB0_0.cell _))) (VL.op (R.eql rfl rfl) (VL.op (R.mvB rfl) (VL.orP rfl rfl (fun g11_3 => VL.op (R.fld' (o := 1) Try.runUnderlying55 rfl rfl Try.sizeOf3 rfl rfl) (VL.gT rfl rfl (VL.op (R.ld1 Try.isAgg3 rfl ((hB0_0.cell _))) (VL.gT rfl rfl (VL.op (R.eql rfl rfl) (VL.op (R.pickFB rfl rfl) (VL.op (R.mvB rfl) (VL.andP rfl rfl (fun g11_8 => VL.op (R.fld' (o := 2) Try.runUnderlying55 rfl rfl Try.sizeOf9 rfl rfl) (VL.gT rfl rfl (VL.op (R.ld1 Try.isAgg9 rfl ((hB0_0.cell _))) (VL.gT rfl rfl (VL.op (R.eqlG rfl rfl) (VL.op (R.pickTB rfl rfl) (VL.op (R.asB rfl) (VL.nil (V.ret (fret1 (v := .bool _) rfl rfl rfl (⟨?_, e0_0⟩))))))))))) (fun g11_8 => VL.gF rfl rfl (VL.gF rfl rfl (VL.op (R.pickFB rfl rfl) (VL.op (R.asB rfl) (VL.nil (V.ret (fret1 (v := .bool _) rfl rfl rfl (⟨?_, e0_0⟩)))))))))))))))) (fun g11_3 => VL.gF rfl rfl (VL.gF rfl rfl (VL.op (R.pickTB rfl rfl) (VL.op (R.mvB rfl) (VL.gT rfl rfl (VL.op (R.fld' (o := 2) Try.runUnderlying55 rfl rfl Try.sizeOf9 rfl rfl) (VL.gT rfl rfl (VL.op (R.ld1 Try.isAgg9 rfl ((hB0_0.cell _))) (VL.gT rfl rfl (VL.op (R.eqlG rfl rfl) (VL.op (R.pickTB rfl rfl) (VL.op (R.asB rfl) (VL.nil (V.ret (fret1 (v := .bool _) rfl rfl rfl (⟨?_, e0_0⟩))))))))))))))))))))))) (fun c56 => V.skip (V.seq (V.region (VL.op (R.asB rfl) (VL.nil (V.ret (fret1 (v := .bool _) rfl rfl rfl (⟨?_, e0_0⟩))))))))))))))))))))))))))))))))))))))))))))))))
  all_goals first | (simp_all [validV]; done) | (simp_all [validV]; omega)

theorem cmpI_zero (a b : Int) : cmpI a b = 0 ↔ a = b := by
  unfold cmpI; (repeat' split) <;> omega

theorem sign_spec (a b : Int) (w : World) : RetsP Try.prog 82 #[.int .i64 a, .int .i64 b] w (.int .i64 (cmpI a b)) := by
  refine enter (args := [_, _]) Try.func82 rfl Try.ntmps82 (by kernel_rfl) rfl ?_
  refine V.seq (V.region (VL.op (R.asI rfl) (VL.nil (V.seq (V.seq (V.region (VL.op (R.mvI rfl) (VL.op (R.mvI rfl) (VL.op (R.lss rfl rfl) (VL.nil (V.condP rfl (fun c7 => V.seq (V.region (VL.op (R.asI rfl) (VL.nil (V.ret (fret1 (v := .int _ _) rfl rfl rfl (⟨?_, (Mod.refl _ _)⟩))))))) (fun c7 => V.skip (V.seq (V.seq (V.region (VL.op (R.mvI rfl) (VL.op (R.mvI rfl) (VL.op (R.gtr rfl rfl) (VL.nil (V.condP rfl (fun c10 => V.seq (V.region (VL.op (R.asI rfl) (VL.nil (V.ret (fret1 (v := .int _ _) rfl rfl rfl (⟨?_, (Mod.refl _ _)⟩))))))) (fun c10 => V.skip (V.seq (V.region (VL.op (R.asI rfl) (VL.nil (V.ret (fret1 (v := .int _ _) rfl rfl rfl (⟨?_, (Mod.refl _ _)⟩))))))))))))))))))))))))))))
  all_goals first | (simp_all [cmpI]; done) | (simp_all [cmpI]; (repeat' split) <;> omega)

theorem rcompare_spec (a b : Val) (w : World) : RetsP Try.prog 68 #[.agg (encVal a).toArray, .agg (encVal b).toArray] w (.int .i64 (cmpV a b)) := by
  obtain ⟨ka, na, ta⟩ := a
  obtain ⟨kb, nb, tb⟩ := b
  refine enter (args := [_, _]) Try.func68 rfl Try.ntmps68 (by kernel_rfl) rfl ?_
  refine V.seq (V.region (VL.box (v := .agg _) rfl fun b0_0 w0_0 hb0_0 e0_0 hB0_0 => VL.box (v := .agg _) rfl fun b0_1 w0_1 hb0_1 e0_1 hB0_1 => VL.op (R.asI rfl) (VL.nil (V.seq (V.seq (V.region (VL.op (R.fld' (o := 0) Try.runUnderlying55 rfl rfl Try.sizeOf3 rfl rfl) (VL.op (R.ld1 Try.isAgg3 rfl (((hB0_0.ext e0_1).cell _))) (VL.op (R.fld' (o := 0) Try.runUnderlying55 rfl rfl Try.sizeOf3 rfl rfl) (VL.op (R.ld1 Try.isAgg3 rfl ((hB0_1.cell _))) (VL.op (R.neq rfl rfl) (VL.nil (V.condP rfl (fun c9 => V.seq (V.region (VL.op (R.fld' (o := 0) Try.runUnderlying55 rfl rfl Try.sizeOf3 rfl rfl) (VL.op (R.ld1 Try.isAgg3 rfl (((hB0_0.ext e0_1).cell _))) (VL.op (R.fld' (o := 0) Try.runUnderlying55 rfl rfl Try.sizeOf3 rfl rfl) (VL.op (R.ld1 Try.isAgg3 rfl ((hB0_1.cell _))) (VL.callP Try.call82 rfl (sign_spec _ _ _) fun w2_4 e2_4 => VL.op (R.asI rfl) (VL.nil (V.ret (fret1 (v := .int _ _) rfl rfl rfl (⟨?_, ((e0_0.trans e0_1).trans e2_4)⟩))))))))))) (fun c9 => V.skip (V.seq (V.seq (V.region (VL.op (R.fld' (o := 1) Try.runUnderlying55 rfl rfl Try.sizeOf3 rfl rfl) (VL.op (R.ld1 Try.isAgg3 rfl (((hB0_0.ext e0_1).cell _))) (VL.op (R.fld' (o := 1) Try.runUnderlying55 rfl rfl Try.sizeOf3 rfl rfl) (VL.op (R.ld1 Try.isAgg3 rfl ((hB0_1.cell _))) (VL.op (R.neq rfl rfl) (VL.nil (V.condP rfl (fun c19 => V.seq (V.region (VL.op (R.fld' (o := 1) Try.runUnderlying55 rfl rfl Try.sizeOf3 rfl rfl) (VL.op (R.ld1 Try.isAgg3 rfl (((hB0_0.ext e0_1).cell _))) (VL.op (R.fld' (o := 1) Try.runUnderlying55 rfl rfl Try.sizeOf3 rfl rfl) (VL.op (R.ld1 Try.isAgg3 rfl ((hB0_1.cell _))) (VL.callP Try.call82 rfl (sign_spec _ _ _) fun w4_4 e4_4 => VL.op (R.asI rfl) (VL.nil (V.ret (fret1 (v := .int _ _) rfl rfl rfl (⟨?_, ((e0_0.trans e0_1).trans e4_4)⟩))))))))))) (fun c19 => V.skip (V.seq (V.seq (V.region (VL.op (R.fld' (o := 2) Try.runUnderlying55 rfl rfl Try.sizeOf9 rfl rfl) (VL.op (R.ld1 Try.isAgg9 rfl (((hB0_0.ext e0_1).cell _))) (VL.op (R.fld' (o := 2) Try.runUnderlying55 rfl rfl Try.sizeOf9 rfl rfl) (VL.op (R.ld1 Try.isAgg9 rfl ((hB0_1.cell _))) (VL.op (R.lssG rfl rfl) (VL.nil (V.cond rfl (fun c29 => V.seq (V.region (VL.op (R.asI rfl) (VL.nil (V.ret (fret1 (v := .int _ _) rfl rfl rfl (⟨?_, (e0_0.trans e0_1)⟩))))))) (fun c29 => V.skip (V.seq (V.seq (V.region (VL.op (R.fld' (o := 2) Try.runUnderlying55 rfl rfl Try.sizeOf9 rfl rfl) (VL.op (R.ld1 Try.isAgg9 rfl (((hB0_0.ext e0_1).cell _))) (VL.op (R.fld' (o := 2) Try.runUnderlying55 rfl rfl Try.sizeOf9 rfl rfl) (VL.op (R.ld1 Try.isAgg9 rfl ((hB0_1.cell _))) (VL.op (R.gtrG rfl rfl) (VL.nil (V.cond rfl (fun c34 => V.seq (V.region (VL.op (R.asI rfl) (VL.nil (V.ret (fret1 (v := .int _ _) rfl rfl rfl (⟨?_, (e0_0.trans e0_1)⟩))))))) (fun c34 => V.skip (V.seq (V.region (VL.op (R.asI rfl) (VL.nil (V.ret (fret1 (v := .int _ _) rfl rfl rfl (⟨?_, (e0_0.trans e0_1)⟩))))))))))))))))))))))))))))))))))))))))))))))))))))))
  all_goals simp_all [cmpV, cmpI_zero, cmpG]

structure Cell where
  val : Val
  seq : Int
  time : Int
  deriving DecidableEq
def encCell (c : Cell) : List Value := encVal c.val ++ [.int .i64 c.seq, .int .i64 c.time]
def counts (c : Cell) : Bool := validV c.val && decide (c.val.kind ≠ 0)

theorem counts_spec (c : Cell) (w : World) : RetsP Try.prog 56 #[.agg (encCell c).toArray] w (.bool (counts c)) := by
  obtain ⟨⟨k, n, t⟩, s, ti⟩ := c
  refine enter (args := [_]) Try.func56 rfl Try.ntmps56 (by kernel_rfl) rfl ?_
  refine V.seq (V.region (VL.box (v := .agg _) rfl fun b0_0 w0_0 hb0_0 e0_0 hB0_0 => VL.op (R.asB rfl) (VL.nil (V.seq (V.region (VL.op (R.fld' (o := 0) Try.runUnderlying57 rfl rfl Try.sizeOf55 rfl rfl) (VL.op (R.ldA Try.isAgg55 Try.sizeOf55 rfl rfl ((hB0_0.rowAt 0 3)) rfl) (VL.callP Try.call38 rfl (rvalid_spec ⟨k, n, t⟩ _) fun w1_2 e1_2 => VL.op (R.mvB rfl) (VL.and rfl rfl (fun g1_3 => VL.op (R.fld' (o := 0) Try.runUnderlying57 rfl rfl Try.sizeOf55 rfl rfl) (VL.gT rfl rfl (VL.op (R.fld' (o := 0) Try.runUnderlying55 rfl rfl Try.sizeOf3 rfl rfl) (VL.gT rfl rfl (VL.op (R.ld1 Try.isAgg3 rfl (((hB0_0.ext e1_2).cell _))) (VL.gT rfl rfl (VL.op (R.neq rfl rfl) (VL.op (R.pickTB rfl rfl) (VL.op (R.asB rfl) (VL.nil (V.ret (fret1 (v := .bool _) rfl rfl rfl (⟨?_, (e0_0.trans e1_2)⟩))))))))))))) (fun g1_3 => VL.gF rfl rfl (VL.gF rfl rfl (VL.gF rfl rfl (VL.op (R.pickFB rfl rfl) (VL.op (R.asB rfl) (VL.nil (V.ret (fret1 (v := .bool _) rfl rfl rfl (⟨?_, (e0_0.trans e1_2)⟩))))))))))))))))))
  all_goals simp_all [counts]

def encV (v : Val) : Value := .agg (encVal v).toArray
theorem key55 : KeyT Try.prog 55 encV where
  td := ⟨_, Try.underlying55, fun a b => .inl rfl⟩
  eq := by
    rintro ⟨k, n, t⟩ ⟨k', n', t'⟩ w
    show (Op.equalIn (9999 + 1) 55 _ _).run Try.prog w = _
    unfold Op.equalIn
    simp [go_sem, encV, encVal, ba_list]
    by_cases h1 : k = k' <;> by_cases h2 : n = n' <;> by_cases h3 : t = t' <;> simp [h1, h2, h3]
  chk := by
    rintro e ⟨k, n, t⟩ w
    have h1 := chkI (P := Try.prog) (T := 3) (n := 9998) (e := e) (k := .i64) (x := k) Try.runUnderlying3
    have h2 := chkI (P := Try.prog) (T := 3) (n := 9998) (e := e) (k := .i64) (x := n) Try.runUnderlying3
    have h3 := chkG (P := Try.prog) (T := 9) (n := 9998) (e := e) (x := t) Try.runUnderlying9
    show (Instr.checkKey e (9999 + 1) 55 _).run Try.prog w = _
    unfold Instr.checkKey
    simp [go_sem, encV, encVal, h1, h2, h3]
  stay := by
    rintro ⟨k, n, t⟩
    show Instr.sameBits (9999 + 1) _ _ = true
    simp [encV, encVal, Instr.sameBits, ba_beq]
end Go.Proofs.Ytckihgamnmmbnaa


/- Functions with loops over cells and numbers. -/
namespace Go.Proofs.Ytckihgamnmmbnaa
open Go.Vc
instance : Inhabited Val := ⟨⟨0, 0, ⟨#[]⟩⟩⟩
instance : Inhabited Cell := ⟨⟨default, 0, 0⟩⟩
abbrev CellSl (w : World) (a : Option Addr) (l : List Cell) : Prop := TSl encCell 5 w a l

theorem all_snoc {α : Type} [Inhabited α] (p : α → Bool) (l : List α) (k : Nat) (hk : k < l.length) : (l.take (k + 1)).all p = ((l.take k).all p && p (l.getD k default)) := by
  rw [List.take_succ_eq_append_getElem hk, List.all_append]
  simp [List.getD, hk]
theorem all_take_false {α : Type} [Inhabited α] (p : α → Bool) (l : List α) (k : Nat) (hk : k < l.length) (h : p (l.getD k default) = false) : l.all p = false := by
  rw [List.all_eq_false]
  exact ⟨l[k], by simp, by simpa [List.getD, hk] using h⟩

def small (c : Cell) : Bool := decide ((c.val.text.size : Int) ≤ 300)
def fewB (l : List Cell) (n : Int) : Bool := l.all small && decide ((l.length : Int) ≤ n)

end Go.Proofs.Ytckihgamnmmbnaa


/- Further functions with loops. -/
namespace Go.Proofs.Ytckihgamnmmbnaa
open Go.Vc

def orL (l : List Int) : Int := (l.find? fun x => decide (x ≠ 0)).getD 0
theorem orL_cons (x : Int) (l : List Int) : orL (x :: l) = if x = 0 then orL l else x := by
  unfold orL; by_cases h : x = 0 <;> simp [h]
theorem orL_at (l : List Int) (k : Nat) (hk : k < l.length) (h0 : ∀ i, i < k → l.getD i 0 = 0) (h1 : l.getD k 0 ≠ 0) : orL l = l.getD k 0 := by
  induction l generalizing k with
  | nil => simp at hk
  | cons x l ih =>
    rw [orL_cons]
    cases k with
    | zero => simp at h1 ⊢; intro h; exact absurd h h1
    | succ k =>
      have := h0 0 (by omega)
      simp at this
      rw [if_pos this]
      exact ih k (by simpa using hk) (fun i hi => by simpa using h0 (i + 1) (by omega)) (by simpa using h1)
theorem orL_none (l : List Int) (h0 : ∀ i, i < l.length → l.getD i 0 = 0) : orL l = 0 := by
  induction l with
  | nil => rfl
  | cons x l ih =>
    have := h0 0 (by simp)
    simp at this
    rw [orL_cons, if_pos this]
    exact ih fun i hi => by simpa using h0 (i + 1) (by simpa using hi)

theorem or_spec (a : Option Addr) (cap : Nat) (l : List Int) (w : World) (hm : l.length ≤ 9223372036854775807) (hS : IntSl w a l) :
    RetsP Try.prog 65 #[.slice a l.length cap] w (.int .i64 (orL l)) := by
  refine enter (args := [_]) Try.func65 rfl Try.ntmps65 (by kernel_rfl) rfl ?_
  refine V.seq (V.region (VL.op (R.asI rfl) (VL.nil (V.seq (V.region (VL.op (R.asI rfl) (VL.nil (V.seq (V.seq (V.region (VL.op (R.mvS rfl) (VL.op (R.lenS Try.runUnderlying34 rfl) (VL.op (R.mvI rfl) (VL.nil (V.block (?_))))))))))))))))
  refine V.loop [3, 6, 7, 8] (fun k : Nat => [.int .i64 0, .slice a l.length cap, .int .i64 l.length, .int .i64 k]) (fun k w' => k ≤ l.length ∧ (∀ i, i < k → l.getD i 0 = 0) ∧ Ext w w') (fun k => l.length - k) 0 rfl ⟨by omega, by intro i hi; omega, Mod.refl _ _⟩ ?_
  rintro ρ k w1 ⟨hk, hi, e⟩
  refine V.seq (V.region (VL.op (R.lss rfl rfl) (VL.nil (V.seq (V.condP rfl (fun c9 => V.skip (V.seq (V.block (V.seq (V.region (VL.op (R.ixS Try.runUnderlying34 Try.sizeOf3 rfl rfl (by omega) (by omega) (hS.some (i := k) (by omega))) (VL.op (R.ld1 Try.isAgg3 rfl ((((hS.ext (e.trans (Mod.refl _ _))).row (i := k) (by omega)).cell (i := 0) rfl))) (VL.op (R.asI rfl) (VL.nil (V.seq (V.region (VL.op (R.mvI rfl) (VL.op (R.mvI rfl) (VL.op (R.neq rfl rfl) (VL.nil (V.condP rfl (fun c14 => V.seq (V.region (VL.op (R.mvI rfl) (VL.op (R.asI rfl) (VL.nil (V.ret (fret1 (v := .int _ _) rfl rfl rfl (⟨?_, e.trans (Mod.refl _ _)⟩)))))))) (fun c14 => V.skip (V.region (VL.op (R.add rfl rfl (by omega) (by omega)) (VL.op (R.mvI rfl) (VL.nil (⟨k + 1, rfl, ⟨by omega, ?_, e.trans (Mod.refl _ _)⟩, by omega⟩)))))))))))))))))))))) (fun c9 => V.exit (V.seq (V.region (VL.op (R.mvI rfl) (VL.op (R.asI rfl) (VL.nil (V.ret (fret1 (v := .int _ _) rfl rfl rfl (⟨?_, e.trans (Mod.refl _ _)⟩))))))))))))))
  · rw [orL_at l k (by omega) hi c14]; rfl
  · intro i hik
    by_cases h : i = k
    · subst h; exact Classical.not_not.1 c14
    · exact hi i (by omega)
  · rw [orL_none l fun i hik => hi i (by omega)]

theorem getD_ext {l m : List Int} (h : l.length = m.length) (hi : ∀ i, i < l.length → l.getD i 0 = m.getD i 0) : l = m := by
  apply List.ext_getElem h
  intro i h1 h2
  have := hi i h1
  simpa [List.getD, h1, h2] using this

def rightB (by_ : Int) (n m : Nat) : Bool := decide (1 ≤ by_) && decide (by_ ≤ 6) && decide (n = m)
theorem right_spec (by_ : Int) (a b : Option Addr) (ca cb n m : Nat) (w : World) :
    RetsP Try.prog 44 #[.int .i64 by_, .slice a n ca, .slice b m cb] w (.bool (rightB by_ n m)) := by
  refine enter (args := [_, _, _]) Try.func44 rfl Try.ntmps44 (by kernel_rfl) rfl ?_
  refine V.seq (V.region (VL.op (R.asB rfl) (VL.nil (V.seq (V.region (VL.op (R.mvI rfl) (VL.op (R.geq rfl rfl) (VL.op (R.mvB rfl) (VL.andP rfl rfl (fun g1_2 => VL.op (R.mvI rfl) (VL.gT rfl rfl (VL.op (R.leq rfl rfl) (VL.op (R.pickTB rfl rfl) (VL.op (R.mvB rfl) (VL.andP rfl rfl (fun g1_6 => VL.op (R.mvS rfl) (VL.gT rfl rfl (VL.op (R.lenS Try.runUnderlying51 rfl) (VL.gT rfl rfl (VL.op (R.mvS rfl) (VL.gT rfl rfl (VL.op (R.lenS Try.runUnderlying34 rfl) (VL.gT rfl rfl (VL.op (R.eql rfl rfl) (VL.op (R.pickTB rfl rfl) (VL.op (R.asB rfl) (VL.nil (V.ret (fret1 (v := .bool _) rfl rfl rfl (⟨?_, (Mod.refl _ _)⟩))))))))))))))) (fun g1_6 => VL.gF rfl rfl (VL.gF rfl rfl (VL.gF rfl rfl (VL.gF rfl rfl (VL.op (R.pickFB rfl rfl) (VL.op (R.asB rfl) (VL.nil (V.ret (fret1 (v := .bool _) rfl rfl rfl (⟨?_, (Mod.refl _ _)⟩)))))))))))))))) (fun g1_2 => VL.gF rfl rfl (VL.op (R.pickFB rfl rfl) (VL.op (R.mvB rfl) (VL.gF rfl rfl (VL.gF rfl rfl (VL.gF rfl rfl (VL.gF rfl rfl (VL.gF rfl rfl (VL.op (R.pickFB rfl rfl) (VL.op (R.asB rfl) (VL.nil (V.ret (fret1 (v := .bool _) rfl rfl rfl (⟨?_, (Mod.refl _ _)⟩)))))))))))))))))))))))
  all_goals first | (simp_all [rightB]; done) | (simp_all [rightB]; omega)

theorem encV_agg (v : Val) : ∃ cs, encV v = .agg cs := ⟨_, rfl⟩

def countV (l : List Cell) (v : Val) : Nat := (l.filter fun c => decide (c.val = v)).length
theorem filter_snoc {α : Type} [Inhabited α] (p : α → Bool) (l : List α) (k : Nat) (hk : k < l.length) : ((l.take (k + 1)).filter p).length = ((l.take k).filter p).length + (if p (l.getD k default) = true then 1 else 0) := by
  rw [List.take_succ_eq_append_getElem hk, List.filter_append, List.length_append]
  simp only [List.getD, List.getElem?_eq_getElem hk, Option.getD_some, List.filter_cons, List.filter_nil]
  split <;> rfl
theorem filter_le {α : Type} (p : α → Bool) (l : List α) (k : Nat) : ((l.take k).filter p).length ≤ k := Nat.le_trans (List.length_filter_le _ _) (List.length_take_le _ _)

def freqV (l : List Cell) (v : Val) : Nat := (l.filter fun c => counts c && decide (c.val = v)).length
theorem frequent_spec (a : Option Addr) (cap : Nat) (l : List Cell) (i : Nat) (w : World) (hm : l.length ≤ 9223372036854775807) (hi : i < l.length) (hS : CellSl w a l) :
    RetsP Try.prog 69 #[.slice a l.length cap, .int .i64 i] w (.int .i64 (freqV l (l.getD i default).val)) := by
  refine enter (args := [_, _]) Try.func69 rfl Try.ntmps69 (by kernel_rfl) rfl ?_
  refine V.seq (V.region (VL.op (R.asI rfl) (VL.nil (V.seq (V.region (VL.op (R.asI rfl) (VL.nil (V.seq (V.seq (V.region (VL.op (R.asI rfl) (VL.nil (V.block (?_))))))))))))))
  refine V.loop [0, 1, 5, 6] (fun k : Nat => [.slice a l.length cap, .int .i64 i, .int .i64 ((l.take k).filter fun c => counts c && decide (c.val = (l.getD i default).val)).length, .int .i64 k]) (fun k w' => k ≤ l.length ∧ Ext w w') (fun k => l.length - k) 0 rfl ⟨by omega, Mod.refl _ _⟩ ?_
  rintro ρ k w1 ⟨hk, e⟩
  have hle := filter_le (fun c => counts c && decide (c.val = (l.getD i default).val)) l k
  have hsn : k < l.length → _ := filter_snoc (fun c : Cell => counts c && decide (c.val = (l.getD i default).val)) l k
  refine V.seq (V.seq (V.region (VL.op (R.mvI rfl) (VL.op (R.mvS rfl) (VL.op (R.lenS Try.runUnderlying51 rfl) (VL.op (R.lss rfl rfl) (VL.nil (V.condP rfl (fun c10 => V.skip (V.seq (V.block (V.seq (V.regionQCut mixed 18 (by kernel_rfl) rfl (fun w' => Ext _ w') (Ext.drawn _) [13, 14, 15, 16, 17, 18, 19, 20, 21, 22, 23, 24, 25, 26, 27, 28, 29, 30] 30 (.bool (counts (l.getD k default) && decide ((l.getD k default).val = (l.getD i default).val))) rfl (VQ.op (fun wq eq => R.mvS rfl) (VQ.op (fun wq eq => R.mvI rfl) (VQ.op (fun wq eq => R.ixS Try.runUnderlying51 Try.sizeOf57 rfl rfl (by omega) (by omega) (hS.some (i := k) (by omega))) (VQ.op (fun wq eq => R.ldA Try.isAgg57 Try.sizeOf57 rfl rfl (((hS.ext (e.trans eq)).row (i := k) (by omega))) rfl) (VQ.callP (fun _ _ h k => Mod.trans h k) Try.call56 rfl (fun wq eq => counts_spec (l.getD k default) _) (VQ.op (fun wq eq => R.mvB rfl) (VQ.and rfl rfl (fun g5_5 => VQ.op (fun wq eq => R.mvS rfl) (VQ.gT rfl rfl (VQ.op (fun wq eq => R.mvI rfl) (VQ.gT rfl rfl (VQ.op (fun wq eq => R.ixS Try.runUnderlying51 Try.sizeOf57 rfl rfl (by omega) (by omega) (hS.some (i := k) (by omega))) (VQ.gT rfl rfl (VQ.op (fun wq eq => R.fld' (o := 0) Try.runUnderlying57 rfl rfl Try.sizeOf55 rfl rfl) (VQ.gT rfl rfl (VQ.op (fun wq eq => R.ldA Try.isAgg55 Try.sizeOf55 rfl rfl ((((hS.ext (e.trans eq)).row (i := k) (by omega)).sub 0 3 rfl)) rfl) (VQ.gT rfl rfl (VQ.op (fun wq eq => R.mvS rfl) (VQ.gT rfl rfl (VQ.op (fun wq eq => R.mvI rfl) (VQ.gT rfl rfl (VQ.op (fun wq eq => R.ixS Try.runUnderlying51 Try.sizeOf57 rfl rfl (by omega) (by omega) (hS.some (i := i) (by omega))) (VQ.gT rfl rfl (VQ.op (fun wq eq => R.fld' (o := 0) Try.runUnderlying57 rfl rfl Try.sizeOf55 rfl rfl) (VQ.gT rfl rfl (VQ.op (fun wq eq => R.ldA Try.isAgg55 Try.sizeOf55 rfl rfl ((((hS.ext (e.trans eq)).row (i := i) (by omega)).sub 0 3 rfl)) rfl) (VQ.gT rfl rfl (VQ.op (fun wq eq => R.eqlK key55 Try.eqGuardType55 encV_agg (l.getD k default).val (l.getD i default).val rfl rfl) (VQ.op (fun wq eq => R.pickTB rfl rfl) (VQ.nil (cutB rfl ?_)))))))))))))))))))))))) (fun g5_5 => VQ.gF rfl rfl (VQ.gF rfl rfl (VQ.gF rfl rfl (VQ.gF rfl rfl (VQ.gF rfl rfl (VQ.gF rfl rfl (VQ.gF rfl rfl (VQ.gF rfl rfl (VQ.gF rfl rfl (VQ.gF rfl rfl (VQ.op (fun wq eq => R.pickFB rfl rfl) (VQ.nil (cutB rfl ?_)))))))))))))))))))) (fun rg5 w5c e5c => V.cond rfl (fun c30 => V.region (VL.op (R.mvI rfl) (VL.op (R.add rfl rfl (by omega) (by omega)) (VL.op (R.asI rfl) (VL.nil (V.region (VL.op (R.mvI rfl) (VL.op (R.add rfl rfl (by omega) (by omega)) (VL.op (R.asI rfl) (VL.nil (⟨k + 1, ?_, ⟨by omega, e.trans e5c⟩, by omega⟩))))))))))) (fun c30 => V.skip (V.region (VL.op (R.mvI rfl) (VL.op (R.add rfl rfl (by omega) (by omega)) (VL.op (R.asI rfl) (VL.nil (⟨k + 1, ?_, ⟨by omega, e.trans e5c⟩, by omega⟩))))))))))))) (fun c10 => V.exit (V.seq (V.region (VL.op (R.mvI rfl) (VL.op (R.asI rfl) (VL.nil (V.ret (fret1 (v := .int _ _) rfl rfl rfl (⟨?_, e.trans (Mod.refl _ _)⟩)))))))))))))))))
  · rw [g5_5]; simp
  · rw [g5_5]; simp
  · have h := hsn (by omega)
    rw [if_pos c30] at h
    rw [h]; rfl
  · have h := hsn (by omega)
    rw [if_neg (by rw [c30]; simp)] at h
    rw [h]; rfl
  · have : k = l.length := by omega
    subst this
    rw [List.take_length]; rfl
end Go.Proofs.Ytckihgamnmmbnaa

