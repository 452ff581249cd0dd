/- Bond: the fixed examples. -/
import Derived.Test.YtlefkkelohhnkaaB20
namespace Go.Proofs.Ytlefkkelohhnkaa
open Go.Vc

def chA : ByteArray := ⟨#[97]⟩
def chB : ByteArray := ⟨#[98]⟩
def keyS (s : Int) (t : ByteArray) : Key := ⟨s, ⟨#[116]⟩, t⟩
def recS (k : Key) : Rec := ⟨k, 0, 0, .slice none 0 0⟩
def smp : List Rec := [recS (keyS 0 chA), recS (keyS 0 chB), recS (keyS 1 chA), recS (keyS 1 chB)]
def dcS (k : Int) (a b : Nat) : Dec := ⟨k, (smp.getD a default).key, (smp.getD b default).key⟩
theorem rec_len (l : List Rec) : ∀ r ∈ l.map encRec, r.length = 6 := by
  intro r hr
  obtain ⟨x, _, rfl⟩ := List.mem_map.1 hr
  rfl
theorem dec_len (l : List Dec) : ∀ r ∈ l.map encDec, r.length = 7 := by
  intro r hr
  obtain ⟨x, _, rfl⟩ := List.mem_map.1 hr
  rfl
theorem pr_len (l : List (Int × Int)) : ∀ r ∈ l.map encPr, r.length = 2 := by
  intro r hr
  obtain ⟨x, _, rfl⟩ := List.mem_map.1 hr
  rfl
theorem recBlk {w : World} {b : Nat} {cs : Array Value} (l : List Rec) (h : Blk w b (.cells cs 66 (0, 0))) (hr : (l.map encRec).flatten = cs.toList) (hm : l.length ≤ maxLen) : RecSl w (some ⟨b, 0, none⟩) l := OwnT.sl (OwnT.of_blk (B := 0) (l := l) h (Nat.zero_le _) hr (rec_len l) hm)
theorem decBlk {w : World} {b : Nat} {cs : Array Value} (l : List Dec) (h : Blk w b (.cells cs 39 (0, 0))) (hr : (l.map encDec).flatten = cs.toList) (hm : l.length ≤ maxLen) : DecSl w (some ⟨b, 0, none⟩) l := OwnT.sl (OwnT.of_blk (B := 0) (l := l) h (Nat.zero_le _) hr (dec_len l) hm)
theorem prBlk {w : World} {b : Nat} {cs : Array Value} (l : List (Int × Int)) (h : Blk w b (.cells cs 48 (0, 0))) (hr : (l.map encPr).flatten = cs.toList) (hm : l.length ≤ maxLen) : PrSl w (some ⟨b, 0, none⟩) l := OwnT.sl (OwnT.of_blk (B := 0) (l := l) h (Nat.zero_le _) hr (pr_len l) hm)
theorem intBlk {w : World} {b : Nat} {cs : Array Value} (l : List Int) (h : Blk w b (.cells cs 3 (0, 0))) (hr : (l.map encI).flatten = cs.toList) (hm : l.length ≤ maxLen) : IntSl w (some ⟨b, 0, none⟩) l := OwnT.sl (OwnT.of_blk (B := 0) (l := l) h (Nat.zero_le _) hr (encI_len l) hm)
theorem key_spec (s : Int) (t : ByteArray) (w : World) : RetsP Try.prog 37 #[.int .i64 s, .string t] w (.agg (encKey (keyS s t)).toArray) := by
  refine enter (args := [_, _]) Try.func37 rfl Try.ntmps37 (by kernel_rfl) rfl ?_
  refine V.seq (V.region (VL.alloc Try.zeroValue37 fun b0_0 w0_0 hb0_0 e0_0 hB0_0 => VL.nil (V.seq (V.region (VL.op (R.mvI rfl) (VL.op (R.mvG rfl) (VL.op (R.build Try.zeroValue37 Try.runUnderlying37 pl37 rfl) (VL.store (v := .agg _) Try.sizeOf37 rfl rfl rfl rfl hB0_0 rfl rfl fun w1_3 m1_3 hs1_3 hB1_3 => VL.nil (V.ret (fretC rfl rfl rfl Try.isAgg37 Try.sizeOf37 rfl (hB1_3.rowAt 0 3) rfl (⟨rfl, (Mod.own e0_0 m1_3 (Nat.le_of_eq (Eq.symm hb0_0)))⟩)))))))))))
theorem sample_spec (w : World) : RetsX Try.prog 24 #[] w (fun x : Option Addr => .slice x 4 4) (fun x w' => RecSl w' x smp) := by
  refine enter (args := []) Try.func24 rfl Try.ntmps24 (by kernel_rfl) rfl ?_
  refine V.seq (V.region (VL.op (R.asS rfl) (VL.nil (V.seq (V.region (VL.callP Try.call37 rfl (key_spec 0 chA _) fun w1_0 e1_0 => VL.op (R.build Try.zeroValue66 Try.runUnderlying66 pl66 rfl) (VL.callP Try.call37 rfl (key_spec 0 chB _) fun w1_2 e1_2 => VL.op (R.build Try.zeroValue66 Try.runUnderlying66 pl66 rfl) (VL.callP Try.call37 rfl (key_spec 1 chA _) fun w1_4 e1_4 => VL.op (R.build Try.zeroValue66 Try.runUnderlying66 pl66 rfl) (VL.callP Try.call37 rfl (key_spec 1 chB _) fun w1_6 e1_6 => VL.op (R.build Try.zeroValue66 Try.runUnderlying66 pl66 rfl) (VL.buildSl Try.runUnderlying22 Try.sizeOf66 Try.zeroValue66 rfl rfl rfl fun b1 w1 hb1 e1 hX1 => VL.op (R.asS rfl) (VL.nil (V.ret (fret1 (v := .slice _ _ _) rfl rfl rfl (⟨some ⟨b1, 0, none⟩, rfl, recBlk smp hX1 rfl (by decide), ((((e1_0.trans e1_2).trans e1_4).trans e1_6).trans e1)⟩))))))))))))))
theorem decide_spec (k : Int) (a b : Nat) (w : World) (ha : a < 4) (hb : b < 4) : RetsP Try.prog 25 #[.int .i64 k, .int .i64 (a : Nat), .int .i64 (b : Nat)] w (.agg (encDec (dcS k a b)).toArray) := by
  have hl : smp.length = 4 := rfl
  refine enter (args := [_, _, _]) Try.func25 rfl Try.ntmps25 (by kernel_rfl) rfl ?_
  refine V.seq (V.region (VL.alloc Try.zeroValue39 fun b0_0 w0_0 hb0_0 e0_0 hB0_0 => VL.nil (V.seq (V.region (VL.callX Try.call24 rfl (sample_spec _) fun x1 w1 hS e1 => VL.op (R.asS rfl) (VL.nil (V.seq (V.regionQ mixed 12 (by kernel_rfl) rfl (fun w' => Ext _ w') (Ext.drawn _) (VQ.op (fun wq eq => R.mvI rfl) (VQ.op (fun wq eq => R.mvS rfl) (VQ.op (fun wq eq => R.mvI rfl) (VQ.op (fun wq eq => R.ixS Try.runUnderlying22 Try.sizeOf66 rfl rfl (by omega) (by omega) (hS.some (i := a) (by omega))) (VQ.op (fun wq eq => R.fld' (o := 0) Try.runUnderlying66 rfl rfl Try.sizeOf37 rfl rfl) (VQ.op (fun wq eq => R.ldA Try.isAgg37 Try.sizeOf37 rfl rfl ((show RowAt _ _ _ (encKey (smp.getD a default).key) from (((hS.ext eq).row (i := a) (by omega)).sub 0 3 rfl))) rfl) (VQ.op (fun wq eq => R.mvS rfl) (VQ.op (fun wq eq => R.mvI rfl) (VQ.op (fun wq eq => R.ixS Try.runUnderlying22 Try.sizeOf66 rfl rfl (by omega) (by omega) (hS.some (i := b) (by omega))) (VQ.op (fun wq eq => R.fld' (o := 0) Try.runUnderlying66 rfl rfl Try.sizeOf37 rfl rfl) (VQ.op (fun wq eq => R.ldA Try.isAgg37 Try.sizeOf37 rfl rfl ((show RowAt _ _ _ (encKey (smp.getD b default).key) from (((hS.ext eq).row (i := b) (by omega)).sub 0 3 rfl))) rfl) (VQ.op (fun wq eq => R.build Try.zeroValue39 Try.runUnderlying39 pl39 rfl) (VQ.nil fun w2q e2q => VL.store (v := .agg _) Try.sizeOf39 rfl rfl rfl rfl ((hB0_0.ext e1).ext e2q) rfl rfl fun w2_12 m2_12 hs2_12 hB2_12 => VL.nil (V.ret (fretC rfl rfl rfl Try.isAgg39 Try.sizeOf39 rfl (hB2_12.rowAt 0 7) rfl (⟨rfl, (Mod.own ((e0_0.trans e1).trans e2q) m2_12 (Nat.le_of_eq (Eq.symm hb0_0)))⟩))))))))))))))))))))))))
end Go.Proofs.Ytlefkkelohhnkaa
