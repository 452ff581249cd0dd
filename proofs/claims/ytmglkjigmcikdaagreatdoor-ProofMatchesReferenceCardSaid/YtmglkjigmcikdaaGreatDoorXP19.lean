/- Proof: a certificate is checked. -/
import Derived.Test.YtmglkjigmcikdaaGreatDoorXP18
namespace Go.Proofs.YtmglkjigmcikdaaGreatDoor
open Go.Vc
set_option maxRecDepth 100000
set_option maxHeartbeats 16000000
structure ClX where
 v : Int
 aa : Option Addr
 ac : Nat
 A : List Int
 ba : Option Addr
 bc : Nat
 B : List Int
 sa : Option Addr
 sc : Nat
 S : List St4
def encCl (y : ClX) : List Value := [.int .i64 y.v, .slice y.aa y.A.length y.ac, .slice y.ba y.B.length y.bc, .slice y.sa y.S.length y.sc]
structure ClOk (w : World) (y : ClX) : Prop where
 a : IntSl w y.aa y.A
 b : IntSl w y.ba y.B
 s : TSl encS4 4 w y.sa y.S
theorem ClOk.ext {w w' : World} {y : ClX} (h : ClOk w y) (e : Ext w w') : ClOk w' y := ⟨h.a.ext e, h.b.ext e, h.s.ext e⟩
structure ClLen (y : ClX) : Prop where
 a : y.A.length ≤ 1000000
 b : y.B.length ≤ 1000000
 s : y.S.length ≤ 1000000
structure WyB (b : Nat) (wa : Option Addr) (wc : Nat) (W : List WyI) (w : World) : Prop where
 b : Blk w b (.cells #[.slice wa W.length wc] 26 (0, 0))
 o : WL w wa W
theorem WyB.ext {b : Nat} {wa : Option Addr} {wc : Nat} {W : List WyI} {w w' : World} (h : WyB b wa wc W w) (e : Ext w w') : WyB b wa wc W w' := ⟨h.b.ext e, h.o.ext e⟩
theorem claim11_spec (b : Nat) (s : SlI) (x : WyI) (w : World) (hs : HlS b s w) (hl : s.l.length ≤ 1000000) (hx : WyOk w x) (hxl : WLen x) :
  RetsP Tryz.prog 41 #[.agg (encWy x).toArray, .pointer (some ⟨b, 0, none⟩)] w (.bool (holdP s.l (wyV x))) := by
 refine enter (args := [_, _]) Tryz.func41 rfl Tryz.ntmps41 (by kernel_rfl) rfl ?_
 refine V.seq (V.region (VL.box (v := .agg _) rfl fun b0_0 w0_0 hb0_0 e0_0 hB0_0 => VL.op (R.asB rfl) (VL.nil (V.seq (V.region (VL.op (R.ldA Tryz.isAgg37 Tryz.sizeOf37 rfl rfl ((show RowAt _ _ _ (encWy x) from (hB0_0.rowAt 0 2))) rfl) (VL.op (R.ld1 Tryz.isAgg22 rfl ((show _ = some (Value.slice s.a s.l.length s.c) from (hs.1.ext e0_0).cell 0))) (VL.callP Tryz.call12 rfl (holds30_spec x s.a s.c s.l _ (hx.ext e0_0) hxl (hs.2.ext e0_0) hl) fun w1_2 e1_2 => VL.op (R.asB rfl) (VL.nil (V.ret (fret1 (v := .bool _) rfl rfl rfl (⟨rfl, (e0_0.trans e1_2)⟩))))))))))))
theorem claim1_spec (b : Nat) (wa : Option Addr) (wc : Nat) (W : List WyI) (a : Option Addr) (c : Nat) (S : List Int) (w : World) (hb : WyB b wa wc W w) (hWl : ∀ y ∈ W, WLen y) (hWm : W.length ≤ 1000000) (hS : IntSl w a S) (hm : S.length ≤ 1000000) :
  RetsP Tryz.prog 39 #[.slice a S.length c, .pointer (some ⟨b, 0, none⟩)] w (.bool ((W.map wyV).any (holdP S))) := by
 refine enter (args := [_, _]) Tryz.func39 rfl Tryz.ntmps39 (by kernel_rfl) rfl ?_
 refine V.seq (V.region (VL.box (v := .slice _ _ _) rfl fun b0_0 w0_0 hb0_0 e0_0 hB0_0 => VL.op (R.asB rfl) (VL.nil (V.seq (V.region (VL.op (R.ld1 Tryz.isAgg26 rfl ((show _ = some (Value.slice wa W.length wc) from (hb.b.ext e0_0).cell 0))) (VL.op (R.mkFn rfl rfl) (VL.callP Tryz.call40 rfl (containsW_spec 41 [] [.pointer (some ⟨b0_0, 0, none⟩)] (fun y => holdP S (wyV y)) (HlS b0_0 ⟨a, c, S⟩) wa wc W _ Tryz.call41 (fun w' y hs hy hk => claim11_spec b0_0 ⟨a, c, S⟩ y w' hs hm hk (hWl y hy)) (fun _ _ h e => h.ext e) ⟨hB0_0, hS.ext e0_0⟩ (hb.o.ext e0_0) hWm) fun w1_2 e1_2 => VL.op (R.asB rfl) (VL.nil (V.ret (fret1 (v := .bool _) rfl rfl rfl (⟨?_, (e0_0.trans e1_2)⟩))))))))))))
 refine congrArg Value.bool (Bool.eq_iff_iff.2 ?_)
 rw [List.any_eq_true, List.any_eq_true]
 exact ⟨fun ⟨x, hx, h⟩ => ⟨_, List.mem_map_of_mem hx, h⟩, fun ⟨x, hx, h⟩ => by obtain ⟨z, hz, rfl⟩ := List.mem_map.1 hx; exact ⟨z, hz, h⟩⟩
structure ClB (g : GrW) (wa : Option Addr) (wc : Nat) (W : List WyI) (w0 : World) (x : CkX) (N : Nat) (y : ClX) (b7 b5 b9 bw : Nat) (w : World) : Prop where
 r : RdG g wa wc W w0 x N w
 c : ClOk w y
 p : Blk w b7 (.cells #[.pointer (some ⟨x.p, 0, none⟩)] 61 (0, 0))
 y : Blk w b5 (.cells (Value.agg (encCl y).toArray).cells 31 (0, 0))
 h : Blk w b9 (.cells #[.func (.func 39) #[] #[.pointer (some ⟨bw, 0, none⟩)]] 56 (0, 0))
 w : WyB bw wa wc W w
theorem ClB.ext {g : GrW} {wa : Option Addr} {wc : Nat} {W : List WyI} {w0 : World} {x : CkX} {N : Nat} {y : ClX} {b7 b5 b9 bw : Nat} {w w' : World} (h : ClB g wa wc W w0 x N y b7 b5 b9 bw w) (e : Ext w w') : ClB g wa wc W w0 x N y b7 b5 b9 bw w' := ⟨h.r.ext e, h.c.ext e, h.p.ext e, h.y.ext e, h.h.ext e, h.w.ext e⟩
theorem ClB.ck {g : GrW} {wa : Option Addr} {wc : Nat} {W : List WyI} {w0 : World} {x : CkX} {N : Nat} {y : ClX} {b7 b5 b9 bw : Nat} {w : World} (h : ClB g wa wc W w0 x N y b7 b5 b9 bw w) : ∃ cs, Blk w x.p (.cells (encGr g ++ cs).toArray 80 (0, 0)) := by
 have := h.r.ok.blk
 unfold encRd at this
 rw [h.r.gq] at this
 exact ⟨_, this⟩
theorem claim2_spec (g : GrW) (wa : Option Addr) (wc : Nat) (W : List WyI) (w0 : World) (x : CkX) (N : Nat) (y : ClX) (b7 b5 b9 bw : Nat) (w : World) (h : ClB g wa wc W w0 x N y b7 b5 b9 bw w) (hl : GLen g) (hv : validG (grV g) = true) (hG : GOk w g) (hWl : ∀ y ∈ W, WLen y) (hWm : W.length ≤ 1000000) (hy : ClLen y) :
  RetsP Tryz.prog 42 #[.pointer (some ⟨b7, 0, none⟩), .pointer (some ⟨b5, 0, none⟩), .pointer (some ⟨b9, 0, none⟩)] w (.bool (withA (grV g) (W.map wyV) y.A)) := by
 obtain ⟨cs, hck⟩ := h.ck
 refine enter (args := [_, _, _]) Tryz.func42 rfl Tryz.ntmps42 (by kernel_rfl) rfl ?_
 refine V.seq (V.region (VL.op (R.asB rfl) (VL.nil (V.seq (V.region (VL.op (R.ld1 Tryz.isAgg61 rfl ((show _ = some (Value.pointer (some ⟨x.p, 0, none⟩)) from h.p.cell 0))) (VL.op (R.fld' (o := 1) Tryz.runUnderlying31 rfl rfl Tryz.sizeOf22 rfl rfl) (VL.op (R.ld1 Tryz.isAgg22 rfl ((show _ = some (Value.slice y.aa y.A.length y.ac) from h.y.cell 1))) (VL.callP Tryz.call43 rfl (repair30_spec x.p cs _ g y.aa y.ac y.A N w hck hG hl hv h.r.n h.c.a hy.a) fun w1_3 e1_3 => VL.op (R.mvB rfl) (VL.and rfl rfl (fun g1_4 => VL.op (R.ld1 Tryz.isAgg56 rfl ((show _ = some (Value.func (.func 39) #[] #[.pointer (some ⟨bw, 0, none⟩)]) from (h.h.ext e1_3).cell 0))) (VL.gT rfl rfl (VL.op (R.fld' (o := 1) Tryz.runUnderlying31 rfl rfl Tryz.sizeOf22 rfl rfl) (VL.gT rfl rfl (VL.op (R.ld1 Tryz.isAgg22 rfl ((show _ = some (Value.slice y.aa y.A.length y.ac) from (h.y.ext e1_3).cell 1))) (VL.gT rfl rfl (VL.callCP rfl (Tryz.call39) rfl (claim1_spec bw wa wc W y.aa y.ac y.A _ (h.w.ext e1_3) hWl hWm (h.c.a.ext e1_3) hy.a) fun w1_8 e1_8 => VL.op (R.pickTB rfl rfl) (VL.op (R.asB rfl) (VL.nil (V.ret (fret1 (v := .bool _) rfl rfl rfl (⟨?_, (e1_3.trans e1_8)⟩)))))))))))) (fun g1_4 => VL.gF rfl rfl (VL.gF rfl rfl (VL.gF rfl rfl (VL.op (R.pickFB rfl rfl) (VL.op (R.asB rfl) (VL.nil (V.ret (fret1 (v := .bool _) rfl rfl rfl (⟨?_, e1_3⟩)))))))))))))))))))
 ·unfold withA; rw [g1_4, Bool.true_and]
 ·unfold withA; rw [g1_4, Bool.false_and]
theorem claim3_spec (g : GrW) (wa : Option Addr) (wc : Nat) (W : List WyI) (w0 : World) (x : CkX) (N : Nat) (y : ClX) (b7 b5 b9 bw : Nat) (w : World) (h : ClB g wa wc W w0 x N y b7 b5 b9 bw w) (hl : GLen g) (hv : validG (grV g) = true) (hG : GOk w g) (hWl : ∀ y ∈ W, WLen y) (hWm : W.length ≤ 1000000) (hy : ClLen y) :
  RetsP Tryz.prog 44 #[.pointer (some ⟨b7, 0, none⟩), .pointer (some ⟨b5, 0, none⟩), .pointer (some ⟨b9, 0, none⟩)] w (.bool (woutA (grV g) (W.map wyV) y.B)) := by
 obtain ⟨cs, hck⟩ := h.ck
 refine enter (args := [_, _, _]) Tryz.func44 rfl Tryz.ntmps44 (by kernel_rfl) rfl ?_
 refine V.seq (V.region (VL.op (R.asB rfl) (VL.nil (V.seq (V.region (VL.op (R.ld1 Tryz.isAgg61 rfl ((show _ = some (Value.pointer (some ⟨x.p, 0, none⟩)) from h.p.cell 0))) (VL.op (R.fld' (o := 2) Tryz.runUnderlying31 rfl rfl Tryz.sizeOf22 rfl rfl) (VL.op (R.ld1 Tryz.isAgg22 rfl ((show _ = some (Value.slice y.ba y.B.length y.bc) from h.y.cell 2))) (VL.callP Tryz.call43 rfl (repair30_spec x.p cs _ g y.ba y.bc y.B N w hck hG hl hv h.r.n h.c.b hy.b) fun w1_3 e1_3 => VL.op (R.mvB rfl) (VL.and rfl rfl (fun g1_4 => VL.op (R.ld1 Tryz.isAgg56 rfl ((show _ = some (Value.func (.func 39) #[] #[.pointer (some ⟨bw, 0, none⟩)]) from (h.h.ext e1_3).cell 0))) (VL.gT rfl rfl (VL.op (R.fld' (o := 2) Tryz.runUnderlying31 rfl rfl Tryz.sizeOf22 rfl rfl) (VL.gT rfl rfl (VL.op (R.ld1 Tryz.isAgg22 rfl ((show _ = some (Value.slice y.ba y.B.length y.bc) from (h.y.ext e1_3).cell 2))) (VL.gT rfl rfl (VL.callCP rfl (Tryz.call39) rfl (claim1_spec bw wa wc W y.ba y.bc y.B _ (h.w.ext e1_3) hWl hWm (h.c.b.ext e1_3) hy.b) fun w1_8 e1_8 => VL.gT rfl rfl (VL.op (R.not rfl) (VL.op (R.pickTB rfl rfl) (VL.op (R.asB rfl) (VL.nil (V.ret (fret1 (v := .bool _) rfl rfl rfl (⟨?_, (e1_3.trans e1_8)⟩)))))))))))))) (fun g1_4 => VL.gF rfl rfl (VL.gF rfl rfl (VL.gF rfl rfl (VL.gF rfl rfl (VL.op (R.pickFB rfl rfl) (VL.op (R.asB rfl) (VL.nil (V.ret (fret1 (v := .bool _) rfl rfl rfl (⟨?_, e1_3⟩))))))))))))))))))))
 ·unfold woutA; rw [g1_4, Bool.true_and]
 ·unfold woutA; rw [g1_4, Bool.false_and]
theorem claimS (g : GrW) (wa : Option Addr) (wc : Nat) (W : List WyI) (y : ClX) (B : Nat) (w : World) (hG : GOk w g) (hl : GLen g) (hW : WL w wa W) (hWl : ∀ y ∈ W, WLen y) (hWm : W.length ≤ 1000000) (hC : ClOk w y) (hy : ClLen y) (hB : B ≤ w.heap.size) (hT : TabW B w) :
  RetsP Tryz.prog 16 #[.agg (encGr g).toArray, .slice wa W.length wc, .agg (encCl y).toArray] w (.bool (claimA (grV g) (W.map wyV) y.v y.A y.B y.S)) := by
 have hya := hy.a
 have hyb := hy.b
 have hys := hy.s
 refine enter (args := [_, _, _]) Tryz.func16 rfl Tryz.ntmps16 (by kernel_rfl) rfl ?_
 cases hr : readyG (grV g) (W.map wyV) with
 | false =>
  refine V.seq (V.region (VL.box (v := .agg _) rfl fun b0_0 w0_0 hb0_0 e0_0 hB0_0 => VL.box (v := .slice _ _ _) rfl fun b0_1 w0_1 hb0_1 e0_1 hB0_1 => VL.box (v := .agg _) rfl fun b0_2 w0_2 hb0_2 e0_2 hB0_2 => VL.op (R.asB rfl) (VL.nil (V.seq (V.region (VL.op (R.ldA Tryz.isAgg25 Tryz.sizeOf25 rfl rfl ((show RowAt _ _ _ (encGr g) from (hB0_0.ext (e0_1.trans e0_2)).rowAt 0 3)) rfl) (VL.op (R.ld1 Tryz.isAgg26 rfl ((show _ = some (Value.slice wa W.length wc) from (hB0_1.ext e0_2).cell 0))) (VL.callP Tryz.call35 rfl (ready_no g wa wc W B w0_2 (hG.ext ((e0_0.trans e0_1).trans e0_2)) hl (hW.ext ((e0_0.trans e0_1).trans e0_2)) hWl (by omega) (Nat.le_trans hB (Vc.Mod.size ((e0_0.trans e0_1).trans e0_2))) (hT.ext hB ((e0_0.trans e0_1).trans e0_2)) hr) fun w1_2 e1_2 => VL.op (R.mvT rfl) (VL.op (R.extr rfl rfl) (VL.op (R.extr rfl rfl) (VL.allocSt (v := .pointer _) Tryz.zeroValue61 Tryz.sizeOf61 rfl rfl rfl rfl rfl fun b1_6 w1_6 hb1_6 e1_6 hB1_6 => VL.op (R.asB rfl) (VL.nil (V.seq (V.seq (?_)))))))))))))))
  refine V.region (VL.op (R.mvB rfl) (VL.op (R.not rfl) (VL.nil (V.condT rfl (V.seq (V.region (VL.op (R.asB rfl) (VL.nil (V.ret (fret1 (v := .bool _) rfl rfl rfl (⟨?_, (((e0_0.trans e0_1).trans e0_2).trans e1_2).trans e1_6⟩)))))))))))
  refine congrArg Value.bool ?_
  unfold claimA
  rw [hr, Bool.false_and]
 | true =>
  refine V.seq (V.region (VL.box (v := .agg _) rfl fun b0_0 w0_0 hb0_0 e0_0 hB0_0 => VL.box (v := .slice _ _ _) rfl fun b0_1 w0_1 hb0_1 e0_1 hB0_1 => VL.box (v := .agg _) rfl fun b0_2 w0_2 hb0_2 e0_2 hB0_2 => VL.op (R.asB rfl) (VL.nil (V.seq (V.region (VL.op (R.ldA Tryz.isAgg25 Tryz.sizeOf25 rfl rfl ((show RowAt _ _ _ (encGr g) from (hB0_0.ext (e0_1.trans e0_2)).rowAt 0 3)) rfl) (VL.op (R.ld1 Tryz.isAgg26 rfl ((show _ = some (Value.slice wa W.length wc) from (hB0_1.ext e0_2).cell 0))) (VL.callX Tryz.call35 rfl (ready_yes g wa wc W B w0_2 (hG.ext ((e0_0.trans e0_1).trans e0_2)) hl (hW.ext ((e0_0.trans e0_1).trans e0_2)) hWl (by omega) (Nat.le_trans hB (Vc.Mod.size ((e0_0.trans e0_1).trans e0_2))) (hT.ext hB ((e0_0.trans e0_1).trans e0_2)) hr) fun o w2 h2 e2 => VL.op (R.mvT rfl) (VL.op (R.extr rfl rfl) (VL.op (R.extr rfl rfl) (VL.allocSt (v := .pointer _) Tryz.zeroValue61 Tryz.sizeOf61 rfl rfl rfl rfl rfl fun b1_6 w1_6 hb1_6 e1_6 hB1_6 => VL.op (R.asB rfl) (VL.nil (V.seq (V.seq (?_)))))))))))))))
  refine V.region (VL.op (R.mvB rfl) (VL.op (R.not rfl) (VL.nil (V.condF rfl (V.skip (V.seq (V.region (VL.op (R.mkFn rfl rfl) (VL.allocSt (v := .func _ _ _) Tryz.zeroValue56 Tryz.sizeOf56 rfl rfl rfl rfl rfl fun b4_1 w4_1 hb4_1 e4_1 hB4_1 => VL.nil (V.seq (V.region (VL.op (R.mkFn rfl rfl) (VL.op (R.asF rfl) (VL.nil (V.seq (V.region (VL.op (R.mkFn rfl rfl) (VL.op (R.asF rfl) (VL.nil (V.seq (V.seq (?_))))))))))))))))))))))
  have E0 : Ext w w0_2 := (e0_0.trans e0_1).trans e0_2
  have E4 : Ext w2 w4_1 := e1_6.trans e4_1
  have hK : ClB g wa wc W w0_2 o.1 o.2 y b1_6 b0_2 b4_1 b0_1 w4_1 := ⟨h2.ext E4, hC.ext (E0.trans (e2.trans E4)), hB1_6.ext e4_1, hB0_2.ext (e2.trans E4), hB4_1, ⟨hB0_1.ext (e0_2.trans (e2.trans E4)), hW.ext (E0.trans (e2.trans E4))⟩⟩
  clear hB4_1
  have hv := ready_valid hr
  have hG4 := hG.ext (E0.trans (e2.trans E4))
  have EK : Ext w w4_1 := E0.trans (e2.trans E4)
  have hcl : claimA (grV g) (W.map wyV) y.v y.A y.B y.S = (if y.v = 0 then decide (y.A.length + y.B.length + y.S.length = 0)
   else if y.v = 1 then decide (y.B.length = 0) && (withA (grV g) (W.map wyV) y.A && checkA (grV g) (W.map wyV) false y.S)
   else if y.v = 3 then decide (y.A.length = 0) && (woutA (grV g) (W.map wyV) y.B && checkA (grV g) (W.map wyV) true y.S)
   else if y.v = 2 then decide (y.S.length = 0) && (withA (grV g) (W.map wyV) y.A && woutA (grV g) (W.map wyV) y.B)
   else false) := by unfold claimA; rw [hr, Bool.true_and]
  rw [hcl]
  have hcA : ∀ {w'}, Ext w4_1 w' → w'.cell? ⟨b0_2, 1, none⟩ = some (Value.slice y.aa y.A.length y.ac) := fun e => (hK.y.ext e).cell 1
  have hcB : ∀ {w'}, Ext w4_1 w' → w'.cell? ⟨b0_2, 2, none⟩ = some (Value.slice y.ba y.B.length y.bc) := fun e => (hK.y.ext e).cell 2
  have hcS : ∀ {w'}, Ext w4_1 w' → w'.cell? ⟨b0_2, 3, none⟩ = some (Value.slice y.sa y.S.length y.sc) := fun e => (hK.y.ext e).cell 3
  have hcSr : ∀ {w'}, Ext w4_1 w' → RowAt w' b0_2 3 [Value.slice y.sa y.S.length y.sc] := fun e => (hK.y.ext e).rowAt 3 1
  have hcP : ∀ {w'}, Ext w4_1 w' → w'.cell? ⟨b1_6, 0, none⟩ = some (Value.pointer (some ⟨o.1.p, 0, none⟩)) := fun e => (hK.p.ext e).cell 0
  have hwith : ∀ {w'}, Ext w4_1 w' → RetsP Tryz.prog 42 #[.pointer (some ⟨b1_6, 0, none⟩), .pointer (some ⟨b0_2, 0, none⟩), .pointer (some ⟨b4_1, 0, none⟩)] w' (.bool (withA (grV g) (W.map wyV) y.A)) := fun e => claim2_spec g wa wc W w0_2 o.1 o.2 y b1_6 b0_2 b4_1 b0_1 _ (hK.ext e) hl hv (hG4.ext e) hWl hWm hy
  have hwout : ∀ {w'}, Ext w4_1 w' → RetsP Tryz.prog 44 #[.pointer (some ⟨b1_6, 0, none⟩), .pointer (some ⟨b0_2, 0, none⟩), .pointer (some ⟨b4_1, 0, none⟩)] w' (.bool (woutA (grV g) (W.map wyV) y.B)) := fun e => claim3_spec g wa wc W w0_2 o.1 o.2 y b1_6 b0_2 b4_1 b0_1 _ (hK.ext e) hl hv (hG4.ext e) hWl hWm hy
  have hshow : ∀ {w'} (h : Bool), Ext w4_1 w' → RetsK Tryz.prog 36 #[.pointer (some ⟨o.1.p, 0, none⟩), .agg #[.slice y.sa y.S.length y.sc], .bool h] w' (.bool (checkA (grV g) (W.map wyV) h y.S)) (Ext w0_2) := fun h e => showsG g wa wc W w0_2 o.1 o.2 y.sa y.sc y.S h _ (hK.ext e).r hr hl hWl (hC.ext E0).s (by omega)
  refine V.region (VL.op (R.fld' (o := 0) Tryz.runUnderlying31 rfl rfl Tryz.sizeOf3 rfl rfl) (VL.op (R.ld1 Tryz.isAgg3 rfl ((show _ = some (Value.int .i64 y.v) from hK.y.cell 0))) (VL.nil (V.block (V.seq (V.region (VL.op (R.eql rfl rfl) (VL.op (R.asB rfl) (VL.nil (V.condP rfl (fun c25 => V.seq (V.region (VL.op (R.fld' (o := 1) Tryz.runUnderlying31 rfl rfl Tryz.sizeOf22 rfl rfl) (VL.op (R.ld1 Tryz.isAgg22 rfl ((hcA (Vc.Mod.refl _ _)))) (VL.op (R.lenS Tryz.runUnderlying22 rfl) (VL.op (R.fld' (o := 2) Tryz.runUnderlying31 rfl rfl Tryz.sizeOf22 rfl rfl) (VL.op (R.ld1 Tryz.isAgg22 rfl ((hcB (Vc.Mod.refl _ _)))) (VL.op (R.lenS Tryz.runUnderlying22 rfl) (VL.op (R.add rfl rfl (by omega) (by omega)) (VL.op (R.fld' (o := 3) Tryz.runUnderlying31 rfl rfl Tryz.sizeOf29 rfl rfl) (VL.op (R.fld' (o := 0) Tryz.runUnderlying29 rfl rfl Tryz.sizeOf27 rfl rfl) (VL.op (R.ld1 Tryz.isAgg27 rfl ((hcS (Vc.Mod.refl _ _)))) (VL.op (R.lenS Tryz.runUnderlying27 rfl) (VL.op (R.add rfl rfl (by omega) (by omega)) (VL.op (R.eql rfl rfl) (VL.op (R.asB rfl) (VL.nil (V.ret (fret1 (v := .bool _) rfl rfl rfl (?_)))))))))))))))))))) (fun c25 => V.seq (V.region (VL.op (R.eql rfl rfl) (VL.op (R.asB rfl) (VL.nil (V.condP rfl (fun c40 => V.seq (V.region (VL.op (R.fld' (o := 2) Tryz.runUnderlying31 rfl rfl Tryz.sizeOf22 rfl rfl) (VL.op (R.ld1 Tryz.isAgg22 rfl ((hcB (Vc.Mod.refl _ _)))) (VL.op (R.lenS Tryz.runUnderlying22 rfl) (VL.op (R.eql rfl rfl) (VL.op (R.mvB rfl) (VL.andP rfl rfl (fun g11_4 => VL.op (R.mvF rfl) (VL.gT rfl rfl (VL.callCP rfl (Tryz.call42) rfl ((hwith (Vc.Mod.refl _ _))) fun w11_6 e11_6 => VL.op (R.pickTB rfl rfl) (VL.op (R.mvB rfl) (VL.and rfl rfl (fun g11_8 => VL.op (R.ld1 Tryz.isAgg61 rfl ((hcP e11_6))) (VL.gT rfl rfl (VL.op (R.fld' (o := 3) Tryz.runUnderlying31 rfl rfl Tryz.sizeOf29 rfl rfl) (VL.gT rfl rfl (VL.op (R.ldA Tryz.isAgg29 Tryz.sizeOf29 rfl rfl ((hcSr e11_6)) rfl) (VL.gT rfl rfl (VL.callK Tryz.call36 rfl (hshow false e11_6) fun w11 h11 => VL.op (R.pickTB rfl rfl) (VL.op (R.asB rfl) (VL.nil (V.ret (fret1 (v := .bool _) rfl rfl rfl (?_)))))))))))) (fun g11_8 => VL.gF rfl rfl (VL.gF rfl rfl (VL.gF rfl rfl (VL.op (R.pickFB rfl rfl) (VL.op (R.asB rfl) (VL.nil (V.ret (fret1 (v := .bool _) rfl rfl rfl (?_)))))))))))))) (fun g11_4 => VL.gF rfl rfl (VL.op (R.pickFB rfl rfl) (VL.op (R.mvB rfl) (VL.gF rfl rfl (VL.gF rfl rfl (VL.gF rfl rfl (VL.gF rfl rfl (VL.op (R.pickFB rfl rfl) (VL.op (R.asB rfl) (VL.nil (V.ret (fret1 (v := .bool _) rfl rfl rfl (?_))))))))))))))))))))) (fun c40 => V.seq (V.region (VL.op (R.eql rfl rfl) (VL.op (R.asB rfl) (VL.nil (V.condP rfl (fun c56 => V.seq (V.region (VL.op (R.fld' (o := 1) Tryz.runUnderlying31 rfl rfl Tryz.sizeOf22 rfl rfl) (VL.op (R.ld1 Tryz.isAgg22 rfl ((hcA (Vc.Mod.refl _ _)))) (VL.op (R.lenS Tryz.runUnderlying22 rfl) (VL.op (R.eql rfl rfl) (VL.op (R.mvB rfl) (VL.andP rfl rfl (fun g13_4 => VL.op (R.mvF rfl) (VL.gT rfl rfl (VL.callCP rfl (Tryz.call44) rfl ((hwout (Vc.Mod.refl _ _))) fun w13_6 e13_6 => VL.op (R.pickTB rfl rfl) (VL.op (R.mvB rfl) (VL.and rfl rfl (fun g13_8 => VL.op (R.ld1 Tryz.isAgg61 rfl ((hcP e13_6))) (VL.gT rfl rfl (VL.op (R.fld' (o := 3) Tryz.runUnderlying31 rfl rfl Tryz.sizeOf29 rfl rfl) (VL.gT rfl rfl (VL.op (R.ldA Tryz.isAgg29 Tryz.sizeOf29 rfl rfl ((hcSr e13_6)) rfl) (VL.gT rfl rfl (VL.callK Tryz.call36 rfl (hshow true e13_6) fun w13 h13 => VL.op (R.pickTB rfl rfl) (VL.op (R.asB rfl) (VL.nil (V.ret (fret1 (v := .bool _) rfl rfl rfl (?_)))))))))))) (fun g13_8 => VL.gF rfl rfl (VL.gF rfl rfl (VL.gF rfl rfl (VL.op (R.pickFB rfl rfl) (VL.op (R.asB rfl) (VL.nil (V.ret (fret1 (v := .bool _) rfl rfl rfl (?_)))))))))))))) (fun g13_4 => VL.gF rfl rfl (VL.op (R.pickFB rfl rfl) (VL.op (R.mvB rfl) (VL.gF rfl rfl (VL.gF rfl rfl (VL.gF rfl rfl (VL.gF rfl rfl (VL.op (R.pickFB rfl rfl) (VL.op (R.asB rfl) (VL.nil (V.ret (fret1 (v := .bool _) rfl rfl rfl (?_))))))))))))))))))))) (fun c56 => V.seq (V.region (VL.op (R.eql rfl rfl) (VL.op (R.asB rfl) (VL.nil (V.condP rfl (fun c72 => V.seq (V.region (VL.op (R.fld' (o := 3) Tryz.runUnderlying31 rfl rfl Tryz.sizeOf29 rfl rfl) (VL.op (R.fld' (o := 0) Tryz.runUnderlying29 rfl rfl Tryz.sizeOf27 rfl rfl) (VL.op (R.ld1 Tryz.isAgg27 rfl ((hcS (Vc.Mod.refl _ _)))) (VL.op (R.lenS Tryz.runUnderlying27 rfl) (VL.op (R.eql rfl rfl) (VL.op (R.mvB rfl) (VL.andP rfl rfl (fun g15_5 => VL.op (R.mvF rfl) (VL.gT rfl rfl (VL.callCP rfl (Tryz.call42) rfl ((hwith (Vc.Mod.refl _ _))) fun w15_7 e15_7 => VL.op (R.pickTB rfl rfl) (VL.op (R.mvB rfl) (VL.and rfl rfl (fun g15_9 => VL.op (R.mvF rfl) (VL.gT rfl rfl (VL.callCP rfl (Tryz.call44) rfl ((hwout e15_7)) fun w15_11 e15_11 => VL.op (R.pickTB rfl rfl) (VL.op (R.asB rfl) (VL.nil (V.ret (fret1 (v := .bool _) rfl rfl rfl (?_)))))))) (fun g15_9 => VL.gF rfl rfl (VL.op (R.pickFB rfl rfl) (VL.op (R.asB rfl) (VL.nil (V.ret (fret1 (v := .bool _) rfl rfl rfl (?_)))))))))))) (fun g15_5 => VL.gF rfl rfl (VL.op (R.pickFB rfl rfl) (VL.op (R.mvB rfl) (VL.gF rfl rfl (VL.gF rfl rfl (VL.op (R.pickFB rfl rfl) (VL.op (R.asB rfl) (VL.nil (V.ret (fret1 (v := .bool _) rfl rfl rfl (?_)))))))))))))))))))) (fun c72 => V.skip (V.seq (V.region (VL.op (R.asB rfl) (VL.nil (V.ret (fret1 (v := .bool _) rfl rfl rfl (?_))))))))))))))))))))))))))))))))))))
  ·refine ⟨congrArg Value.bool ?_, EK⟩
   rw [if_pos (by omega)]
   exact decide_eq_decide.2 (by omega)
  ·refine ⟨congrArg Value.bool ?_, E0.trans h11⟩
   rw [if_neg (by omega), if_pos (by omega), decide_eq_true (by omega), g11_8]; rfl
  ·refine ⟨congrArg Value.bool ?_, EK.trans e11_6⟩
   rw [if_neg (by omega), if_pos (by omega), g11_8, Bool.false_and, Bool.and_false]
  ·refine ⟨congrArg Value.bool ?_, EK⟩
   rw [if_neg (by omega), if_pos (by omega), decide_eq_false (by omega), Bool.false_and]
  ·refine ⟨congrArg Value.bool ?_, E0.trans h13⟩
   rw [if_neg (by omega), if_neg (by omega), if_pos (by omega), decide_eq_true (by omega), g13_8]; rfl
  ·refine ⟨congrArg Value.bool ?_, EK.trans e13_6⟩
   rw [if_neg (by omega), if_neg (by omega), if_pos (by omega), g13_8, Bool.false_and, Bool.and_false]
  ·refine ⟨congrArg Value.bool ?_, EK⟩
   rw [if_neg (by omega), if_neg (by omega), if_pos (by omega), decide_eq_false (by omega), Bool.false_and]
  ·refine ⟨congrArg Value.bool ?_, EK.trans (e15_7.trans e15_11)⟩
   rw [if_neg (by omega), if_neg (by omega), if_neg (by omega), if_pos (by omega), decide_eq_true (by omega), g15_9]; rfl
  ·refine ⟨congrArg Value.bool ?_, EK.trans e15_7⟩
   rw [if_neg (by omega), if_neg (by omega), if_neg (by omega), if_pos (by omega), g15_9, Bool.false_and, Bool.and_false]
  ·refine ⟨congrArg Value.bool ?_, EK⟩
   rw [if_neg (by omega), if_neg (by omega), if_neg (by omega), if_pos (by omega), decide_eq_false (by omega), Bool.false_and]
  ·refine ⟨congrArg Value.bool ?_, EK⟩
   rw [if_neg (by omega), if_neg (by omega), if_neg (by omega), if_neg (by omega)]
end Go.Proofs.YtmglkjigmcikdaaGreatDoor
