/- Proof: the walk of law ProofClaims. -/
import Derived.Test.YtmglkjigmcikdaaGreatDoorXJP
namespace Go.Proofs.YtmglkjigmcikdaaGreatDoor
open Go.Vc
set_option maxRecDepth 100000
set_option maxHeartbeats 16000000
structure ClSz (y : ClX) : Prop where
 a : y.A.length ≤ 1152921504606846976
 b : y.B.length ≤ 1152921504606846976
def anK (F : List Int → Bool) (z : List SlI) (k : Nat) : Bool := ((vals z).take k).any F
def alK (F : List Int → Bool) (z : List SlI) (k : Nat) : Bool := ((vals z).take k).all F
theorem vals_take_succ {z : List SlI} {k : Nat} (h : k < z.length) : (vals z).take (k + 1) = (vals z).take k ++ [(z.getD k default).l] := by
 unfold vals
 rw [← List.map_take, ← List.map_take, List.take_succ_eq_append_getElem h, gget h, List.map_append]; rfl
theorem anK_succ {F : List Int → Bool} {z : List SlI} {k : Nat} (h : k < z.length) : anK F z (k + 1) = (anK F z k || F (z.getD k default).l) := by
 unfold anK
 rw [vals_take_succ h, List.any_append, List.any_cons, List.any_nil, Bool.or_false]
theorem alK_succ {F : List Int → Bool} {z : List SlI} {k : Nat} (h : k < z.length) : alK F z (k + 1) = (alK F z k && F (z.getD k default).l) := by
 unfold alK
 rw [vals_take_succ h, List.all_append, List.all_cons, List.all_nil, Bool.and_true]
theorem anK_all (F : List Int → Bool) (z : List SlI) : anK F z z.length = (vals z).any F := by
 unfold anK; rw [List.take_of_length_le (by rw [show (vals z).length = z.length from List.length_map _]; exact Nat.le_refl _)]
theorem alK_all (F : List Int → Bool) (z : List SlI) : alK F z z.length = (vals z).all F := by
 unfold alK; rw [List.take_of_length_le (by rw [show (vals z).length = z.length from List.length_map _]; exact Nat.le_refl _)]
theorem any_congr30 {F G : List Int → Bool} {L : List (List Int)} (h : ∀ R ∈ L, F R = G R) : L.any F = L.any G := by
 induction L with
 | nil => rfl
 | cons x L ih => rw [List.any_cons, List.any_cons, h x (by simp), ih fun R hR => h R (by simp [hR])]
theorem all_congr30 {F G : List Int → Bool} {L : List (List Int)} (h : ∀ R ∈ L, F R = G R) : L.all F = L.all G := by
 induction L with
 | nil => rfl
 | cons x L ih => rw [List.all_cons, List.all_cons, h x (by simp), ih fun R hR => h R (by simp [hR])]
theorem claims_law (g : GrW) (wa : Option Addr) (wc : Nat) (W : List WyI) (y y2 : ClX) (B : Nat) (w : World) (hI : GIn w g) (hW : WIn30 w wa W) (hY : ClIn w y) (hY2 : ClIn w y2) (hz : ClSz y) (hz2 : ClSz y2) (hB : B ≤ w.heap.size) (hT : TabW B w) :
  RetsP Tryz.prog 6 #[.agg (encGr g).toArray, .slice wa W.length wc, .agg (encCl y).toArray, .agg (encCl y2).toArray] w (.bool true) := by
 have hza := hz.a
 have hzb := hz.b
 have hza2 := hz2.a
 have hzb2 := hz2.b
 refine enter (args := [_, _, _, _]) Tryz.func6 rfl Tryz.ntmps6 (by kernel_rfl) rfl ?_
 refine V.seq (V.region (VL.box (v := .agg _) rfl fun b0_0 w0_0 hb0_0 e0_0 hB0_0 => VL.box (v := .agg _) rfl fun b0_1 w0_1 hb0_1 e0_1 hB0_1 => VL.box (v := .agg _) rfl fun b0_2 w0_2 hb0_2 e0_2 hB0_2 => VL.op (R.asB rfl) (VL.nil (V.seq (V.region (VL.callP Tryz.call9 rfl (head_spec30 B _ (Nat.le_trans hB (Vc.Mod.size ((e0_0.trans e0_1).trans e0_2))) (hT.ext hB ((e0_0.trans e0_1).trans e0_2))) fun w1_0 e1_0 => VL.op (R.asB rfl) (VL.nil (V.seq (V.seq (?_))))))))))
 have E1 : Ext w w1_0 := ((e0_0.trans e0_1).trans e0_2).trans e1_0
 have hX0 := ((hB0_0.ext e0_1).ext e0_2).ext e1_0
 have hX1 := (hB0_1.ext e0_2).ext e1_0
 have hX2 := hB0_2.ext e1_0
 have hcG : ∀ {w'}, Ext w1_0 w' → RowAt w' b0_0 0 (encGr g) := fun e => (hX0.ext e).rowAt 0 3
 have hcn : ∀ {w'}, Ext w1_0 w' → w'.cell? ⟨b0_0, 0, none⟩ = some (Value.int .i64 g.n) := fun e => (hX0.ext e).cell 0
 have hs1 : ∀ {w'}, Ext w1_0 w' → RowAt w' b0_1 3 [Value.slice y.sa y.S.length y.sc] := fun e => (hX1.ext e).rowAt 3 1
 have hs2 : ∀ {w'}, Ext w1_0 w' → RowAt w' b0_2 3 [Value.slice y2.sa y2.S.length y2.sc] := fun e => (hX2.ext e).rowAt 3 1
 have ha1 : ∀ {w'}, Ext w1_0 w' → w'.cell? ⟨b0_1, 1, none⟩ = some (Value.slice y.aa y.A.length y.ac) := fun e => (hX1.ext e).cell 1
 have hb1 : ∀ {w'}, Ext w1_0 w' → w'.cell? ⟨b0_1, 2, none⟩ = some (Value.slice y.ba y.B.length y.bc) := fun e => (hX1.ext e).cell 2
 have ha2 : ∀ {w'}, Ext w1_0 w' → w'.cell? ⟨b0_2, 1, none⟩ = some (Value.slice y2.aa y2.A.length y2.ac) := fun e => (hX2.ext e).cell 1
 have hb2 : ∀ {w'}, Ext w1_0 w' → w'.cell? ⟨b0_2, 2, none⟩ = some (Value.slice y2.ba y2.B.length y2.bc) := fun e => (hX2.ext e).cell 2
 have hv1 : ∀ {w'}, Ext w1_0 w' → w'.cell? ⟨b0_1, 0, none⟩ = some (Value.int .i64 y.v) := fun e => (hX1.ext e).cell 0
 have hv2 : ∀ {w'}, Ext w1_0 w' → w'.cell? ⟨b0_2, 0, none⟩ = some (Value.int .i64 y2.v) := fun e => (hX2.ext e).cell 0
 have hfw : ∀ {w'} (a : Option Addr) (c n : Nat), n ≤ 9223372036854775807 → Ext w1_0 w' → RetsX Tryz.prog 10 #[.agg (encGr g).toArray, .slice wa W.length wc, .agg #[.slice a n c]] w' (fun b : Bool => .bool b) (fun b _ => b = true → FewL g W n) := fun a c n hn e => few30_spec g wa wc W a c n _ (hI.ext (E1.trans e)) (hW.ok.ext (E1.trans e)) hW.m hW.e hn
 refine V.region (VL.op (R.ldA Tryz.isAgg25 Tryz.sizeOf25 rfl rfl ((hcG (Vc.Mod.refl _ _))) rfl) (VL.op (R.mvS rfl) (VL.op (R.fld' (o := 3) Tryz.runUnderlying31 rfl rfl Tryz.sizeOf29 rfl rfl) (VL.op (R.ldA Tryz.isAgg29 Tryz.sizeOf29 rfl rfl ((hs1 (Vc.Mod.refl _ _))) rfl) (VL.callX Tryz.call10 rfl (hfw y.sa y.sc y.S.length hY.2.2.2.1 (Vc.Mod.refl _ _)) fun b2 w2 h2 e2 => VL.op (R.not rfl) (VL.op (R.mvB rfl) (VL.or rfl rfl (fun g2_6 => VL.op (R.ldA Tryz.isAgg25 Tryz.sizeOf25 rfl rfl ((hcG e2)) rfl) (VL.gT rfl rfl (VL.op (R.mvS rfl) (VL.gT rfl rfl (VL.op (R.fld' (o := 3) Tryz.runUnderlying31 rfl rfl Tryz.sizeOf29 rfl rfl) (VL.gT rfl rfl (VL.op (R.ldA Tryz.isAgg29 Tryz.sizeOf29 rfl rfl ((hs2 e2)) rfl) (VL.gT rfl rfl (VL.callX Tryz.call10 rfl (hfw y2.sa y2.sc y2.S.length hY2.2.2.2.1 e2) fun b3 w3 h3 e3 => VL.gT rfl rfl (VL.op (R.not rfl) (VL.op (R.pickFB rfl rfl) (VL.op (R.mvB rfl) (VL.or rfl rfl (fun g2_14 => VL.op (R.fld' (o := 0) Tryz.runUnderlying25 rfl rfl Tryz.sizeOf3 rfl rfl) (VL.gT rfl rfl (VL.op (R.ld1 Tryz.isAgg3 rfl ((hcn (e2.trans e3)))) (VL.gT rfl rfl (VL.op (R.gtr rfl rfl) (VL.op (R.pickFB rfl rfl) (VL.op (R.mvB rfl) (VL.orP rfl rfl (fun g2_19 => VL.op (R.fld' (o := 1) Tryz.runUnderlying31 rfl rfl Tryz.sizeOf22 rfl rfl) (VL.gT rfl rfl (VL.op (R.ld1 Tryz.isAgg22 rfl ((ha1 (e2.trans e3)))) (VL.gT rfl rfl (VL.op (R.lenS Tryz.runUnderlying22 rfl) (VL.gT rfl rfl (VL.op (R.fld' (o := 2) Tryz.runUnderlying31 rfl rfl Tryz.sizeOf22 rfl rfl) (VL.gT rfl rfl (VL.op (R.ld1 Tryz.isAgg22 rfl ((hb1 (e2.trans e3)))) (VL.gT rfl rfl (VL.op (R.lenS Tryz.runUnderlying22 rfl) (VL.gT rfl rfl (VL.op (R.add rfl rfl (by omega) (by omega)) (VL.gT rfl rfl (VL.op (R.fld' (o := 1) Tryz.runUnderlying31 rfl rfl Tryz.sizeOf22 rfl rfl) (VL.gT rfl rfl (VL.op (R.ld1 Tryz.isAgg22 rfl ((ha2 (e2.trans e3)))) (VL.gT rfl rfl (VL.op (R.lenS Tryz.runUnderlying22 rfl) (VL.gT rfl rfl (VL.op (R.add rfl rfl (by omega) (by omega)) (VL.gT rfl rfl (VL.op (R.fld' (o := 2) Tryz.runUnderlying31 rfl rfl Tryz.sizeOf22 rfl rfl) (VL.gT rfl rfl (VL.op (R.ld1 Tryz.isAgg22 rfl ((hb2 (e2.trans e3)))) (VL.gT rfl rfl (VL.op (R.lenS Tryz.runUnderlying22 rfl) (VL.gT rfl rfl (VL.op (R.add rfl rfl (by omega) (by omega)) (VL.gT rfl rfl (VL.op (R.gtr rfl rfl) (VL.op (R.pickFB rfl rfl) (VL.nil (V.condP rfl (fun c54 => V.seq (V.region (VL.op (R.mvB rfl) (VL.op (R.asB rfl) (VL.nil (V.ret (fret1 (v := .bool _) rfl rfl rfl (⟨rfl, E1.trans (e2.trans e3)⟩)))))))) (fun c54 => V.skip (V.seq (?_))))))))))))))))))))))))))))))))))))) (fun g2_19 => VL.gF rfl rfl (VL.gF rfl rfl (VL.gF rfl rfl (VL.gF rfl rfl (VL.gF rfl rfl (VL.gF rfl rfl (VL.gF rfl rfl (VL.gF rfl rfl (VL.gF rfl rfl (VL.gF rfl rfl (VL.gF rfl rfl (VL.gF rfl rfl (VL.gF rfl rfl (VL.gF rfl rfl (VL.gF rfl rfl (VL.op (R.pickTB rfl rfl) (VL.nil (V.condT rfl (V.seq (V.region (VL.op (R.mvB rfl) (VL.op (R.asB rfl) (VL.nil (V.ret (fret1 (v := .bool _) rfl rfl rfl (⟨rfl, E1.trans (e2.trans e3)⟩)))))))))))))))))))))))))))))))))) (fun g2_14 => VL.gF rfl rfl (VL.gF rfl rfl (VL.op (R.pickTB rfl rfl) (VL.op (R.mvB rfl) (VL.gF rfl rfl (VL.gF rfl rfl (VL.gF rfl rfl (VL.gF rfl rfl (VL.gF rfl rfl (VL.gF rfl rfl (VL.gF rfl rfl (VL.gF rfl rfl (VL.gF rfl rfl (VL.gF rfl rfl (VL.gF rfl rfl (VL.gF rfl rfl (VL.gF rfl rfl (VL.gF rfl rfl (VL.gF rfl rfl (VL.gF rfl rfl (VL.op (R.pickTB rfl rfl) (VL.nil (V.condT rfl (V.seq (V.region (VL.op (R.mvB rfl) (VL.op (R.asB rfl) (VL.nil (V.ret (fret1 (v := .bool _) rfl rfl rfl (⟨rfl, E1.trans (e2.trans e3)⟩)))))))))))))))))))))))))))))))))))))))))))) (fun g2_6 => VL.gF rfl rfl (VL.gF rfl rfl (VL.gF rfl rfl (VL.gF rfl rfl (VL.gF rfl rfl (VL.op (R.pickTB rfl rfl) (VL.op (R.mvB rfl) (VL.gF rfl rfl (VL.gF rfl rfl (VL.gF rfl rfl (VL.op (R.pickTB rfl rfl) (VL.op (R.mvB rfl) (VL.gF rfl rfl (VL.gF rfl rfl (VL.gF rfl rfl (VL.gF rfl rfl (VL.gF rfl rfl (VL.gF rfl rfl (VL.gF rfl rfl (VL.gF rfl rfl (VL.gF rfl rfl (VL.gF rfl rfl (VL.gF rfl rfl (VL.gF rfl rfl (VL.gF rfl rfl (VL.gF rfl rfl (VL.gF rfl rfl (VL.gF rfl rfl (VL.op (R.pickTB rfl rfl) (VL.nil (V.condT rfl (V.seq (V.region (VL.op (R.mvB rfl) (VL.op (R.asB rfl) (VL.nil (V.ret (fret1 (v := .bool _) rfl rfl rfl (⟨rfl, E1.trans e2⟩))))))))))))))))))))))))))))))))))))))))))))))
 have hf := h2 (by simpa using g2_6)
 have hf2 := h3 (by simpa using g2_14)
 have hgl := hI.glen hf.e
 have hwl := hf.wl
 have hw30 := hf.w.w
 have E3 : Ext w1_0 w3 := e2.trans e3
 have hcl : ∀ {w'} (x : ClX), ClIn w x → x.A.length ≤ 100 → x.B.length ≤ 100 → FewL g W x.S.length → Ext w1_0 w' → RetsP Tryz.prog 16 #[.agg (encGr g).toArray, .slice wa W.length wc, .agg (encCl x).toArray] w' (.bool (claimA (grV g) (W.map wyV) x.v x.A x.B x.S)) := fun x hx k1 k2 k3 e => claimS g wa wc W x B _ (hI.ok.ext (E1.trans e)) hgl (hW.ok.ext (E1.trans e)) hwl (by omega) (hx.1.ext (E1.trans e)) ⟨by omega, by omega, by have := k3.w.s; omega⟩ (Nat.le_trans hB (Vc.Mod.size (E1.trans e))) (hT.ext hB (E1.trans e))
 obtain ⟨c1, hc1⟩ : ∃ b, b = claimA (grV g) (W.map wyV) y.v y.A y.B y.S := ⟨_, rfl⟩
 obtain ⟨c2, hc2⟩ : ∃ b, b = claimA (grV g) (W.map wyV) y2.v y2.A y2.B y2.S := ⟨_, rfl⟩
 have hk1 : ∀ {w'}, Ext w1_0 w' → RetsP Tryz.prog 16 #[.agg (encGr g).toArray, .slice wa W.length wc, .agg (encCl y).toArray] w' (.bool c1) := fun e => by rw [hc1]; exact hcl y hY (by omega) (by omega) hf e
 have hk2 : ∀ {w'}, Ext w1_0 w' → RetsP Tryz.prog 16 #[.agg (encGr g).toArray, .slice wa W.length wc, .agg (encCl y2).toArray] w' (.bool c2) := fun e => by rw [hc2]; exact hcl y2 hY2 (by omega) (by omega) hf2 e
 refine V.regionQ mixed 7 (by kernel_rfl) rfl (fun w' => Ext _ w') (Ext.drawn _) (VQ.op (fun wq eq => R.ldA Tryz.isAgg25 Tryz.sizeOf25 rfl rfl ((hcG (E3.trans eq))) rfl) (VQ.op (fun wq eq => R.mvS rfl) (VQ.op (fun wq eq => R.ldA Tryz.isAgg31 Tryz.sizeOf31 rfl rfl ((show RowAt wq b0_1 0 (encCl y) from (hX1.ext (E3.trans eq)).rowAt 0 4)) rfl) (VQ.callP (fun _ _ h k => Mod.trans h k) Tryz.call16 rfl (fun wq eq => hk1 (E3.trans eq)) (VQ.op (fun wq eq => R.ldA Tryz.isAgg25 Tryz.sizeOf25 rfl rfl ((hcG (E3.trans eq))) rfl) (VQ.op (fun wq eq => R.mvS rfl) (VQ.op (fun wq eq => R.ldA Tryz.isAgg31 Tryz.sizeOf31 rfl rfl ((show RowAt wq b0_2 0 (encCl y2) from (hX2.ext (E3.trans eq)).rowAt 0 4)) rfl) (VQ.nil fun w4q e4q => VL.callP Tryz.call16 rfl (hk2 (E3.trans e4q)) fun w4_7 e4_7 => VL.op (R.asB rfl) (VL.op (R.asB rfl) (VL.nil (V.seq (V.seq (?_)))))))))))))
 have E4 : Ext w1_0 w4_7 := E3.trans (e4q.trans e4_7)
 refine V.regionCut [64, 65, 66, 67, 68, 69, 70, 71, 72, 73, 74, 75, 76, 77, 78, 79, 80, 81, 82, 83, 84] 84 (.bool (false)) (fun w' => Ext _ w') rfl (VL.op (R.mvB rfl) (VL.op (R.mvB rfl) (VL.and rfl rfl (fun g5_1 => VL.op (R.mvB rfl) (VL.op (R.pickTB rfl rfl) (VL.op (R.mvB rfl) (VL.and rfl rfl (fun g5_4 => VL.op (R.fld' (o := 0) Tryz.runUnderlying31 rfl rfl Tryz.sizeOf3 rfl rfl) (VL.gT rfl rfl (VL.op (R.ld1 Tryz.isAgg3 rfl ((hv1 E4))) (VL.gT rfl rfl (VL.op (R.neq rfl rfl) (VL.op (R.pickTB rfl rfl) (VL.op (R.mvB rfl) (VL.andP rfl rfl (fun g5_9 => VL.op (R.fld' (o := 0) Tryz.runUnderlying31 rfl rfl Tryz.sizeOf3 rfl rfl) (VL.gT rfl rfl (VL.op (R.ld1 Tryz.isAgg3 rfl ((hv2 E4))) (VL.gT rfl rfl (VL.op (R.neq rfl rfl) (VL.op (R.pickTB rfl rfl) (VL.op (R.mvB rfl) (VL.andP rfl rfl (fun g5_14 => VL.op (R.fld' (o := 0) Tryz.runUnderlying31 rfl rfl Tryz.sizeOf3 rfl rfl) (VL.gT rfl rfl (VL.op (R.ld1 Tryz.isAgg3 rfl ((hv1 E4))) (VL.gT rfl rfl (VL.op (R.fld' (o := 0) Tryz.runUnderlying31 rfl rfl Tryz.sizeOf3 rfl rfl) (VL.gT rfl rfl (VL.op (R.ld1 Tryz.isAgg3 rfl ((hv2 E4))) (VL.gT rfl rfl (VL.op (R.neq rfl rfl) (VL.op (R.pickTB rfl rfl) (VL.nil ⟨rfl, cutB rfl ?_, Mod.refl _ _⟩))))))))))) (fun g5_14 => VL.gF rfl rfl (VL.gF rfl rfl (VL.gF rfl rfl (VL.gF rfl rfl (VL.op (R.pickFB rfl rfl) (VL.nil ⟨rfl, cutB rfl ?_, Mod.refl _ _⟩)))))))))))))) (fun g5_9 => VL.gF rfl rfl (VL.gF rfl rfl (VL.op (R.pickFB rfl rfl) (VL.op (R.mvB rfl) (VL.gF rfl rfl (VL.gF rfl rfl (VL.gF rfl rfl (VL.gF rfl rfl (VL.gF rfl rfl (VL.op (R.pickFB rfl rfl) (VL.nil ⟨rfl, cutB rfl ?_, Mod.refl _ _⟩))))))))))))))))))) (fun g5_4 => VL.gF rfl rfl (VL.gF rfl rfl (VL.op (R.pickFB rfl rfl) (VL.op (R.mvB rfl) (VL.gF rfl rfl (VL.gF rfl rfl (VL.gF rfl rfl (VL.op (R.pickFB rfl rfl) (VL.op (R.mvB rfl) (VL.gF rfl rfl (VL.gF rfl rfl (VL.gF rfl rfl (VL.gF rfl rfl (VL.gF rfl rfl (VL.op (R.pickFB rfl rfl) (VL.nil ⟨rfl, cutB rfl ?_, Mod.refl _ _⟩)))))))))))))))))))) (fun g5_1 => VL.op (R.pickFB rfl rfl) (VL.op (R.mvB rfl) (VL.gF rfl rfl (VL.gF rfl rfl (VL.gF rfl rfl (VL.op (R.pickFB rfl rfl) (VL.op (R.mvB rfl) (VL.gF rfl rfl (VL.gF rfl rfl (VL.gF rfl rfl (VL.op (R.pickFB rfl rfl) (VL.op (R.mvB rfl) (VL.gF rfl rfl (VL.gF rfl rfl (VL.gF rfl rfl (VL.gF rfl rfl (VL.gF rfl rfl (VL.op (R.pickFB rfl rfl) (VL.nil ⟨rfl, cutB rfl ?_, Mod.refl _ _⟩)))))))))))))))))))))) (fun rg5 w5c e5c => V.cond rfl (fun c84 => V.seq (V.region (VL.op (R.asB rfl) (VL.nil (V.ret (fret1 (v := .bool _) rfl rfl rfl (?_))))))) (fun c84 => V.skip (V.seq (V.seq (?_)))))
 ·exact decide_eq_false fun hne => hne (claim_one (hc1.symm.trans g5_1) (hc2.symm.trans g5_4) g5_9 g5_14)
 ·rfl
 ·rfl
 ·rfl
 ·rfl
 ·cases c84
 refine V.regionCut [85, 86, 87, 88, 89, 90, 91] 91 (.bool (!c1 || decide (y.v = 0))) (fun w' => Ext _ w') rfl (VL.op (R.mvB rfl) (VL.op (R.not rfl) (VL.op (R.mvB rfl) (VL.or rfl rfl (fun g7_2 => VL.op (R.fld' (o := 0) Tryz.runUnderlying31 rfl rfl Tryz.sizeOf3 rfl rfl) (VL.gT rfl rfl (VL.op (R.ld1 Tryz.isAgg3 rfl ((hv1 (E4.trans e5c)))) (VL.gT rfl rfl (VL.op (R.eql rfl rfl) (VL.op (R.pickFB rfl rfl) (VL.nil ⟨rfl, cutB rfl ?_, Mod.refl _ _⟩))))))) (fun g7_2 => VL.gF rfl rfl (VL.gF rfl rfl (VL.op (R.pickTB rfl rfl) (VL.nil ⟨rfl, cutB rfl ?_, Mod.refl _ _⟩)))))))) (fun rg7 w7c e7c => V.cond rfl (fun c91 => V.seq (V.region (VL.op (R.mvB rfl) (VL.op (R.asB rfl) (VL.nil (V.ret (fret1 (v := .bool _) rfl rfl rfl (⟨rfl, E1.trans (E4.trans (e5c.trans e7c))⟩)))))))) (fun c91 => V.skip (V.seq (?_))))
 ·rw [g7_2, Bool.false_or]
 ·rw [g7_2, Bool.true_or]
 have h1t : c1 = true := by cases c1 with | true => rfl | false => cases c91
 have hv0 : y.v ≠ 0 := fun h => by rw [decide_eq_true h, Bool.or_true] at c91; cases c91
 rw [h1t] at hc1
 obtain ⟨hr, _⟩ := claim_right hc1.symm
 have hv := ready_valid hr
 have hcb := costB_iff.1 (validG_iff.1 hv).1
 have hgn : (grV g).n = g.n := rfl
 obtain ⟨N, hN⟩ : ∃ N : Nat, g.n = (N : Int) := ⟨g.n.toNat, by have := hcb.1; omega⟩
 have E7 : Ext w1_0 w7c := E4.trans (e5c.trans e7c)
 refine V.region (VL.op (R.ldA Tryz.isAgg25 Tryz.sizeOf25 rfl rfl ((hcG E7)) rfl) (VL.callX Tryz.call18 rfl (repairs30_spec g N _ (hI.ok.ext (E1.trans E7)) hgl hv hN (by omega)) fun x8 w8 h8 e8 => VL.op (R.asS rfl) (VL.nil (V.seq (?_)))))
 obtain ⟨la, lc, z⟩ := x8
 dsimp only at h8 ⊢
 have hll := h8.ll
 have hzr : ∀ R, R ∈ vals z ↔ IsRep (grV g) R := fun R => by rw [h8.v]; exact reps_iff hv hN R
 have hzl : z.length ≤ 1024 := by
  have h1 := bitsK_len (repA (grV g)) N (2 ^ N)
  have h2 := congrArg List.length h8.v
  have h3 : (vals z).length = z.length := List.length_map _
  have h4 : 2 ^ N ≤ 2 ^ 10 := Nat.pow_le_pow_right (by decide) (by omega)
  omega
 have E8 : Ext w1_0 w8 := E7.trans e8
 obtain ⟨F, hF⟩ : ∃ F : List Int → Bool, F = fun R => (W.map wyV).any (holdP R) := ⟨_, rfl⟩
 have hany : (vals z).any F = (vals z).any (someW (W.map wyV)) := any_congr30 fun R hR => by rw [hF]; exact any_holdP hr (setB_iff.1 ((hzr R).1 hR).set).1
 have hall : (vals z).all F = (vals z).all (someW (W.map wyV)) := all_congr30 fun R hR => by rw [hF]; exact any_holdP hr (setB_iff.1 ((hzr R).1 hR).set).1
 have hfin := claim_all hc1.symm hv0 hzr
 rw [← hany, ← hall] at hfin
 refine V.region (VL.op (R.asB rfl) (VL.op (R.asB rfl) (VL.nil (V.cut [1, 6, 9, 12, 13, 14] (fun _ : Unit => [.slice wa W.length wc, .pointer (some ⟨b0_1, 0, none⟩), .bool true, .slice la z.length lc, .bool ((vals z).any F), .bool ((vals z).all F)]) (fun _ w' => Ext w8 w') (V.seq (V.region (VL.op (R.asI rfl) (VL.nil (V.block (?_)))))) (fun rgB0 xB0 wBB0 hBB0 => V.seq (V.seq (?_)))))))
 ·refine V.loop [1, 6, 9, 12, 13, 14, 15] (fun k : Nat => [.slice wa W.length wc, .pointer (some ⟨b0_1, 0, none⟩), .bool true, .slice la z.length lc, .bool (anK F z k), .bool (alK F z k), .int .i64 (k : Nat)]) (fun k w' => k ≤ z.length ∧ Ext w8 w') (fun k => z.length - k) 0 rfl ⟨Nat.zero_le _, Vc.Mod.refl _ _⟩ ?_
  rintro ρ k w9 ⟨hk, e9⟩
  have hL9 := hll.ext e9
  refine V.seq (V.seq (V.region (VL.op (R.mvI rfl) (VL.op (R.mvS rfl) (VL.op (R.lenS Tryz.runUnderlying23 rfl) (VL.op (R.lss rfl rfl) (VL.nil (V.condP rfl (fun c98 => V.skip (V.seq (V.block (V.seq (?_))))) (fun c98 => V.exit (?_))))))))))
  ·have hkn : k < z.length := by omega
   have hrep : IsRep (grV g) (z.getD k default).l := (hzr _).1 (List.mem_map_of_mem (gmem hkn))
   have hlen : (z.getD k default).l.length ≤ 1000 := by
    have h1 := (setB_iff.1 hrep.set)
    have h2 := set_len h1.1 h1.2 hcb.1
    omega
   have hs1 := anK_succ (F := F) hkn
   have hs2 := alK_succ (F := F) hkn
   have hsm : RetsP Tryz.prog 21 #[.slice wa W.length wc, .slice (z.getD k default).a (z.getD k default).l.length (z.getD k default).c] w9 (.bool (F (z.getD k default).l)) := by
    rw [hF]
    exact rsome30_spec wa wc W (z.getD k default).a (z.getD k default).c (z.getD k default).l w9 (hW.ok.ext (E1.trans (E8.trans e9))) hwl (by omega) (hL9.at hkn) (by omega)
   refine V.region (VL.op (R.mvS rfl) (VL.op (R.mvS rfl) (VL.op (R.mvI rfl) (VL.op (R.ixS Tryz.runUnderlying23 Tryz.sizeOf22 rfl rfl (by omega) (by omega) (hL9.sl.some (i := k) hkn)) (VL.op (R.ld1 Tryz.isAgg22 rfl (((hL9.sl.row (i := k) hkn).cell (i := 0) rfl))) (VL.callP Tryz.call21 rfl (hsm) fun w14_5 e14_5 => VL.op (R.asB rfl) (VL.nil (V.seq (V.region (VL.op (R.mvB rfl) (VL.op (R.mvB rfl) (VL.or rfl rfl (fun g15_1 => VL.op (R.mvB rfl) (VL.op (R.pickFB rfl rfl) (VL.op (R.asB rfl) (VL.nil (V.region (VL.op (R.mvB rfl) (VL.op (R.mvB rfl) (VL.and rfl rfl (fun g16_1 => VL.op (R.mvB rfl) (VL.op (R.pickTB rfl rfl) (VL.op (R.asB rfl) (VL.nil (V.region (VL.op (R.mvI rfl) (VL.op (R.add rfl rfl (by omega) (by omega)) (VL.op (R.asI rfl) (VL.nil (⟨k + 1, ?_, ⟨by omega, e9.trans e14_5⟩, by omega⟩)))))))))) (fun g16_1 => VL.op (R.pickFB rfl rfl) (VL.op (R.asB rfl) (VL.nil (V.region (VL.op (R.mvI rfl) (VL.op (R.add rfl rfl (by omega) (by omega)) (VL.op (R.asI rfl) (VL.nil (⟨k + 1, ?_, ⟨by omega, e9.trans e14_5⟩, by omega⟩))))))))))))))))) (fun g15_1 => VL.op (R.pickTB rfl rfl) (VL.op (R.asB rfl) (VL.nil (V.region (VL.op (R.mvB rfl) (VL.op (R.mvB rfl) (VL.and rfl rfl (fun g16_1 => VL.op (R.mvB rfl) (VL.op (R.pickTB rfl rfl) (VL.op (R.asB rfl) (VL.nil (V.region (VL.op (R.mvI rfl) (VL.op (R.add rfl rfl (by omega) (by omega)) (VL.op (R.asI rfl) (VL.nil (⟨k + 1, ?_, ⟨by omega, e9.trans e14_5⟩, by omega⟩)))))))))) (fun g16_1 => VL.op (R.pickFB rfl rfl) (VL.op (R.asB rfl) (VL.nil (V.region (VL.op (R.mvI rfl) (VL.op (R.add rfl rfl (by omega) (by omega)) (VL.op (R.asI rfl) (VL.nil (⟨k + 1, ?_, ⟨by omega, e9.trans e14_5⟩, by omega⟩))))))))))))))))))))))))))))
   ·rw [hs1, hs2, g15_1, g16_1, Bool.false_or, Bool.true_and]; rfl
   ·rw [hs1, hs2, g15_1, g16_1, Bool.false_or, Bool.false_and]; rfl
   ·rw [hs1, hs2, g15_1, g16_1, Bool.true_or, Bool.true_and]; rfl
   ·rw [hs1, hs2, g15_1, g16_1, Bool.true_or, Bool.false_and]; rfl
  ·have hkn : k = z.length := by omega
   subst hkn
   exact ⟨(), by rw [← anK_all, ← alK_all]; rfl, e9⟩
 have EF : Ext w wBB0 := E1.trans (E8.trans hBB0)
 have EB : Ext w1_0 wBB0 := E8.trans hBB0
 refine V.region (VL.op (R.fld' (o := 0) Tryz.runUnderlying31 rfl rfl Tryz.sizeOf3 rfl rfl) (VL.op (R.ld1 Tryz.isAgg3 rfl ((hv1 EB))) (VL.op (R.eql rfl rfl) (VL.nil (V.condP rfl (fun c117 => V.seq (V.region (VL.op (R.mvB rfl) (VL.op (R.mvB rfl) (VL.gT rfl rfl (VL.op (R.mvB rfl) (VL.op (R.pickTB rfl rfl) (VL.op (R.mvB rfl) (VL.and rfl rfl (fun g18_4 => VL.op (R.mvB rfl) (VL.op (R.pickTB rfl rfl) (VL.op (R.asB rfl) (VL.nil (V.ret (fret1 (v := .bool _) rfl rfl rfl (⟨?_, EF⟩))))))) (fun g18_4 => VL.op (R.pickFB rfl rfl) (VL.op (R.asB rfl) (VL.nil (V.ret (fret1 (v := .bool _) rfl rfl rfl (⟨?_, EF⟩))))))))))))))) (fun c117 => V.skip (V.seq (V.seq (V.region (VL.op (R.fld' (o := 0) Tryz.runUnderlying31 rfl rfl Tryz.sizeOf3 rfl rfl) (VL.op (R.ld1 Tryz.isAgg3 rfl ((hv1 EB))) (VL.op (R.eql rfl rfl) (VL.nil (V.condP rfl (fun c127 => V.seq (V.region (VL.op (R.mvB rfl) (VL.op (R.mvB rfl) (VL.gT rfl rfl (VL.op (R.mvB rfl) (VL.gT rfl rfl (VL.op (R.not rfl) (VL.op (R.pickTB rfl rfl) (VL.op (R.asB rfl) (VL.nil (V.ret (fret1 (v := .bool _) rfl rfl rfl (⟨?_, EF⟩)))))))))))))) (fun c127 => V.skip (V.seq (V.region (VL.op (R.mvB rfl) (VL.op (R.mvB rfl) (VL.gT rfl rfl (VL.op (R.fld' (o := 0) Tryz.runUnderlying31 rfl rfl Tryz.sizeOf3 rfl rfl) (VL.gT rfl rfl (VL.op (R.ld1 Tryz.isAgg3 rfl ((hv1 EB))) (VL.gT rfl rfl (VL.op (R.eql rfl rfl) (VL.op (R.pickTB rfl rfl) (VL.op (R.mvB rfl) (VL.andP rfl rfl (fun g21_6 => VL.op (R.mvB rfl) (VL.op (R.pickTB rfl rfl) (VL.op (R.mvB rfl) (VL.and rfl rfl (fun g21_9 => VL.op (R.mvB rfl) (VL.gT rfl rfl (VL.op (R.not rfl) (VL.op (R.pickTB rfl rfl) (VL.op (R.asB rfl) (VL.nil (V.ret (fret1 (v := .bool _) rfl rfl rfl (⟨?_, EF⟩))))))))) (fun g21_9 => VL.gF rfl rfl (VL.op (R.pickFB rfl rfl) (VL.op (R.asB rfl) (VL.nil (V.ret (fret1 (v := .bool _) rfl rfl rfl (⟨?_, EF⟩))))))))))) (fun g21_6 => VL.op (R.pickFB rfl rfl) (VL.op (R.mvB rfl) (VL.gF rfl rfl (VL.gF rfl rfl (VL.op (R.pickFB rfl rfl) (VL.op (R.asB rfl) (VL.nil (V.ret (fret1 (v := .bool _) rfl rfl rfl (⟨?_, EF⟩))))))))))))))))))))))))))))))))))))))
 ·rcases hfin with ⟨k, a, b⟩ | ⟨k, a⟩ | ⟨k, a, b⟩
  ·rw [b]
  ·omega
  ·omega
 ·rcases hfin with ⟨k, a, b⟩ | ⟨k, a⟩ | ⟨k, a, b⟩
  ·rw [a] at g18_4; cases g18_4
  ·omega
  ·omega
 ·rcases hfin with ⟨k, a, b⟩ | ⟨k, a⟩ | ⟨k, a, b⟩
  ·omega
  ·rw [a]; rfl
  ·omega
 ·rcases hfin with ⟨k, a, b⟩ | ⟨k, a⟩ | ⟨k, a, b⟩
  ·omega
  ·omega
  ·rw [b]; rfl
 ·rcases hfin with ⟨k, a, b⟩ | ⟨k, a⟩ | ⟨k, a, b⟩
  ·omega
  ·omega
  ·rw [a] at g21_9; cases g21_9
 ·rcases hfin with ⟨k, a, b⟩ | ⟨k, a⟩ | ⟨k, a, b⟩
  ·omega
  ·omega
  ·omega
end Go.Proofs.YtmglkjigmcikdaaGreatDoor
