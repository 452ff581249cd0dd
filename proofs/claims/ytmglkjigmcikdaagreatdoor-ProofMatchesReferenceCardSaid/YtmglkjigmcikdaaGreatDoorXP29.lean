/- Proof: the walk of law ProofSound. -/
import Derived.Test.YtmglkjigmcikdaaGreatDoorXP28
import Derived.Test.YtmglkjigmcikdaaGreatDoorXL8
namespace Go.Proofs.YtmglkjigmcikdaaGreatDoor
open Go.Vc
set_option maxRecDepth 100000
set_option maxHeartbeats 16000000
structure WIn30 (w : World) (a : Option Addr) (W : List WyI) : Prop where
 ok : WL w a W
 m : W.length ≤ 9223372036854775807
 e : ∀ y ∈ W, y.p.l.length ≤ 9223372036854775807 ∧ y.n.l.length ≤ 9223372036854775807
theorem GIn.ext {w w' : World} {g : GrW} (h : GIn w g) (e : Ext w w') : GIn w' g := ⟨h.ok.ext e, h.c, h.e, h.hc, h.he⟩
theorem FewL.wl {g : GrW} {W : List WyI} {n : Nat} (h : FewL g W n) : ∀ y ∈ W, WLen y := fun y hy => by have := h.w.e y hy; exact ⟨by omega, by omega⟩
theorem reps_iff {g : GrW} {N : Nat} (hv : validG (grV g) = true) (hN : g.n = (N : Int)) (R : List Int) : R ∈ bitsK (repA (grV g)) N (2 ^ N) ↔ IsRep (grV g) R := by
 rw [bitsK_mem fun h => ?_, repA_iff hv]
 have := (repA_iff hv).1 h
 rw [← hN]; exact this.set
theorem checkA_ready {g : Gr} {W : List Wy} {h : Bool} {S : List St4} (hk : checkA g W h S = true) : readyG g W = true := by
 unfold checkA at hk; rw [Bool.and_eq_true] at hk; exact hk.1
def hldK (W : List WyI) (l : List Int) (k : Nat) : Bool := (W.take k).any fun y => holdP l (wyV y)
theorem hldK_succ {W : List WyI} {l : List Int} {k : Nat} (h : k < W.length) : hldK W l (k + 1) = (hldK W l k || holdP l (wyV (W.getD k default))) := by
 unfold hldK
 rw [List.take_succ_eq_append_getElem h, List.any_append, gget h, List.any_cons, List.any_nil, Bool.or_false]
theorem hldK_all (W : List WyI) (l : List Int) : hldK W l W.length = (W.map wyV).any (holdP l) := by
 unfold hldK
 rw [List.take_length, Bool.eq_iff_iff, List.any_eq_true, List.any_eq_true]
 exact ⟨fun ⟨x, hx, h⟩ => ⟨_, List.mem_map_of_mem hx, h⟩, fun ⟨x, hx, h⟩ => by obtain ⟨z, hz, rfl⟩ := List.mem_map.1 hx; exact ⟨z, hz, h⟩⟩
theorem sound_law (g : GrW) (wa : Option Addr) (wc : Nat) (W : List WyI) (sa : Option Addr) (sc : Nat) (S : List St4) (B : Nat) (w : World) (hI : GIn w g) (hW : WIn30 w wa W) (hS : TSl encS4 4 w sa S) (hSm : S.length ≤ 9223372036854775807) (hB : B ≤ w.heap.size) (hT : TabW B w) :
  RetsP Tryz.prog 4 #[.agg (encGr g).toArray, .slice wa W.length wc, .agg #[.slice sa S.length sc]] w (.bool true) := by
 refine enter (args := [_, _, _]) Tryz.func4 rfl Tryz.ntmps4 (by kernel_rfl) rfl ?_
 refine V.seq (V.region (VL.box (v := .agg _) rfl fun b0_0 w0_0 hb0_0 e0_0 hB0_0 => VL.box (v := .agg _) rfl fun b0_1 w0_1 hb0_1 e0_1 hB0_1 => VL.op (R.asB rfl) (VL.nil (V.seq (V.region (VL.callP Tryz.call9 rfl (head_spec30 B _ (Nat.le_trans hB (Vc.Mod.size (e0_0.trans e0_1))) (hT.ext hB (e0_0.trans e0_1))) fun w1_0 e1_0 => VL.op (R.asB rfl) (VL.nil (V.seq (V.seq (V.region (VL.op (R.ldA Tryz.isAgg25 Tryz.sizeOf25 rfl rfl ((show RowAt _ _ _ (encGr g) from (hB0_0.ext (e0_1.trans e1_0)).rowAt 0 3)) rfl) (VL.op (R.mvS rfl) (VL.op (R.ldA Tryz.isAgg29 Tryz.sizeOf29 rfl rfl ((show RowAt _ _ _ [Value.slice sa S.length sc] from (hB0_1.ext e1_0).rowAt 0 1)) rfl) (VL.callX Tryz.call10 rfl (few30_spec g wa wc W sa sc S.length _ (hI.ext ((e0_0.trans e0_1).trans e1_0)) (hW.ok.ext ((e0_0.trans e0_1).trans e1_0)) hW.m hW.e hSm) fun b2 w2 h2 e2 => VL.op (R.not rfl) (VL.op (R.mvB rfl) (VL.or rfl rfl (fun g2_5 => VL.op (R.fld' (o := 0) Tryz.runUnderlying25 rfl rfl Tryz.sizeOf3 rfl rfl) (VL.gT rfl rfl (VL.op (R.ld1 Tryz.isAgg3 rfl ((show _ = some (Value.int .i64 g.n) from (hB0_0.ext (e0_1.trans (e1_0.trans e2))).cell 0))) (VL.gT rfl rfl (VL.op (R.gtr rfl rfl) (VL.op (R.pickFB rfl rfl) (VL.nil (V.condP rfl (fun c24 => V.seq (V.region (VL.op (R.mvB rfl) (VL.op (R.asB rfl) (VL.nil (V.ret (fret1 (v := .bool _) rfl rfl rfl (⟨rfl, (((e0_0.trans e0_1).trans e1_0).trans e2)⟩)))))))) (fun c24 => V.skip (V.seq (?_))))))))))) (fun g2_5 => VL.gF rfl rfl (VL.gF rfl rfl (VL.op (R.pickTB rfl rfl) (VL.nil (V.condT rfl (V.seq (V.region (VL.op (R.mvB rfl) (VL.op (R.asB rfl) (VL.nil (V.ret (fret1 (v := .bool _) rfl rfl rfl (⟨rfl, (((e0_0.trans e0_1).trans e1_0).trans e2)⟩)))))))))))))))))))))))))))))
 have hf := h2 (by simpa using g2_5)
 have hgl := hI.glen hf.e
 have hwl := hf.wl
 have hw30 := hf.w.w
 have hs200 := hf.w.s
 have E2 : Ext w w2 := (e0_0.trans e0_1).trans (e1_0.trans e2)
 have hX0 := hB0_0.ext (e0_1.trans (e1_0.trans e2))
 have hX1 := hB0_1.ext (e1_0.trans e2)
 have hck : ∀ {w'} (h : Bool), Ext w2 w' → RetsP Tryz.prog 14 #[.agg (encGr g).toArray, .slice wa W.length wc, .bool h, .agg #[.slice sa S.length sc]] w' (.bool (checkA (grV g) (W.map wyV) h S)) := fun h e => checkS g wa wc W h sa sc S B _ (hI.ok.ext (E2.trans e)) hgl (hW.ok.ext (E2.trans e)) hwl hW.m (hS.ext (E2.trans e)) hSm (Nat.le_trans hB (Vc.Mod.size (E2.trans e))) (hT.ext hB (E2.trans e))
 refine V.region (VL.op (R.ldA Tryz.isAgg25 Tryz.sizeOf25 rfl rfl ((show RowAt _ _ _ (encGr g) from hX0.rowAt 0 3)) rfl) (VL.op (R.mvS rfl) (VL.op (R.ldA Tryz.isAgg29 Tryz.sizeOf29 rfl rfl ((show RowAt _ _ _ [Value.slice sa S.length sc] from hX1.rowAt 0 1)) rfl) (VL.callP Tryz.call14 rfl (hck true (Vc.Mod.refl _ _)) fun w4_3 e4_3 => VL.op (R.asB rfl) (VL.nil (V.seq (V.region (VL.op (R.ldA Tryz.isAgg25 Tryz.sizeOf25 rfl rfl ((show RowAt _ _ _ (encGr g) from (hX0.ext e4_3).rowAt 0 3)) rfl) (VL.op (R.mvS rfl) (VL.op (R.ldA Tryz.isAgg29 Tryz.sizeOf29 rfl rfl ((show RowAt _ _ _ [Value.slice sa S.length sc] from (hX1.ext e4_3).rowAt 0 1)) rfl) (VL.callP Tryz.call14 rfl (hck false e4_3) fun w5_3 e5_3 => VL.op (R.asB rfl) (VL.nil (V.seq (V.seq (?_)))))))))))))))
 refine V.regionCut [34, 35, 36, 37, 38, 39] 39 (.bool (!checkA (grV g) (W.map wyV) true S && !checkA (grV g) (W.map wyV) false S)) (fun w' => Ext _ w') rfl (VL.op (R.mvB rfl) (VL.op (R.not rfl) (VL.op (R.mvB rfl) (VL.and rfl rfl (fun g6_2 => VL.op (R.mvB rfl) (VL.gT rfl rfl (VL.op (R.not rfl) (VL.op (R.pickTB rfl rfl) (VL.nil ⟨rfl, cutB rfl ?_, Mod.refl _ _⟩))))) (fun g6_2 => VL.gF rfl rfl (VL.op (R.pickFB rfl rfl) (VL.nil ⟨rfl, cutB rfl ?_, Mod.refl _ _⟩))))))) (fun rg6 w6c e6c => V.cond rfl (fun c39 => V.seq (V.region (VL.op (R.mvB rfl) (VL.op (R.asB rfl) (VL.nil (V.ret (fret1 (v := .bool _) rfl rfl rfl (⟨rfl, E2.trans ((e4_3.trans e5_3).trans e6c)⟩)))))))) (fun c39 => V.skip (V.seq (?_))))
 ·rw [g6_2, Bool.true_and]
 ·rw [g6_2, Bool.false_and]
 have hr : readyG (grV g) (W.map wyV) = true := by
  cases h1 : checkA (grV g) (W.map wyV) true S with
  | true => exact checkA_ready h1
  | false => cases h3 : checkA (grV g) (W.map wyV) false S with
   | true => exact checkA_ready h3
   | false => rw [h1, h3] at c39; cases c39
 have hv := ready_valid hr
 have hcb := costB_iff.1 (validG_iff.1 hv).1
 have hgn : (grV g).n = g.n := rfl
 obtain ⟨N, hN⟩ : ∃ N : Nat, g.n = (N : Int) := ⟨g.n.toNat, by have := hcb.1; omega⟩
 have E6 : Ext w2 w6c := (e4_3.trans e5_3).trans e6c
 refine V.region (VL.op (R.ldA Tryz.isAgg25 Tryz.sizeOf25 rfl rfl ((show RowAt _ _ _ (encGr g) from (hX0.ext E6).rowAt 0 3)) rfl) (VL.callX Tryz.call18 rfl (repairs30_spec g N _ (hI.ok.ext (E2.trans E6)) hgl hv hN (by omega)) fun x8 w8 h8 e8 => VL.op (R.asS rfl) (VL.nil (V.seq (V.seq (?_))))))
 obtain ⟨la, lc, z⟩ := x8
 dsimp only at h8 ⊢
 have hll := h8.ll
 have hz : ∀ R, R ∈ vals z ↔ IsRep (grV g) R := fun R => by rw [h8.v]; exact reps_iff hv hN R
 have hzl : z.length ≤ 1024 := by
  have h1 := bitsK_len (repA (grV g)) N (2 ^ N)
  have h2 := congrArg List.length h8.v
  have h3 : (vals z).length = z.length := List.length_map _
  have h4 : 2 ^ N ≤ 2 ^ 10 := Nat.pow_le_pow_right (by decide) (by omega)
  omega
 have E8 : Ext w w8 := (E2.trans E6).trans e8
 have hsome : ∀ R, IsRep (grV g) R → ∀ h, checkA (grV g) (W.map wyV) h S = true → (W.map wyV).any (holdP R) = !h := fun R hR h hk => by
  rw [any_holdP hr (setB_iff.1 hR.set).1]; exact check_sound hk hR
 refine V.region (VL.op (R.asI rfl) (VL.nil (V.block (?_))))
 refine V.loop [1, 7, 8, 9, 10, 11] (fun k : Nat => [.slice wa W.length wc, .bool true, .bool (checkA (grV g) (W.map wyV) true S), .bool (checkA (grV g) (W.map wyV) false S), .slice la z.length lc, .int .i64 (k : Nat)]) (fun k w' => k ≤ z.length ∧ Ext w8 w') (fun k => z.length - k) 0 rfl ⟨Nat.zero_le _, Vc.Mod.refl _ _⟩ ?_
 rintro ρ k w9 ⟨hk, e9⟩
 refine V.seq (V.seq (V.region (VL.op (R.mvI rfl) (VL.op (R.mvS rfl) (VL.op (R.lenS Tryz.runUnderlying23 rfl) (VL.op (R.lss rfl rfl) (VL.nil (V.condP rfl (fun c46 => V.skip (V.seq (V.block (V.seq (?_))))) (fun c46 => V.exit (V.seq (?_)))))))))))
 ·have hkn : k < z.length := by omega
  have hrep : IsRep (grV g) (z.getD k default).l := (hz _).1 (List.mem_map_of_mem (gmem hkn))
  have hlen : (z.getD k default).l.length ≤ 1000 := by
   have h1 := (setB_iff.1 hrep.set)
   have h2 := set_len h1.1 h1.2 hcb.1
   omega
  refine V.region (VL.op (R.asB rfl) (VL.nil (V.cut [1, 7, 8, 9, 10, 11, 12] (fun b : Bool => [.slice wa W.length wc, .bool true, .bool (checkA (grV g) (W.map wyV) true S), .bool (checkA (grV g) (W.map wyV) false S), .slice la z.length lc, .int .i64 (k : Nat), .bool b]) (fun b w' => b = (W.map wyV).any (holdP (z.getD k default).l) ∧ Ext w9 w') (V.seq (V.region (VL.op (R.asI rfl) (VL.nil (V.block (?_)))))) (fun rgB2 xB2 wBB2 hBB2 => V.seq (?_)))))
  ·refine V.loop [1, 7, 8, 9, 10, 11, 12, 13] (fun j : Nat => [.slice wa W.length wc, .bool true, .bool (checkA (grV g) (W.map wyV) true S), .bool (checkA (grV g) (W.map wyV) false S), .slice la z.length lc, .int .i64 (k : Nat), .bool (hldK W (z.getD k default).l j), .int .i64 (j : Nat)]) (fun j w' => j ≤ W.length ∧ Ext w9 w') (fun j => W.length - j) 0 rfl ⟨Nat.zero_le _, Vc.Mod.refl _ _⟩ ?_
   rintro ρ j w10 ⟨hj, e10⟩
   have E10 : Ext w w10 := E8.trans (e9.trans e10)
   have hW10 := hW.ok.ext E10
   have hL10 := hll.ext (e9.trans e10)
   refine V.seq (V.seq (V.region (VL.op (R.mvI rfl) (VL.op (R.mvS rfl) (VL.op (R.lenS Tryz.runUnderlying26 rfl) (VL.op (R.lss rfl rfl) (VL.nil (V.condP rfl (fun c52 => V.skip (V.seq (V.block (?_)))) (fun c52 => V.exit (?_))))))))))
   ·have hjn : j < W.length := by omega
    have hsu := hldK_succ (l := (z.getD k default).l) hjn
    refine V.regionQ mixed 10 (by kernel_rfl) rfl (fun w' => Ext _ w') (Ext.drawn _) (VQ.op (fun wq eq => R.mvB rfl) (VQ.op (fun wq eq => R.mvB rfl) (VQ.or rfl rfl (fun g16_1 => VQ.op (fun wq eq => R.mvS rfl) (VQ.gT rfl rfl (VQ.op (fun wq eq => R.mvI rfl) (VQ.gT rfl rfl (VQ.op (fun wq eq => R.ixS Tryz.runUnderlying26 Tryz.sizeOf37 rfl rfl (by omega) (by omega) (hW10.sl.some (i := j) hjn)) (VQ.gT rfl rfl (VQ.op (fun wq eq => R.ldA Tryz.isAgg37 Tryz.sizeOf37 rfl rfl ((show RowAt _ _ _ (encWy (W.getD j default)) from ((hW10.sl.ext eq).row (i := j) hjn))) rfl) (VQ.gT rfl rfl (VQ.op (fun wq eq => R.mvS rfl) (VQ.gT rfl rfl (VQ.op (fun wq eq => R.mvI rfl) (VQ.gT rfl rfl (VQ.op (fun wq eq => R.ixS Tryz.runUnderlying23 Tryz.sizeOf22 rfl rfl (by omega) (by omega) (hL10.sl.some (i := k) hkn)) (VQ.gT rfl rfl (VQ.op (fun wq eq => R.ld1 Tryz.isAgg22 rfl ((((hL10.sl.ext eq).row (i := k) hkn).cell (i := 0) rfl))) (VQ.nil fun w16q e16q => VL.gT rfl rfl (VL.callP Tryz.call12 rfl (holds30_spec (W.getD j default) (z.getD k default).a (z.getD k default).c (z.getD k default).l _ ((hW10.at hjn).ext e16q) (hwl _ (gmem hjn)) ((hL10.at hkn).ext e16q) (by omega)) fun w16_10 e16_10 => VL.op (R.pickFB rfl rfl) (VL.op (R.asB rfl) (VL.nil (V.region (VL.op (R.mvI rfl) (VL.op (R.add rfl rfl (by omega) (by omega)) (VL.op (R.asI rfl) (VL.nil (⟨j + 1, ?_, ⟨by omega, e10.trans (e16q.trans e16_10)⟩, by omega⟩))))))))))))))))))))))))) (fun g16_1 => VQ.gF rfl rfl (VQ.gF rfl rfl (VQ.gF rfl rfl (VQ.gF rfl rfl (VQ.gF rfl rfl (VQ.gF rfl rfl (VQ.gF rfl rfl (VQ.nil fun w16q e16q => VL.gF rfl rfl (VL.op (R.pickTB rfl rfl) (VL.op (R.asB rfl) (VL.nil (V.region (VL.op (R.mvI rfl) (VL.op (R.add rfl rfl (by omega) (by omega)) (VL.op (R.asI rfl) (VL.nil (⟨j + 1, ?_, ⟨by omega, e10.trans e16q⟩, by omega⟩))))))))))))))))))))
    ·rw [hsu, g16_1, Bool.false_or]; rfl
    ·rw [hsu, g16_1, Bool.true_or]; rfl
   ·have hje : j = W.length := by omega
    subst hje
    exact ⟨_, rfl, hldK_all _ _, e10⟩
  ·obtain ⟨rfl, eb⟩ := hBB2
   have hno := hsome _ hrep true
   have hal := hsome _ hrep false
   refine V.regionCut [67, 68, 69, 70, 71, 72, 73, 74, 75, 76, 77] 77 (.bool (false)) (fun w' => Ext _ w') rfl (VL.op (R.mvB rfl) (VL.op (R.mvB rfl) (VL.and rfl rfl (fun g17_1 => VL.op (R.mvB rfl) (VL.op (R.pickTB rfl rfl) (VL.op (R.mvB rfl) (VL.or rfl rfl (fun g17_4 => VL.op (R.mvB rfl) (VL.gT rfl rfl (VL.op (R.mvB rfl) (VL.and rfl rfl (fun g17_6 => VL.op (R.mvB rfl) (VL.gT rfl rfl (VL.op (R.not rfl) (VL.gT rfl rfl (VL.op (R.pickTB rfl rfl) (VL.op (R.pickFB rfl rfl) (VL.nil ⟨rfl, cutB rfl ?_, Mod.refl _ _⟩))))))) (fun g17_6 => VL.gF rfl rfl (VL.gT rfl rfl (VL.op (R.pickFB rfl rfl) (VL.op (R.pickFB rfl rfl) (VL.nil ⟨rfl, cutB rfl ?_, Mod.refl _ _⟩))))))))) (fun g17_4 => VL.gF rfl rfl (VL.gU rfl rfl (VL.gU rfl rfl (VL.gF rfl rfl (VL.op (R.pickTB rfl rfl) (VL.nil ⟨rfl, cutB rfl ?_, Mod.refl _ _⟩)))))))))) (fun g17_1 => VL.op (R.pickFB rfl rfl) (VL.op (R.mvB rfl) (VL.gT rfl rfl (VL.op (R.mvB rfl) (VL.gT rfl rfl (VL.op (R.mvB rfl) (VL.and rfl rfl (fun g17_6 => VL.op (R.mvB rfl) (VL.gT rfl rfl (VL.op (R.not rfl) (VL.gT rfl rfl (VL.op (R.pickTB rfl rfl) (VL.op (R.pickFB rfl rfl) (VL.nil ⟨rfl, cutB rfl ?_, Mod.refl _ _⟩))))))) (fun g17_6 => VL.gF rfl rfl (VL.gT rfl rfl (VL.op (R.pickFB rfl rfl) (VL.op (R.pickFB rfl rfl) (VL.nil ⟨rfl, cutB rfl ?_, Mod.refl _ _⟩))))))))))))))) (fun rg17 w17c e17c => V.cond rfl (fun c77 => V.seq (V.region (VL.op (R.asB rfl) (VL.nil (V.ret (fret1 (v := .bool _) rfl rfl rfl (?_))))))) (fun c77 => V.skip (V.region (VL.op (R.mvI rfl) (VL.op (R.add rfl rfl (by omega) (by omega)) (VL.op (R.asI rfl) (VL.nil (⟨k + 1, rfl, ⟨by omega, e9.trans (eb.trans e17c)⟩, by omega⟩))))))))
   ·rw [hal g17_6]; rfl
   ·rfl
   ·rw [hno g17_1] at g17_4; cases g17_4
   ·rw [hal g17_6]; rfl
   ·rfl
   ·cases c77
 ·have hkn : k = z.length := by omega
  obtain ⟨R0, hR0⟩ := rep_ex hv
  have h1 : 0 < z.length := by
   have h2 := List.length_pos_of_mem ((hz R0).2 hR0)
   rwa [show (vals z).length = z.length from List.length_map _] at h2
  refine V.region (VL.op (R.mvB rfl) (VL.op (R.mvB rfl) (VL.gT rfl rfl (VL.op (R.mvS rfl) (VL.gT rfl rfl (VL.op (R.lenS Tryz.runUnderlying23 rfl) (VL.gT rfl rfl (VL.op (R.gtr rfl rfl) (VL.op (R.pickTB rfl rfl) (VL.op (R.asB rfl) (VL.nil (V.ret (fret1 (v := .bool _) rfl rfl rfl (⟨?_, E8.trans (e9.trans (Mod.refl _ _))⟩))))))))))))))
  exact congrArg Value.bool (decide_eq_true (by omega))
end Go.Proofs.YtmglkjigmcikdaaGreatDoor
