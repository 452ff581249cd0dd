/- Proof: the walk of law ProofComplete. -/
import Derived.Test.YtmglkjigmcikdaaGreatDoorXP36
namespace Go.Proofs.YtmglkjigmcikdaaGreatDoor
open Go.Vc
set_option maxRecDepth 100000
set_option maxHeartbeats 16000000
theorem complete_law (g : GrW) (wa : Option Addr) (wc : Nat) (W : List WyI) (h : Bool) (B : Nat) (w : World) (hI : GIn w g) (hW : WIn30 w wa W) (hB : B ≤ w.heap.size) (hT : TabW B w) :
  RetsP Tryz.prog 5 #[.agg (encGr g).toArray, .slice wa W.length wc, .bool h] w (.bool true) := by
 refine enter (args := [_, _, _]) Tryz.func5 rfl Tryz.ntmps5 (by kernel_rfl) rfl ?_
 refine V.seq (V.region (VL.box (v := .agg _) rfl fun b0_0 w0_0 hb0_0 e0_0 hB0_0 => VL.op (R.asB rfl) (VL.nil (V.seq (V.region (VL.callP Tryz.call9 rfl (head_spec30 B _ (Nat.le_trans hB (Vc.Mod.size e0_0)) (hT.ext hB e0_0)) fun w1_0 e1_0 => VL.op (R.asB rfl) (VL.nil (V.seq (V.seq (?_))))))))))
 have E1 : Ext w w1_0 := e0_0.trans e1_0
 have hX0 := hB0_0.ext e1_0
 have hcG : ∀ {w'}, Ext w1_0 w' → RowAt w' b0_0 0 (encGr g) := fun e => (hX0.ext e).rowAt 0 3
 have hcn : ∀ {w'}, Ext w1_0 w' → w'.cell? ⟨b0_0, 0, none⟩ = some (Value.int .i64 g.n) := fun e => (hX0.ext e).cell 0
 refine V.region (VL.op (R.ldA Tryz.isAgg25 Tryz.sizeOf25 rfl rfl ((hcG (Vc.Mod.refl _ _))) rfl) (VL.op (R.mvS rfl) (VL.op (R.build Tryz.zeroValue29 Tryz.runUnderlying29 pl29 rfl) (VL.callX Tryz.call10 rfl (few30_spec g wa wc W none 0 0 _ (hI.ext E1) (hW.ok.ext E1) hW.m hW.e (Nat.zero_le _)) fun b2 w2 h2 e2 => VL.op (R.not rfl) (VL.op (R.mvB rfl) (VL.or rfl rfl (fun g2_5 => VL.op (R.fld' (o := 0) Tryz.runUnderlying25 rfl rfl Tryz.sizeOf3 rfl rfl) (VL.gT rfl rfl (VL.op (R.ld1 Tryz.isAgg3 rfl ((hcn e2))) (VL.gT rfl rfl (VL.op (R.gtr rfl rfl) (VL.op (R.pickFB rfl rfl) (VL.op (R.mvB rfl) (VL.orP rfl rfl (fun g2_10 => VL.op (R.ldA Tryz.isAgg25 Tryz.sizeOf25 rfl rfl ((hcG e2)) rfl) (VL.gT rfl rfl (VL.callP Tryz.call19 rfl (rvalid_spec g _ (hI.ok.ext (E1.trans e2)) (hI.glen (h2 (by simpa using g2_5)).e)) fun w2_12 e2_12 => VL.gT rfl rfl (VL.op (R.not rfl) (VL.op (R.pickFB rfl rfl) (VL.nil (V.cond rfl (fun c29 => V.seq (V.region (VL.op (R.mvB rfl) (VL.op (R.asB rfl) (VL.nil (V.ret (fret1 (v := .bool _) rfl rfl rfl (⟨rfl, E1.trans (e2.trans e2_12)⟩)))))))) (fun c29 => V.skip (V.seq (V.seq (?_))))))))))) (fun g2_10 => VL.gF rfl rfl (VL.gF rfl rfl (VL.op (R.pickTB rfl rfl) (VL.nil (V.condT rfl (V.seq (V.region (VL.op (R.mvB rfl) (VL.op (R.asB rfl) (VL.nil (V.ret (fret1 (v := .bool _) rfl rfl rfl (⟨rfl, E1.trans e2⟩))))))))))))))))))))) (fun g2_5 => VL.gF rfl rfl (VL.gF rfl rfl (VL.op (R.pickTB rfl rfl) (VL.op (R.mvB rfl) (VL.gF rfl rfl (VL.gF rfl rfl (VL.gF rfl rfl (VL.op (R.pickTB rfl rfl) (VL.nil (V.condT rfl (V.seq (V.region (VL.op (R.mvB rfl) (VL.op (R.asB rfl) (VL.nil (V.ret (fret1 (v := .bool _) rfl rfl rfl (⟨rfl, E1.trans e2⟩))))))))))))))))))))))))
 have hf := h2 (by simpa using g2_5)
 have hv : validG (grV g) = true := by simpa using c29
 have hgl := hI.glen hf.e
 have hwl := hf.wl
 have hw30 := hf.w.w
 have hgn : (grV g).n = g.n := rfl
 have E3 : Ext w1_0 w2_12 := e2.trans e2_12
 refine V.region (VL.op (R.asI rfl) (VL.nil (V.block (?_))))
 refine V.loop [1, 2, 3, 7, 8] (fun k : Nat => [.slice wa W.length wc, .bool h, .pointer (some ⟨b0_0, 0, none⟩), .bool true, .int .i64 (k : Nat)]) (fun k w' => k ≤ W.length ∧ (∀ i, i < k → wyB g.n (wyV (W.getD i default)) = true) ∧ Ext w1_0 w') (fun k => W.length - k) 0 rfl ⟨Nat.zero_le _, fun i h => absurd h (Nat.not_lt_zero i), E3⟩ ?_
 rintro ρ k w4 ⟨hk, hfm, e4⟩
 have hW4 := hW.ok.ext (E1.trans e4)
 refine V.seq (V.seq (V.region (VL.op (R.mvI rfl) (VL.op (R.mvS rfl) (VL.op (R.lenS Tryz.runUnderlying26 rfl) (VL.op (R.lss rfl rfl) (VL.nil (V.condP rfl (fun c34 => V.skip (V.seq (V.block (V.seq (?_))))) (fun c34 => V.exit (V.seq (?_)))))))))))
 ·have hkn : k < W.length := by omega
  refine V.regionQ mixed 8 (by kernel_rfl) rfl (fun w' => Ext _ w') (Ext.drawn _) (VQ.op (fun wq eq => R.mvS rfl) (VQ.op (fun wq eq => R.mvI rfl) (VQ.op (fun wq eq => R.ixS Tryz.runUnderlying26 Tryz.sizeOf37 rfl rfl (by omega) (by omega) (hW4.sl.some (i := k) hkn)) (VQ.op (fun wq eq => R.ldA Tryz.isAgg37 Tryz.sizeOf37 rfl rfl ((show RowAt _ _ _ (encWy (W.getD k default)) from ((hW4.sl.ext eq).row (i := k) hkn))) rfl) (VQ.op (fun wq eq => R.fld' (o := 0) Tryz.runUnderlying25 rfl rfl Tryz.sizeOf3 rfl rfl) (VQ.op (fun wq eq => R.ld1 Tryz.isAgg3 rfl ((hcn (e4.trans eq)))) (VQ.callP (fun _ _ h k => Mod.trans h k) Tryz.call20 rfl (fun wq eq => rformed30_spec (W.getD k default) g.n _ ((hW4.at hkn).ext eq) (hwl _ (gmem hkn))) (VQ.op (fun wq eq => R.not rfl) (VQ.nil fun w7q e7q => VL.nil (V.cond rfl (fun c44 => V.seq (V.region (VL.op (R.mvB rfl) (VL.op (R.asB rfl) (VL.nil (V.ret (fret1 (v := .bool _) rfl rfl rfl (⟨rfl, E1.trans (e4.trans e7q)⟩)))))))) (fun c44 => V.skip (V.region (VL.op (R.mvI rfl) (VL.op (R.add rfl rfl (by omega) (by omega)) (VL.op (R.asI rfl) (VL.nil (⟨k + 1, rfl, ⟨by omega, fun i hi => ?_, e4.trans e7q⟩, by omega⟩)))))))))))))))))
  by_cases e : i = k
  ·subst e; simpa using c44
  ·exact hfm i (by omega)
 ·have hkn : k = W.length := by omega
  subst hkn
  have hWall : (W.map wyV).all (wyB g.n) = true := List.all_eq_true.2 fun x hx => by
   obtain ⟨y, hy, rfl⟩ := List.mem_map.1 hx
   obtain ⟨i, hi, rfl⟩ := List.getElem_of_mem hy
   have := hfm i hi
   rwa [gget hi] at this
  have hr : readyG (grV g) (W.map wyV) = true := by
   unfold readyG
   rw [hv, List.length_map, decide_eq_true (by omega), hgn, hWall]; rfl
  have hR := ready_rr hr hgl hwl
  obtain ⟨N, hNd⟩ : ∃ N, N = g.n.toNat := ⟨_, rfl⟩
  rw [← hNd] at hR
  have hN := hR.n
  have hN8 : N ≤ 8 := by omega
  refine V.region (VL.op (R.ldA Tryz.isAgg25 Tryz.sizeOf25 rfl rfl ((hcG e4)) rfl) (VL.callX Tryz.call18 rfl (repairs30_spec g N _ (hI.ok.ext (E1.trans e4)) hgl hv hN (by omega)) fun x8 w8 h8 e8 => VL.op (R.asS rfl) (VL.nil (V.seq (?_)))))
  obtain ⟨la, lc, z⟩ := x8
  dsimp only at h8 ⊢
  have hll := h8.ll
  have hzr : ∀ R, R ∈ vals z ↔ IsRep (grV g) R := fun R => by rw [h8.v]; exact reps_iff hv hN R
  have hzl : z.length ≤ 1024 := by
   have h1 := bitsK_len (repA (grV g)) N (2 ^ N)
   have h2 := congrArg List.length h8.v
   have h3 : (vals z).length = z.length := List.length_map _
   have h4 : 2 ^ N ≤ 2 ^ 10 := Nat.pow_le_pow_right (by decide) (by omega)
   omega
  have E8 : Ext w1_0 w8 := e4.trans e8
  obtain ⟨F, hF⟩ : ∃ F : List Int → Bool, F = fun R => decide ((W.map wyV).any (holdP R) ≠ h) := ⟨_, rfl⟩
  refine V.region (VL.op (R.asB rfl) (VL.nil (V.cut [1, 2, 3, 7, 10] (fun _ : Unit => [.slice wa W.length wc, .bool h, .pointer (some ⟨b0_0, 0, none⟩), .bool true, .bool ((vals z).all F)]) (fun _ w' => Ext w8 w') (V.seq (V.region (VL.op (R.asI rfl) (VL.nil (V.block (?_)))))) (fun rgB2 xB2 wBB2 hBB2 => V.seq (?_)))))
  ·refine V.loop [1, 2, 3, 7, 9, 10, 11] (fun k : Nat => [.slice wa W.length wc, .bool h, .pointer (some ⟨b0_0, 0, none⟩), .bool true, .slice la z.length lc, .bool (alK F z k), .int .i64 (k : Nat)]) (fun k w' => k ≤ z.length ∧ Ext w8 w') (fun k => z.length - k) 0 rfl ⟨Nat.zero_le _, Vc.Mod.refl _ _⟩ ?_
   rintro ρ k w9 ⟨hk, e9⟩
   have hL9 := hll.ext e9
   refine V.seq (V.seq (V.region (VL.op (R.mvI rfl) (VL.op (R.mvS rfl) (VL.op (R.lenS Tryz.runUnderlying23 rfl) (VL.op (R.lss rfl rfl) (VL.nil (V.condP rfl (fun c51 => V.skip (V.seq (V.block (?_)))) (fun c51 => V.exit (?_))))))))))
   ·have hkn : k < z.length := by omega
    have hrep : IsRep (grV g) (z.getD k default).l := (hzr _).1 (List.mem_map_of_mem (gmem hkn))
    have hlen : (z.getD k default).l.length ≤ 1000 := by
     have h1 := (setB_iff.1 hrep.set)
     have h2 := set_len h1.1 h1.2 (by omega)
     omega
    have hs2 := alK_succ (F := F) hkn
    refine V.region (VL.op (R.mvB rfl) (VL.op (R.mvB rfl) (VL.and rfl rfl (fun g14_1 => VL.op (R.mvS rfl) (VL.gT rfl rfl (VL.op (R.mvS rfl) (VL.gT rfl rfl (VL.op (R.mvI rfl) (VL.gT rfl rfl (VL.op (R.ixS Tryz.runUnderlying23 Tryz.sizeOf22 rfl rfl (by omega) (by omega) (hL9.sl.some (i := k) hkn)) (VL.gT rfl rfl (VL.op (R.ld1 Tryz.isAgg22 rfl (((hL9.sl.row (i := k) hkn).cell (i := 0) rfl))) (VL.gT rfl rfl (VL.callP Tryz.call21 rfl (rsome30_spec wa wc W (z.getD k default).a (z.getD k default).c (z.getD k default).l w9 (hW.ok.ext (E1.trans (E8.trans e9))) hwl (by omega) (hL9.at hkn) (by omega)) fun w14_7 e14_7 => VL.gT rfl rfl (VL.op (R.mvB rfl) (VL.gT rfl rfl (VL.op (R.neqB eqW4 rfl rfl) (VL.op (R.pickTB rfl rfl) (VL.op (R.asB rfl) (VL.nil (V.region (VL.op (R.mvI rfl) (VL.op (R.add rfl rfl (by omega) (by omega)) (VL.op (R.asI rfl) (VL.nil (⟨k + 1, ?_, ⟨by omega, e9.trans e14_7⟩, by omega⟩))))))))))))))))))))))) (fun g14_1 => VL.gF rfl rfl (VL.gF rfl rfl (VL.gF rfl rfl (VL.gF rfl rfl (VL.gF rfl rfl (VL.gF rfl rfl (VL.gF rfl rfl (VL.op (R.pickFB rfl rfl) (VL.op (R.asB rfl) (VL.nil (V.region (VL.op (R.mvI rfl) (VL.op (R.add rfl rfl (by omega) (by omega)) (VL.op (R.asI rfl) (VL.nil (⟨k + 1, ?_, ⟨by omega, e9.trans (Mod.refl _ _)⟩, by omega⟩)))))))))))))))))))
    ·rw [hs2, g14_1, Bool.true_and, hF]; rfl
    ·rw [hs2, g14_1, Bool.false_and]; rfl
   ·have hkn : k = z.length := by omega
    subst hkn
    exact ⟨(), by rw [← alK_all]; rfl, e9⟩
  have EB : Ext w1_0 wBB2 := E8.trans hBB2
  obtain ⟨o, ho⟩ : ∃ o, growF ⟨g.n, vals g.edges, W.map wyV, h, []⟩ N 0 (List.replicate N 0) [] = o := ⟨_, rfl⟩
  have hpo : proveF (grV g) (W.map wyV) h = o := by rw [← ho, hNd]; rfl
  have hiff : (vals z).all F = o.isSome := by
   rw [Bool.eq_iff_iff, ← hpo, prove_iff hr (by omega), List.all_eq_true, hF]
   constructor
   ·intro h1 R hR
    have h3 := of_decide_eq_true (h1 R ((hzr R).2 hR))
    rw [any_holdP hr (setB_iff.1 hR.set).1] at h3
    cases h4 : someW (W.map wyV) R <;> cases h <;> first | rfl | exact absurd h4 h3
   ·intro h1 R hRz
    have hR := (hzr R).1 hRz
    have h3 := h1 R hR
    refine decide_eq_true ?_
    rw [any_holdP hr (setB_iff.1 hR.set).1, h3]
    cases h <;> decide
  refine V.region (VL.op (R.ldA Tryz.isAgg25 Tryz.sizeOf25 rfl rfl ((hcG EB)) rfl) (VL.op (R.mvS rfl) (VL.op (R.mvB rfl) (VL.callX Tryz.call22 rfl (rprove30_spec g wa wc W h N hR hN8 _ (hI.ok.ext (E1.trans EB)) (hW.ok.ext (E1.trans EB)) o ho) fun r15 w15 h15 e15 => VL.op (R.mvT rfl) (VL.op (R.extr rfl rfl) (VL.op (R.extr rfl rfl) (VL.allocSt (v := .agg _) Tryz.zeroValue29 Tryz.sizeOf29 rfl rfl rfl rfl rfl fun b15_7 w15_7 hb15_7 e15_7 hB15_7 => VL.op (R.asB rfl) (VL.nil (V.seq (?_))))))))))
  obtain ⟨pa, pc, o2⟩ := r15
  obtain ⟨h15o, h15s⟩ := h15
  dsimp only at h15o h15s
  subst h15o
  have E15 : Ext w1_0 w15_7 := EB.trans (e15.trans e15_7)
  cases o2 with
  | none =>
   refine V.region (VL.op (R.mvB rfl) (VL.op (R.mvB rfl) (VL.gT rfl rfl (VL.op (R.mvB rfl) (VL.gT rfl rfl (VL.op (R.mvB rfl) (VL.gT rfl rfl (VL.op (R.lit (R.eqlB eqW4 rfl rfl) ((decide_eq_true hiff.symm))) (VL.op (R.pickTB rfl rfl) (VL.op (R.mvB rfl) (VL.gT rfl rfl (VL.op (R.mvB rfl) (VL.gT rfl rfl (VL.op (R.not rfl) (VL.gT rfl rfl (VL.op (R.mvB rfl) (VL.gF rfl rfl (VL.gF rfl rfl (VL.gF rfl rfl (VL.gF rfl rfl (VL.gF rfl rfl (VL.gT rfl rfl (VL.op (R.pickTB rfl rfl) (VL.op (R.pickTB rfl rfl) (VL.op (R.asB rfl) (VL.nil (V.ret (fret1 (v := .bool _) rfl rfl rfl (⟨rfl, E1.trans (E15.trans (Mod.refl _ _))⟩)))))))))))))))))))))))))))))
  | some S =>
   have hpf := grow_pfx _ _ _ _ _ ho
   have hpl := hpf.le
   have hp9 : 2 ^ (N + 1) ≤ 2 ^ 9 := Nat.pow_le_pow_right (by decide) (by omega)
   rw [List.length_nil] at hpl
   have hXp : Blk w15_7 b15_7 (.cells #[.slice pa S.length pc] 29 (0, 0)) := hB15_7
   have hck : RetsP Tryz.prog 14 #[.agg (encGr g).toArray, .slice wa W.length wc, .bool h, .agg #[.slice pa S.length pc]] w15_7 (.bool true) := by
    have := checkS g wa wc W h pa pc S B w15_7 (hI.ok.ext (E1.trans E15)) hgl (hW.ok.ext (E1.trans E15)) hwl (by omega) (h15s.ext e15_7) (by omega) (Nat.le_trans hB (Vc.Mod.size (E1.trans E15))) (hT.ext hB (E1.trans E15))
    rwa [prove_some hr (by omega) hpo] at this
   refine V.region (VL.op (R.mvB rfl) (VL.op (R.mvB rfl) (VL.gT rfl rfl (VL.op (R.mvB rfl) (VL.gT rfl rfl (VL.op (R.mvB rfl) (VL.gT rfl rfl (VL.op (R.lit (R.eqlB eqW4 rfl rfl) ((decide_eq_true hiff.symm))) (VL.op (R.pickTB rfl rfl) (VL.op (R.mvB rfl) (VL.gT rfl rfl (VL.op (R.mvB rfl) (VL.gT rfl rfl (VL.op (R.not rfl) (VL.gT rfl rfl (VL.op (R.mvB rfl) (VL.gT rfl rfl (VL.op (R.ldA Tryz.isAgg25 Tryz.sizeOf25 rfl rfl ((hcG E15)) rfl) (VL.gT rfl rfl (VL.op (R.mvS rfl) (VL.gT rfl rfl (VL.op (R.mvB rfl) (VL.gT rfl rfl (VL.op (R.ldA Tryz.isAgg29 Tryz.sizeOf29 rfl rfl ((show RowAt _ _ _ [Value.slice pa S.length pc] from hXp.rowAt 0 1)) rfl) (VL.gT rfl rfl (VL.callP Tryz.call14 rfl (hck) fun w16_14 e16_14 => VL.gT rfl rfl (VL.op (R.pickFB rfl rfl) (VL.op (R.pickTB rfl rfl) (VL.op (R.asB rfl) (VL.nil (V.ret (fret1 (v := .bool _) rfl rfl rfl (⟨rfl, E1.trans (E15.trans e16_14)⟩)))))))))))))))))))))))))))))))))
end Go.Proofs.YtmglkjigmcikdaaGreatDoor
