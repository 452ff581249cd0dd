/- Hyper: the walk of law HyperComponents. -/
import Derived.Test.YtoengpialdolbaaDoorL8
import Derived.Test.YtoengpialdolbaaDoorVcDiv
namespace Go.Proofs.YtoengpialdolbaaDoor
open Go.Vc
def encC (x : Int) : List Value := [.int .u8 x]
/-- Where each vertex that has been seen belongs. -/
structure WJ (w0 : World) (b7 N : Nat) (r : Nat → Nat) (W S : List Int) (w : World) : Prop where
  o : OwnT Vc.encI 1 3 w0.heap.size w (some ⟨b7, 0, none⟩) N W
  len : W.length = N
  val : ∀ v : Nat, v < N → W.getD v default = if (v : Int) ∈ S then (posD r N (v : Int) : Int) else -1
  e : Ext w0 w
theorem seen_len_next {r : Nat → Nat} {n i k : Nat} (hk : k < ((grpsK r n).getD i default).length) : (((seenD r n i k).length : Nat) : Int) + 1 = ((seenD r n i (k + 1)).length : Nat) := by
  rw [seen_next hk, List.length_append, List.length_singleton]; omega
set_option maxRecDepth 100000 in
set_option maxHeartbeats 16000000 in
theorem comps_law (g : GrW) (ca : Option Addr) (cc B : Nat) (cls : List Int) (w : World) (hI : GIn w g) (hC : TSl encC 1 w ca cls) (hcl : cls.length ≤ 9223372036854775807) (hB : B ≤ w.heap.size) (hT : TabW B w) :
    RetsP Tryd.prog 6 #[.agg (encGr g).toArray, .slice ca cls.length cc] w (.bool true) := by
  have hG := hI.ok
  refine enter (args := [_, _]) Tryd.func6 rfl Tryd.ntmps6 (by kernel_rfl) rfl ?_
  refine V.seq (V.region (VL.box (v := .agg _) rfl fun b0_0 w0_0 hb0_0 e0_0 hB0_0 => VL.op (R.asB rfl) (VL.nil (V.seq (V.region (VL.callP Tryd.call9 rfl (head_spec B _ (Nat.le_trans hB (e0_0).size) (hT.ext hB e0_0)) fun w1_0 e1_0 => VL.op (R.asB rfl) (VL.nil (V.seq (V.seq (V.region (VL.op (R.ldA Tryd.isAgg33 Tryd.sizeOf33 rfl rfl ((show RowAt _ _ _ (encGr g) from ((hB0_0.ext e1_0).rowAt 0 3))) rfl) (VL.callX Tryd.call21 rfl (small_spec g 100 80 _ (hG.ext (e0_0.trans e1_0)) hI.c hI.e.len) fun b2 w2 h2 e2 => VL.op (R.not rfl) (VL.nil (V.cond rfl (fun c22 => V.seq (V.region (VL.op (R.mvB rfl) (VL.op (R.asB rfl) (VL.nil (V.ret (fret1 (v := .bool _) rfl rfl rfl (⟨rfl, ((e0_0.trans e1_0).trans e2)⟩)))))))) (fun c22 => V.skip (V.seq (?_)))))))))))))))))
  have hsm := h2 (by simpa using c22)
  have hF := hsm.2.2
  have hFn := hF.n
  have hgl := hI.glen hF
  have hge : ∀ x ∈ g.edges, x.l.length ≤ 1000000 := fun x hx => (hgl.each x hx).1
  have E2 := e0_0.trans (e1_0.trans e2)
  have hb2 : Blk w2 b0_0 (.cells (Value.agg (encGr g).toArray).cells 33 (0, 0)) := hB0_0.ext (e1_0.trans e2)
  refine V.region (VL.op (R.ldA Tryd.isAgg33 Tryd.sizeOf33 rfl rfl ((show RowAt _ _ _ (encGr g) from hb2.rowAt 0 3)) rfl) (VL.callX Tryd.call22 rfl (comps_spec g B w2 (hG.ext E2) hgl (Nat.le_trans hB E2.size) (hT.ext hB E2)) fun z w4 ⟨hz, hL⟩ e4 => VL.op (R.asS rfl) (VL.nil (V.seq (V.seq (V.region (VL.op (R.ldA Tryd.isAgg33 Tryd.sizeOf33 rfl rfl ((show RowAt _ _ _ (encGr g) from (hb2.ext e4).rowAt 0 3)) rfl) (VL.callP Tryd.call19 rfl (valid_spec g B _ (hG.ext (E2.trans e4)) hgl (Nat.le_trans hB (E2.trans e4).size) (hT.ext hB (E2.trans e4))) fun w5_1 e5_1 => VL.op (R.not rfl) (VL.nil (V.cond rfl (fun c28 => V.seq (?_)) (fun c28 => V.skip (V.seq (?_)))))))))))))
  · have hv : validG (grV g) ≠ true := fun h => by rw [h] at c28; cases c28
    have hz0 : z.1.length = 0 := by
      have : (vals z.1).length = 0 := by rw [hz]; unfold compsG; rw [if_neg hv]; rfl
      rw [List.length_map] at this; exact this
    refine V.region (VL.op (R.mvB rfl) (VL.op (R.mvB rfl) (VL.gT rfl rfl (VL.op (R.mvS rfl) (VL.gT rfl rfl (VL.op (R.lenS Tryd.runUnderlying22 rfl) (VL.gT rfl rfl (VL.op (R.lit (R.eql rfl rfl) ((decide_eq_true (by omega)))) (VL.op (R.pickTB rfl rfl) (VL.op (R.asB rfl) (VL.nil (V.ret (fret1 (v := .bool _) rfl rfl rfl (⟨rfl, E2.trans (e4.trans e5_1)⟩))))))))))))))
  have hv : validG (grV g) = true := by simpa using c28
  have hn := costB_iff.1 (validG_iff.1 hv).1
  obtain ⟨N, hN⟩ : ∃ N : Nat, g.n = (N : Int) := ⟨g.n.toNat, by have h0 : 0 ≤ g.n := hn.1; omega⟩
  have hN1 : N ≤ 100 := by have := hsm.1; omega
  obtain ⟨Cm, hCm⟩ : ∃ Cm, Cm = compE (vals g.edges) := ⟨_, rfl⟩
  have hIC : IsComp N (prsE (vals g.edges)) Cm := by have := validG_comp hv; rw [hCm]; rw [show (grV g).n = g.n from rfl, hN] at this; exact this
  have hzg : vals z.1 = grpsK Cm N := by rw [hz]; unfold compsG; rw [if_pos hv, hCm, show (grV g).n = g.n from rfl, hN]; rfl
  have hzl : z.1.length = (hdsK Cm N).length := by rw [← grpsK_len, ← hzg, List.length_map]
  have hhl := hdsK_len Cm N
  have hzi : ∀ i, i < z.1.length → (z.1.getD i default).l = (grpsK Cm N).getD i default := fun i hi => by rw [← hzg, gmap _ _ _ hi]
  have hzn : ∀ i, i < z.1.length → (z.1.getD i default).l.length ≤ 100 := fun i hi => by
    rw [hzi i hi, grp_at (by omega)]; exact Nat.le_trans (memsK_len _ _ _) hN1
  have E5 := E2.trans (e4.trans e5_1)
  have hb5 : Blk w5_1 b0_0 (.cells (Value.agg (encGr g).toArray).cells 33 (0, 0)) := hb2.ext (e4.trans e5_1)
  have hL5 := hL.ext e5_1
  have hG5 := hG.ext E5
  have hC5 := hC.ext E5
  refine V.region (VL.op (R.fld' (o := 0) Tryd.runUnderlying33 rfl rfl Tryd.sizeOf3 rfl rfl) (VL.op (R.ld1 Tryd.isAgg3 rfl ((show w5_1.cell? ⟨b0_0, 0, none⟩ = some (Value.int .i64 ((N : Nat) : Int)) from by rw [← hN]; exact (hb5).cell 0))) (VL.makeSl (enc := Vc.encI ) el27 ( (0 : Int)) rfl rfl rfl (by omega) (by unfold maxLen; omega) (Nat.le_refl _) fun b7 w7 hb7 e7 ho7 => VL.op (R.asS rfl) (VL.nil (V.cut [1, 2, 5, 6, 7] (fun W : List Int => [.slice ca cls.length cc, .pointer (some ⟨b0_0, 0, none⟩), .bool true, .slice z.2.1 z.1.length z.2.2, .slice (some ⟨b7, 0, none⟩) N N]) (fun W w' => WJ w5_1 b7 N Cm W [] w') (V.seq (V.region (VL.op (R.asI rfl) (VL.nil (V.block (?_)))))) (fun rgB0 xB0 wBB0 hBB0 => V.seq (?_)))))))
  · refine V.loop [1, 2, 5, 6, 7, 8] (fun x : Nat × List Int => [.slice ca cls.length cc, .pointer (some ⟨b0_0, 0, none⟩), .bool true, .slice z.2.1 z.1.length z.2.2, .slice (some ⟨b7, 0, none⟩) N N, .int .i64 (x.1 : Nat)]) (fun x w' => x.1 ≤ N ∧ OwnT Vc.encI 1 3 w5_1.heap.size w' (some ⟨b7, 0, none⟩) N x.2 ∧ x.2.length = N ∧ (∀ v : Nat, v < x.1 → x.2.getD v default = -1) ∧ Ext w5_1 w') (fun x => N - x.1) (0, List.replicate N 0) rfl ⟨Nat.zero_le _, ho7, by simp, fun v h => absurd h (Nat.not_lt_zero v), e7⟩ ?_
    rintro ρ ⟨k, W⟩ w6 ⟨hk, ho, hlen, hval, e6⟩
    dsimp only at hk ho hlen hval e6 ⊢
    refine V.seq (V.seq (V.region (VL.op (R.mvI rfl) (VL.op (R.fld' (o := 0) Tryd.runUnderlying33 rfl rfl Tryd.sizeOf3 rfl rfl) (VL.op (R.ld1 Tryd.isAgg3 rfl ((show w6.cell? ⟨b0_0, 0, none⟩ = some (Value.int .i64 ((N : Nat) : Int)) from by rw [← hN]; exact (hb5.ext e6).cell 0))) (VL.op (R.lss rfl rfl) (VL.nil (V.condP rfl (fun c41 => V.skip (V.seq (V.block (V.region (VL.op (R.mvS rfl) (VL.op (R.mvI rfl) (VL.op (R.ixS Tryd.runUnderlying27 Tryd.sizeOf3 rfl rfl (by omega) (by omega) ((ho.sl).some (i := k) (by omega))) (VL.ownSt eltI (v := .int _ _) Tryd.sizeOf3 (ho) k 0 (-1) rfl rfl (by omega) rfl rfl rfl rfl rfl fun w11 ho11 m11 hs11 => VL.nil (V.region (VL.op (R.mvI rfl) (VL.op (R.add rfl rfl (by omega) (by omega)) (VL.op (R.asI rfl) (VL.nil (?_)))))))))))))) (fun c41 => V.exit (?_))))))))))
    · refine ⟨(k + 1, W.set k (-1)), rfl, ⟨by dsimp only; omega, ho11, by simp [hlen], fun v hv => ?_, e6.ownA m11 fun q hq => ho.ge q hq⟩, by dsimp only; omega⟩
      dsimp only at hv ⊢
      by_cases e : v = k
      · rw [e, setD_eq _ (by omega)]
      · rw [setD_ne _ e]; exact hval v (by omega)
    · have hkN : k = N := by omega
      subst hkN
      exact ⟨W, rfl, ho, hlen, fun v hv => by rw [hval v hv, if_neg (by simp)], e6⟩
  refine V.region (VL.op (R.asI rfl) (VL.nil (V.cut [1, 2, 5, 6, 7, 9] (fun x : List Int × Nat => [.slice ca cls.length cc, .pointer (some ⟨b0_0, 0, none⟩), .bool true, .slice z.2.1 z.1.length z.2.2, .slice (some ⟨b7, 0, none⟩) N N, .int .i64 (x.2 : Nat)]) (fun x w' => WJ w5_1 b7 N Cm x.1 (seenD Cm N (hdsK Cm N).length 0) w' ∧ x.2 = N) (V.seq (V.region (VL.op (R.asI rfl) (VL.nil (V.block (?_)))))) (fun rgB2 xB2 wBB2 hBB2 => V.seq (V.seq (?_))))))
  · refine V.loop [1, 2, 5, 6, 7, 9, 10] (fun x : Nat × List Int => [.slice ca cls.length cc, .pointer (some ⟨b0_0, 0, none⟩), .bool true, .slice z.2.1 z.1.length z.2.2, .slice (some ⟨b7, 0, none⟩) N N, .int .i64 ((seenD Cm N x.1 0).length : Nat), .int .i64 (x.1 : Nat)]) (fun x w' => x.1 ≤ z.1.length ∧ WJ w5_1 b7 N Cm x.2 (seenD Cm N x.1 0) w') (fun x => z.1.length - x.1) (0, xB0) (by dsimp only; rw [seen_zero]; rfl) ⟨Nat.zero_le _, by dsimp only; rw [seen_zero]; exact hBB0⟩ ?_
    rintro ρ ⟨i, W⟩ w6 ⟨hi, hJ⟩
    dsimp only at hi hJ ⊢
    have hL6 := hL5.ext hJ.e
    have hb6 := hb5.ext hJ.e
    refine V.seq (V.seq (V.region (VL.op (R.mvI rfl) (VL.op (R.mvS rfl) (VL.op (R.lenS Tryd.runUnderlying22 rfl) (VL.op (R.lss rfl rfl) (VL.nil (V.condP rfl (fun c50 => V.skip (V.seq (V.block (V.seq (V.seq (?_)))))) (fun c50 => V.exit (?_))))))))))
    · have hil : i < z.1.length := by omega
      have hih : i < (hdsK Cm N).length := by omega
      have hx6 := hL6.at hil
      have hxi := hzi i hil
      have hxp : 0 < (z.1.getD i default).l.length := by rw [hxi]; exact grp_ne hih
      have hxn := hzn i hil
      have hset : setB (z.1.getD i default).l (N : Int) = true := by
        rw [hxi]
        exact setB_iff.2 ⟨grp_inc hih, fun x hx => by have := (grp_mem hih).1 hx; omega⟩
      refine V.regionQCut mixed 36 (by kernel_rfl) rfl (fun w' => Ext _ w') (Ext.drawn _) [53, 54, 55, 56, 57, 58, 59, 60, 61, 62, 63, 64, 65, 66, 67, 68, 69, 70, 71, 72, 73, 74, 75, 76, 77, 78, 79, 80, 81, 82, 83, 84, 85, 86, 87, 88] 88 (.bool (false)) rfl (VQ.op (fun wq eq => R.mvS rfl) (VQ.op (fun wq eq => R.mvI rfl) (VQ.op (fun wq eq => R.ixS Tryd.runUnderlying22 Tryd.sizeOf27 rfl rfl (by omega) (by omega) ((hL6.sl).some (i := i) (by omega))) (VQ.op (fun wq eq => R.ld1 Tryd.isAgg27 rfl (((((hL6.sl).ext eq).row (i := i) (by omega)).cell (i := 0) rfl))) (VQ.op (fun wq eq => R.lenS Tryd.runUnderlying27 rfl) (VQ.op (fun wq eq => R.lit (R.eql rfl rfl) ((decide_eq_false (by omega)))) (VQ.op (fun wq eq => R.mvB rfl) (VQ.gT rfl rfl (VQ.op (fun wq eq => R.mvS rfl) (VQ.gT rfl rfl (VQ.op (fun wq eq => R.mvI rfl) (VQ.gT rfl rfl (VQ.op (fun wq eq => R.ixS Tryd.runUnderlying22 Tryd.sizeOf27 rfl rfl (by omega) (by omega) ((hL6.sl).some (i := i) (by omega))) (VQ.gT rfl rfl (VQ.op (fun wq eq => R.ld1 Tryd.isAgg27 rfl (((((hL6.sl).ext eq).row (i := i) (by omega)).cell (i := 0) rfl))) (VQ.gT rfl rfl (VQ.op (fun wq eq => R.fld' (o := 0) Tryd.runUnderlying33 rfl rfl Tryd.sizeOf3 rfl rfl) (VQ.gT rfl rfl (VQ.op (fun wq eq => R.ld1 Tryd.isAgg3 rfl ((show wq.cell? ⟨b0_0, 0, none⟩ = some (Value.int .i64 ((N : Nat) : Int)) from by rw [← hN]; exact (hb6.ext eq).cell 0))) (VQ.gT rfl rfl (VQ.callP (fun _ _ h k => Mod.trans h k) Tryd.call23 rfl (fun wq eq => (verts_is _ _ _ _ wq (by omega) (hx6.ext eq) hset)) (VQ.gT rfl rfl (VQ.op (fun wq eq => R.not rfl) (VQ.op (fun wq eq => R.pickFB rfl rfl) (VQ.op (fun wq eq => R.mvB rfl) (VQ.gT rfl rfl (VQ.op (fun wq eq => R.mvI rfl) (VQ.gT rfl rfl (VQ.op (fun wq eq => R.gtr rfl rfl) (VQ.gT rfl rfl (VQ.op (fun wq eq => R.mvB rfl) (VQ.andP rfl rfl (fun g16_19 => VQ.op (fun wq eq => R.mvS rfl) (VQ.gT rfl rfl (VQ.op (fun wq eq => R.mvI rfl) (VQ.gT rfl rfl (VQ.op (fun wq eq => R.ixS Tryd.runUnderlying22 Tryd.sizeOf27 rfl rfl (by omega) (by omega) ((hL6.sl).some (i := i) (by omega))) (VQ.gT rfl rfl (VQ.op (fun wq eq => R.ld1 Tryd.isAgg27 rfl (((((hL6.sl).ext eq).row (i := i) (by omega)).cell (i := 0) rfl))) (VQ.gT rfl rfl (VQ.op (fun wq eq => R.ixS Tryd.runUnderlying27 Tryd.sizeOf3 rfl rfl (by omega) (by omega) (hx6.some (i := 0) hxp)) (VQ.gT rfl rfl (VQ.op (fun wq eq => R.ld1 Tryd.isAgg3 rfl ((((hx6.ext eq).row (i := 0) hxp).cell (i := 0) rfl))) (VQ.gT rfl rfl (VQ.op (fun wq eq => R.mvS rfl) (VQ.gT rfl rfl (VQ.op (fun wq eq => R.mvI rfl) (VQ.gT rfl rfl (VQ.op (fun wq eq => R.sub rfl rfl (by omega) (by omega)) (VQ.gT rfl rfl (VQ.op (fun wq eq => R.ixS Tryd.runUnderlying22 Tryd.sizeOf27 rfl rfl (by omega) (by omega) ((hL6.sl).some (i := ((i : Int) - 1).toNat) (by omega))) (VQ.gT rfl rfl (VQ.op (fun wq eq => R.ld1 Tryd.isAgg27 rfl (((((hL6.sl).ext eq).row (i := ((i : Int) - 1).toNat) (by omega)).cell (i := 0) rfl))) (VQ.gT rfl rfl (VQ.op (fun wq eq => R.ixS Tryd.runUnderlying27 Tryd.sizeOf3 rfl rfl (by have := grp_ne (r := Cm) (n := N) (i := ((i : Int) - 1).toNat) (by omega); rw [← hzi _ (by omega)] at this; omega) (by have := grp_ne (r := Cm) (n := N) (i := ((i : Int) - 1).toNat) (by omega); rw [← hzi _ (by omega)] at this; omega) ((hL6.at (i := ((i : Int) - 1).toNat) (by omega)).some (i := 0) (by rw [hzi _ (by omega)]; exact grp_ne (by omega)))) (VQ.gT rfl rfl (VQ.op (fun wq eq => R.ld1 Tryd.isAgg3 rfl (((((hL6.at (i := ((i : Int) - 1).toNat) (by omega)).ext eq).row (i := 0) (by rw [hzi _ (by omega)]; exact grp_ne (by omega))).cell (i := 0) rfl))) (VQ.gT rfl rfl (VQ.op (fun wq eq => R.lit (R.leq rfl rfl) ((decide_eq_false (by
          have h1 := grp_up hIC.le (show 0 < i by omega) hih
          rw [hzi i hil, hzi _ (show ((i : Int) - 1).toNat < z.1.length by omega), show ((i : Int) - 1).toNat = i - 1 by omega]
          omega)))) (VQ.gT rfl rfl (VQ.op (fun wq eq => R.pickTB rfl rfl) (VQ.op (fun wq eq => R.pickFB rfl rfl) (VQ.nil (cutB rfl ?_)))))))))))))))))))))))))))))))) (fun g16_19 => VQ.gF rfl rfl (VQ.gF rfl rfl (VQ.gF rfl rfl (VQ.gF rfl rfl (VQ.gF rfl rfl (VQ.gF rfl rfl (VQ.gF rfl rfl (VQ.gF rfl rfl (VQ.gF rfl rfl (VQ.gF rfl rfl (VQ.gF rfl rfl (VQ.gF rfl rfl (VQ.gF rfl rfl (VQ.gT rfl rfl (VQ.op (fun wq eq => R.pickFB rfl rfl) (VQ.op (fun wq eq => R.pickFB rfl rfl) (VQ.nil (cutB rfl ?_)))))))))))))))))))))))))))))))))))))))))))))))))) (fun rg16 w16c e16c => V.cond rfl (fun c88 => V.seq (V.region (VL.op (R.asB rfl) (VL.nil (V.ret (fret1 (v := .bool _) rfl rfl rfl (?_))))))) (fun c88 => V.skip (V.seq (?_))))
      · rfl
      · rfl
      · nomatch c88
      · have e16 := e16c
        refine V.region (VL.op (R.asI rfl) (VL.nil (V.block (?_))))
        refine V.loop [1, 2, 5, 6, 7, 9, 10, 11] (fun x : Nat × List Int => [.slice ca cls.length cc, .pointer (some ⟨b0_0, 0, none⟩), .bool true, .slice z.2.1 z.1.length z.2.2, .slice (some ⟨b7, 0, none⟩) N N, .int .i64 ((seenD Cm N i x.1).length : Nat), .int .i64 (i : Nat), .int .i64 (x.1 : Nat)]) (fun x w' => x.1 ≤ (z.1.getD i default).l.length ∧ WJ w5_1 b7 N Cm x.2 (seenD Cm N i x.1) w') (fun x => (z.1.getD i default).l.length - x.1) (0, W) rfl ⟨Nat.zero_le _, ⟨hJ.o.ext e16, hJ.len, hJ.val, hJ.e.trans e16⟩⟩ ?_
        rintro ρ ⟨k, W2⟩ w8 ⟨hk, hJ2⟩
        dsimp only at hk hJ2 ⊢
        have hL8 := hL5.ext hJ2.e
        have hx8 := hL8.at hil
        have hl2 := hJ2.len
        refine V.seq (V.seq (V.region (VL.op (R.mvI rfl) (VL.op (R.mvS rfl) (VL.op (R.mvI rfl) (VL.op (R.ixS Tryd.runUnderlying22 Tryd.sizeOf27 rfl rfl (by omega) (by omega) ((hL8.sl).some (i := i) (by omega))) (VL.op (R.ld1 Tryd.isAgg27 rfl (((((hL8.sl).ext (Mod.refl _ _)).row (i := i) (by omega)).cell (i := 0) rfl))) (VL.op (R.lenS Tryd.runUnderlying27 rfl) (VL.op (R.lss rfl rfl) (VL.nil (V.condP rfl (fun c95 => V.skip (V.seq (V.block (V.seq (V.seq (?_)))))) (fun c95 => V.exit (V.region (VL.op (R.mvI rfl) (VL.op (R.add rfl rfl (by omega) (by omega)) (VL.op (R.asI rfl) (VL.nil (?_))))))))))))))))))
        · have hkl : k < (z.1.getD i default).l.length := by omega
          have hkg : k < ((grpsK Cm N).getD i default).length := by rw [← hxi]; exact hkl
          have hvm : ((z.1.getD i default).l.getD k default) ∈ (grpsK Cm N).getD i default := by rw [← hxi]; exact gmem hkl
          have hvr := (grp_mem hih).1 hvm
          have hsl := seen_le (k := k) hIC.le hIC.idem hih
          have hvp := grp_pos hih hvm
          have hvn : ((z.1.getD i default).l.getD k default) ∉ seenD Cm N i k := by have := seen_new hih hkg; rwa [← hxi] at this
          have hwv : W2.getD ((z.1.getD i default).l.getD k default).toNat default = -1 := by
            rw [hJ2.val _ (by omega), if_neg]
            rw [show ((((z.1.getD i default).l.getD k default).toNat : Nat) : Int) = ((z.1.getD i default).l.getD k default) by omega]; exact hvn
          refine V.region (VL.op (R.mvS rfl) (VL.op (R.mvS rfl) (VL.op (R.mvI rfl) (VL.op (R.ixS Tryd.runUnderlying22 Tryd.sizeOf27 rfl rfl (by omega) (by omega) ((hL8.sl).some (i := i) (by omega))) (VL.op (R.ld1 Tryd.isAgg27 rfl (((((hL8.sl).ext (Mod.refl _ _)).row (i := i) (by omega)).cell (i := 0) rfl))) (VL.op (R.mvI rfl) (VL.op (R.ixS Tryd.runUnderlying27 Tryd.sizeOf3 rfl rfl (by omega) (by omega) ((hx8).some (i := k) (by omega))) (VL.op (R.ld1 Tryd.isAgg3 rfl (((((hx8).ext (Mod.refl _ _)).row (i := k) (by omega)).cell (i := 0) rfl))) (VL.op (R.ixS Tryd.runUnderlying27 Tryd.sizeOf3 rfl rfl (by omega) (by omega) ((hJ2.o.sl).some (i := ((z.1.getD i default).l.getD k default).toNat) (by omega))) (VL.op (R.ld1 Tryd.isAgg3 rfl (((((hJ2.o.sl).ext (Mod.refl _ _)).row (i := ((z.1.getD i default).l.getD k default).toNat) (by omega)).cell (i := 0) rfl))) (VL.op (R.lit (R.geq rfl rfl) ((decide_eq_false (by rw [hwv]; decide)))) (VL.nil (V.condF rfl (V.skip (V.seq (V.region (VL.op (R.mvS rfl) (VL.op (R.mvS rfl) (VL.op (R.mvI rfl) (VL.op (R.ixS Tryd.runUnderlying22 Tryd.sizeOf27 rfl rfl (by omega) (by omega) ((hL8.sl).some (i := i) (by omega))) (VL.op (R.ld1 Tryd.isAgg27 rfl (((((hL8.sl).ext (Mod.refl _ _)).row (i := i) (by omega)).cell (i := 0) rfl))) (VL.op (R.mvI rfl) (VL.op (R.ixS Tryd.runUnderlying27 Tryd.sizeOf3 rfl rfl (by omega) (by omega) ((hx8).some (i := k) (by omega))) (VL.op (R.ld1 Tryd.isAgg3 rfl (((((hx8).ext (Mod.refl _ _)).row (i := k) (by omega)).cell (i := 0) rfl))) (VL.op (R.mvI rfl) (VL.op (R.ixS Tryd.runUnderlying27 Tryd.sizeOf3 rfl rfl (by omega) (by omega) ((hJ2.o.sl).some (i := ((z.1.getD i default).l.getD k default).toNat) (by omega))) (VL.ownSt eltI (v := .int _ _) Tryd.sizeOf3 (hJ2.o) ((z.1.getD i default).l.getD k default).toNat 0 ((i : Nat) : Int) rfl rfl (by omega) rfl rfl rfl rfl rfl fun w23 ho23 m23 hs23 => VL.nil (V.region (VL.op (R.mvI rfl) (VL.op (R.add rfl rfl (by omega) (by omega)) (VL.op (R.asI rfl) (VL.nil (V.region (VL.op (R.mvI rfl) (VL.op (R.add rfl rfl (by omega) (by omega)) (VL.op (R.asI rfl) (VL.nil (?_))))))))))))))))))))))))))))))))))))))
          refine ⟨(k + 1, W2.set ((z.1.getD i default).l.getD k default).toNat ((i : Nat) : Int)), by dsimp only; rw [seen_len_next hkg]; rfl, ⟨by dsimp only; omega, ho23, by simp [hl2], fun v hv => ?_, hJ2.e.ownA m23 fun q hq => hJ2.o.ge q hq⟩, by dsimp only; omega⟩
          dsimp only
          rw [seen_next hkg, ← hxi]
          by_cases e : v = ((z.1.getD i default).l.getD k default).toNat
          · have e2 : ((v : Nat) : Int) = ((z.1.getD i default).l.getD k default) := by omega
            rw [e, setD_eq _ (by omega), ← e, e2, if_pos (by rw [List.mem_append]; right; exact List.mem_singleton.2 rfl), hvp]
          · have e2 : ¬ ((v : Nat) : Int) = ((z.1.getD i default).l.getD k default) := by omega
            rw [setD_ne _ e, hJ2.val v hv]
            by_cases h : ((v : Nat) : Int) ∈ seenD Cm N i k
            · rw [if_pos h, if_pos (by rw [List.mem_append]; exact .inl h)]
            · rw [if_neg h, if_neg (by rw [List.mem_append, List.mem_singleton]; exact fun hh => hh.elim h e2)]
        · have hke : k = (z.1.getD i default).l.length := by omega
          subst hke
          have hr := seen_row hih
          rw [← hxi] at hr
          exact ⟨(i + 1, W2), by dsimp only; rw [hr]; rfl, ⟨by dsimp only; omega, by dsimp only; rw [hr]; exact hJ2⟩, by dsimp only; omega⟩
    · have hie : i = (hdsK Cm N).length := by omega
      subst hie
      exact ⟨(W, (seenD Cm N (hdsK Cm N).length 0).length), rfl, hJ, (seen_all hIC.le hIC.idem).1⟩
  obtain ⟨hJ, hcn⟩ := hBB2
  obtain ⟨W, cn⟩ := xB2
  dsimp only at hJ hcn ⊢
  subst hcn
  have hsa := (seen_all hIC.le hIC.idem).2
  have hWp : ∀ v : Int, 0 ≤ v → v < (cn : Int) → W.getD v.toNat default = (posD Cm cn v : Int) := fun v h0 h1 => by
    rw [hJ.val v.toNat (by omega), if_pos (hsa v.toNat (by omega)), show ((v.toNat : Nat) : Int) = v by omega]
  have hbB := hb5.ext hJ.e
  have hlW := hJ.len
  have hE20 := hgl.e
  have hed : ∀ i, i < g.edges.length → ∀ y ∈ (g.edges.getD i default).l, 0 ≤ y ∧ y < (cn : Int) := fun i hi y hy => by
    have := ((validG_iff.1 hv).2.2.1 _ (List.mem_map_of_mem (gmem hi))).2.2 y hy
    rw [show (grV g).n = g.n from rfl, hN] at this; exact this
  have hsame : ∀ i, i < g.edges.length → ∀ a ∈ (g.edges.getD i default).l, ∀ b ∈ (g.edges.getD i default).l, Cm a.toNat = Cm b.toNat := fun i hi a ha b hb => prsE_same.1 hIC.join _ (List.mem_map_of_mem (gmem hi)) a ha b hb
  refine V.region (VL.op (R.mvI rfl) (VL.op (R.fld' (o := 0) Tryd.runUnderlying33 rfl rfl Tryd.sizeOf3 rfl rfl) (VL.op (R.ld1 Tryd.isAgg3 rfl ((show wBB2.cell? ⟨b0_0, 0, none⟩ = some (Value.int .i64 ((cn : Nat) : Int)) from by rw [← hN]; exact (hbB).cell 0))) (VL.op (R.lit (R.neq rfl rfl) ((decide_eq_false (fun h => h rfl)))) (VL.nil (V.condF rfl (V.skip (V.seq (V.region (VL.op (R.mvS rfl) (VL.op (R.lenS Tryd.runUnderlying41 rfl) (VL.op (R.fld' (o := 0) Tryd.runUnderlying33 rfl rfl Tryd.sizeOf3 rfl rfl) (VL.op (R.ld1 Tryd.isAgg3 rfl ((show World.cell? _ ⟨b0_0, 0, none⟩ = some (Value.int .i64 ((cn : Nat) : Int)) from by rw [← hN]; exact (hbB.ext (Mod.refl _ _)).cell 0))) (VL.op (R.geq rfl rfl) (VL.op (R.asB rfl) (VL.nil (V.cut [1, 2, 5, 6, 12] (fun kp : Bool => [.slice ca cls.length cc, .pointer (some ⟨b0_0, 0, none⟩), .bool true, .slice z.2.1 z.1.length z.2.2, .bool kp]) (fun kp w' => (kp = true → cn ≤ cls.length ∧ ∀ j, j < g.edges.length → ∀ m, m < (g.edges.getD j default).l.length → cls.getD ((g.edges.getD j default).l.getD m default).toNat default = cls.getD ((g.edges.getD j default).l.getD 0 default).toNat default) ∧ Ext wBB2 w') (V.seq (V.region (VL.op (R.asI rfl) (VL.nil (V.block (?_)))))) (fun rgB6 xB6 wBB6 hBB6 => V.seq (V.seq (?_))))))))))))))))))))
  · refine V.loop [1, 2, 5, 6, 7, 12, 13] (fun x : Nat × Bool => [.slice ca cls.length cc, .pointer (some ⟨b0_0, 0, none⟩), .bool true, .slice z.2.1 z.1.length z.2.2, .slice (some ⟨b7, 0, none⟩) cn cn, .bool x.2, .int .i64 (x.1 : Nat)]) (fun x w' => x.1 ≤ g.edges.length ∧ (x.2 = true → cn ≤ cls.length ∧ ∀ j, j < x.1 → ∀ m, m < (g.edges.getD j default).l.length → cls.getD ((g.edges.getD j default).l.getD m default).toNat default = cls.getD ((g.edges.getD j default).l.getD 0 default).toNat default) ∧ Ext wBB2 w') (fun x => g.edges.length - x.1) (0, decide (((cls.length : Nat) : Int) ≥ ((cn : Nat) : Int))) rfl ⟨Nat.zero_le _, fun h => ⟨by have := of_decide_eq_true h; omega, fun j hj => absurd hj (Nat.not_lt_zero j)⟩, Vc.Mod.refl _ _⟩ ?_
    rintro ρ ⟨i, kp⟩ w6 ⟨hi, hkp, e6⟩
    dsimp only at hi hkp e6 ⊢
    have hb6 := hbB.ext e6
    refine V.seq (V.seq (V.region (VL.op (R.mvI rfl) (VL.op (R.fld' (o := 2) Tryd.runUnderlying33 rfl rfl Tryd.sizeOf22 rfl rfl) (VL.op (R.ld1 Tryd.isAgg22 rfl ((show w6.cell? ⟨b0_0, 2, none⟩ = some (Value.slice g.ea g.edges.length g.ec) from (hb6).cell 2))) (VL.op (R.lenS Tryd.runUnderlying22 rfl) (VL.op (R.lss rfl rfl) (VL.nil (V.condP rfl (fun c134 => V.skip (V.seq (V.block (V.seq (?_))))) (fun c134 => V.exit (?_)))))))))))
    · have hil : i < g.edges.length := by omega
      refine V.region (VL.op (R.asI rfl) (VL.nil (V.block (?_))))
      refine V.loop [1, 2, 5, 6, 7, 12, 13, 14] (fun x : Nat × Bool => [.slice ca cls.length cc, .pointer (some ⟨b0_0, 0, none⟩), .bool true, .slice z.2.1 z.1.length z.2.2, .slice (some ⟨b7, 0, none⟩) cn cn, .bool x.2, .int .i64 (i : Nat), .int .i64 (x.1 : Nat)]) (fun x w' => 1 ≤ x.1 ∧ (x.2 = true → cn ≤ cls.length ∧ (∀ j, j < i → ∀ m, m < (g.edges.getD j default).l.length → cls.getD ((g.edges.getD j default).l.getD m default).toNat default = cls.getD ((g.edges.getD j default).l.getD 0 default).toNat default) ∧ ∀ m, m < x.1 → m < (g.edges.getD i default).l.length → cls.getD ((g.edges.getD i default).l.getD m default).toNat default = cls.getD ((g.edges.getD i default).l.getD 0 default).toNat default) ∧ Ext wBB2 w') (fun x => (g.edges.getD i default).l.length - x.1) (1, kp) rfl ⟨Nat.le_refl _, fun h => ⟨(hkp h).1, (hkp h).2, fun m h1 h2 => by rw [show m = 0 by omega]⟩, e6⟩ ?_
      rintro ρ ⟨k, kp2⟩ w8 ⟨hk1, hkp2, e8⟩
      dsimp only at hk1 hkp2 e8 ⊢
      have hb8 := hbB.ext e8
      have hE8 := ((hG5.ext hJ.e).ext e8).e
      have hx8 := hE8.at hil
      have hxe := hge _ (gmem hil)
      refine V.seq (V.seq (V.region (VL.op (R.mvI rfl) (VL.op (R.fld' (o := 2) Tryd.runUnderlying33 rfl rfl Tryd.sizeOf22 rfl rfl) (VL.op (R.ld1 Tryd.isAgg22 rfl ((show w8.cell? ⟨b0_0, 2, none⟩ = some (Value.slice g.ea g.edges.length g.ec) from (hb8).cell 2))) (VL.op (R.mvI rfl) (VL.op (R.ixS Tryd.runUnderlying22 Tryd.sizeOf27 rfl rfl (by omega) (by omega) ((hE8.sl).some (i := i) (by omega))) (VL.op (R.ld1 Tryd.isAgg27 rfl (((((hE8.sl).ext (Mod.refl _ _)).row (i := i) (by omega)).cell (i := 0) rfl))) (VL.op (R.lenS Tryd.runUnderlying27 rfl) (VL.op (R.lss rfl rfl) (VL.nil (V.condP rfl (fun c144 => V.skip (V.seq (V.block (V.seq (?_))))) (fun c144 => V.exit (V.region (VL.op (R.mvI rfl) (VL.op (R.add rfl rfl (by omega) (by omega)) (VL.op (R.asI rfl) (VL.nil (?_)))))))))))))))))))
      · have hkl : k < (g.edges.getD i default).l.length := by omega
        have hkl1 : ((k : Int) - 1).toNat < (g.edges.getD i default).l.length := by omega
        have hav := hed i hil _ (gmem hkl1)
        have hbv := hed i hil _ (gmem hkl)
        have hab := hsame i hil _ (gmem hkl1) _ (gmem hkl)
        have hww : W.getD ((g.edges.getD i default).l.getD ((k : Int) - 1).toNat default).toNat default = W.getD ((g.edges.getD i default).l.getD k default).toNat default := by
          rw [hWp _ hav.1 hav.2, hWp _ hbv.1 hbv.2]; unfold posD; rw [hab]
        have hW8 := (hJ.o.ext e8).sl
        have hC8 := hC5.ext (hJ.e.trans e8)
        have hx8b : ∀ {wq : World}, Ext w8 wq → IntSl wq (g.edges.getD i default).a (g.edges.getD i default).l := fun e => hx8.ext e
        cases kp2 with
        | false =>
          refine V.regionQ mixed 19 (by kernel_rfl) rfl (fun w' => Ext _ w') (Ext.drawn _) (VQ.op (fun wq eq => R.fld' (o := 2) Tryd.runUnderlying33 rfl rfl Tryd.sizeOf22 rfl rfl) (VQ.op (fun wq eq => R.ld1 Tryd.isAgg22 rfl ((show wq.cell? ⟨b0_0, 2, none⟩ = some (Value.slice g.ea g.edges.length g.ec) from (hb8.ext eq).cell 2))) (VQ.op (fun wq eq => R.mvI rfl) (VQ.op (fun wq eq => R.ixS Tryd.runUnderlying22 Tryd.sizeOf27 rfl rfl (by omega) (by omega) ((hE8.sl).some (i := i) (by omega))) (VQ.op (fun wq eq => R.ld1 Tryd.isAgg27 rfl (((((hE8.sl).ext eq).row (i := i) (by omega)).cell (i := 0) rfl))) (VQ.op (fun wq eq => R.mvI rfl) (VQ.op (fun wq eq => R.sub rfl rfl (by omega) (by omega)) (VQ.op (fun wq eq => R.ixS Tryd.runUnderlying27 Tryd.sizeOf3 rfl rfl (by omega) (by omega) ((hx8).some (i := ((k : Int) - 1).toNat) (by omega))) (VQ.op (fun wq eq => R.ld1 Tryd.isAgg3 rfl (((((hx8).ext eq).row (i := ((k : Int) - 1).toNat) (by omega)).cell (i := 0) rfl))) (VQ.op (fun wq eq => R.fld' (o := 2) Tryd.runUnderlying33 rfl rfl Tryd.sizeOf22 rfl rfl) (VQ.op (fun wq eq => R.ld1 Tryd.isAgg22 rfl ((show wq.cell? ⟨b0_0, 2, none⟩ = some (Value.slice g.ea g.edges.length g.ec) from (hb8.ext eq).cell 2))) (VQ.op (fun wq eq => R.mvI rfl) (VQ.op (fun wq eq => R.ixS Tryd.runUnderlying22 Tryd.sizeOf27 rfl rfl (by omega) (by omega) ((hE8.sl).some (i := i) (by omega))) (VQ.op (fun wq eq => R.ld1 Tryd.isAgg27 rfl (((((hE8.sl).ext eq).row (i := i) (by omega)).cell (i := 0) rfl))) (VQ.op (fun wq eq => R.mvI rfl) (VQ.op (fun wq eq => R.ixS Tryd.runUnderlying27 Tryd.sizeOf3 rfl rfl (by omega) (by omega) ((hx8).some (i := k) (by omega))) (VQ.op (fun wq eq => R.ld1 Tryd.isAgg3 rfl (((((hx8).ext eq).row (i := k) (by omega)).cell (i := 0) rfl))) (VQ.op (fun wq eq => R.asI rfl) (VQ.op (fun wq eq => R.asI rfl) (VQ.nil fun w34q e34q => VL.nil (V.seq (V.seq (V.regionQ mixed 9 (by kernel_rfl) rfl (fun w' => Ext _ w') (Ext.drawn _) (VQ.op (fun wq eq => R.mvS rfl) (VQ.op (fun wq eq => R.mvI rfl) (VQ.op (fun wq eq => R.ixS Tryd.runUnderlying27 Tryd.sizeOf3 rfl rfl (by omega) (by omega) (hW8.some (i := ((g.edges.getD i default).l.getD ((k : Int) - 1).toNat default).toNat) (by omega))) (VQ.op (fun wq eq => R.ld1 Tryd.isAgg3 rfl ((((hW8.ext (e34q.trans eq)).row (i := ((g.edges.getD i default).l.getD ((k : Int) - 1).toNat default).toNat) (by omega)).cell (i := 0) rfl))) (VQ.op (fun wq eq => R.mvS rfl) (VQ.op (fun wq eq => R.mvI rfl) (VQ.op (fun wq eq => R.ixS Tryd.runUnderlying27 Tryd.sizeOf3 rfl rfl (by omega) (by omega) (hW8.some (i := ((g.edges.getD i default).l.getD k default).toNat) (by omega))) (VQ.op (fun wq eq => R.ld1 Tryd.isAgg3 rfl ((((hW8.ext (e34q.trans eq)).row (i := ((g.edges.getD i default).l.getD k default).toNat) (by omega)).cell (i := 0) rfl))) (VQ.op (fun wq eq => R.lit (R.neq rfl rfl) ((decide_eq_false fun h => h hww))) (VQ.nil fun w35q e35q => VL.nil (V.condF rfl (V.skip (V.regionQ mixed 13 (by kernel_rfl) rfl (fun w' => Ext _ w') (Ext.drawn _) (VQ.op (fun wq eq => R.mvB rfl) (VQ.op (fun wq eq => R.mvB rfl) (VQ.gF rfl rfl (VQ.gF rfl rfl (VQ.gF rfl rfl (VQ.gF rfl rfl (VQ.gF rfl rfl (VQ.gF rfl rfl (VQ.gF rfl rfl (VQ.gF rfl rfl (VQ.gF rfl rfl (VQ.op (fun wq eq => R.pickFB rfl rfl) (VQ.op (fun wq eq => R.asB rfl) (VQ.nil fun w37q e37q => VL.nil (V.region (VL.op (R.mvI rfl) (VL.op (R.add rfl rfl (by omega) (by omega)) (VL.op (R.asI rfl) (VL.nil (⟨(k + 1, false), rfl, ⟨by dsimp only; omega, (fun h => by cases h), e8.trans ((e34q.trans e35q).trans e37q)⟩, by dsimp only; omega⟩))))))))))))))))))))))))))))))))))))))))))))))))))))))))
        | true =>
          obtain ⟨q1, q2, q3⟩ := hkp2 rfl
          refine V.regionQ mixed 19 (by kernel_rfl) rfl (fun w' => Ext _ w') (Ext.drawn _) (VQ.op (fun wq eq => R.fld' (o := 2) Tryd.runUnderlying33 rfl rfl Tryd.sizeOf22 rfl rfl) (VQ.op (fun wq eq => R.ld1 Tryd.isAgg22 rfl ((show wq.cell? ⟨b0_0, 2, none⟩ = some (Value.slice g.ea g.edges.length g.ec) from (hb8.ext eq).cell 2))) (VQ.op (fun wq eq => R.mvI rfl) (VQ.op (fun wq eq => R.ixS Tryd.runUnderlying22 Tryd.sizeOf27 rfl rfl (by omega) (by omega) ((hE8.sl).some (i := i) (by omega))) (VQ.op (fun wq eq => R.ld1 Tryd.isAgg27 rfl (((((hE8.sl).ext eq).row (i := i) (by omega)).cell (i := 0) rfl))) (VQ.op (fun wq eq => R.mvI rfl) (VQ.op (fun wq eq => R.sub rfl rfl (by omega) (by omega)) (VQ.op (fun wq eq => R.ixS Tryd.runUnderlying27 Tryd.sizeOf3 rfl rfl (by omega) (by omega) ((hx8).some (i := ((k : Int) - 1).toNat) (by omega))) (VQ.op (fun wq eq => R.ld1 Tryd.isAgg3 rfl (((((hx8).ext eq).row (i := ((k : Int) - 1).toNat) (by omega)).cell (i := 0) rfl))) (VQ.op (fun wq eq => R.fld' (o := 2) Tryd.runUnderlying33 rfl rfl Tryd.sizeOf22 rfl rfl) (VQ.op (fun wq eq => R.ld1 Tryd.isAgg22 rfl ((show wq.cell? ⟨b0_0, 2, none⟩ = some (Value.slice g.ea g.edges.length g.ec) from (hb8.ext eq).cell 2))) (VQ.op (fun wq eq => R.mvI rfl) (VQ.op (fun wq eq => R.ixS Tryd.runUnderlying22 Tryd.sizeOf27 rfl rfl (by omega) (by omega) ((hE8.sl).some (i := i) (by omega))) (VQ.op (fun wq eq => R.ld1 Tryd.isAgg27 rfl (((((hE8.sl).ext eq).row (i := i) (by omega)).cell (i := 0) rfl))) (VQ.op (fun wq eq => R.mvI rfl) (VQ.op (fun wq eq => R.ixS Tryd.runUnderlying27 Tryd.sizeOf3 rfl rfl (by omega) (by omega) ((hx8).some (i := k) (by omega))) (VQ.op (fun wq eq => R.ld1 Tryd.isAgg3 rfl (((((hx8).ext eq).row (i := k) (by omega)).cell (i := 0) rfl))) (VQ.op (fun wq eq => R.asI rfl) (VQ.op (fun wq eq => R.asI rfl) (VQ.nil fun w34q e34q => VL.nil (V.seq (V.seq (V.regionQ mixed 9 (by kernel_rfl) rfl (fun w' => Ext _ w') (Ext.drawn _) (VQ.op (fun wq eq => R.mvS rfl) (VQ.op (fun wq eq => R.mvI rfl) (VQ.op (fun wq eq => R.ixS Tryd.runUnderlying27 Tryd.sizeOf3 rfl rfl (by omega) (by omega) (hW8.some (i := ((g.edges.getD i default).l.getD ((k : Int) - 1).toNat default).toNat) (by omega))) (VQ.op (fun wq eq => R.ld1 Tryd.isAgg3 rfl ((((hW8.ext (e34q.trans eq)).row (i := ((g.edges.getD i default).l.getD ((k : Int) - 1).toNat default).toNat) (by omega)).cell (i := 0) rfl))) (VQ.op (fun wq eq => R.mvS rfl) (VQ.op (fun wq eq => R.mvI rfl) (VQ.op (fun wq eq => R.ixS Tryd.runUnderlying27 Tryd.sizeOf3 rfl rfl (by omega) (by omega) (hW8.some (i := ((g.edges.getD i default).l.getD k default).toNat) (by omega))) (VQ.op (fun wq eq => R.ld1 Tryd.isAgg3 rfl ((((hW8.ext (e34q.trans eq)).row (i := ((g.edges.getD i default).l.getD k default).toNat) (by omega)).cell (i := 0) rfl))) (VQ.op (fun wq eq => R.lit (R.neq rfl rfl) ((decide_eq_false fun h => h hww))) (VQ.nil fun w35q e35q => VL.nil (V.condF rfl (V.skip (V.regionQ mixed 13 (by kernel_rfl) rfl (fun w' => Ext _ w') (Ext.drawn _) (VQ.op (fun wq eq => R.mvB rfl) (VQ.op (fun wq eq => R.mvB rfl) (VQ.gT rfl rfl (VQ.op (fun wq eq => R.mvS rfl) (VQ.gT rfl rfl (VQ.op (fun wq eq => R.mvI rfl) (VQ.gT rfl rfl (VQ.op (fun wq eq => R.ixS Tryd.runUnderlying41 Tryd.sizeOf5 rfl rfl (by omega) (by omega) (hC8.some (i := ((g.edges.getD i default).l.getD ((k : Int) - 1).toNat default).toNat) (by omega))) (VQ.gT rfl rfl (VQ.op (fun wq eq => R.ld1 Tryd.isAgg5 rfl ((((hC8.ext ((e34q.trans e35q).trans eq)).row (i := ((g.edges.getD i default).l.getD ((k : Int) - 1).toNat default).toNat) (by omega)).cell (i := 0) rfl))) (VQ.gT rfl rfl (VQ.op (fun wq eq => R.mvS rfl) (VQ.gT rfl rfl (VQ.op (fun wq eq => R.mvI rfl) (VQ.gT rfl rfl (VQ.op (fun wq eq => R.ixS Tryd.runUnderlying41 Tryd.sizeOf5 rfl rfl (by omega) (by omega) (hC8.some (i := ((g.edges.getD i default).l.getD k default).toNat) (by omega))) (VQ.gT rfl rfl (VQ.op (fun wq eq => R.ld1 Tryd.isAgg5 rfl ((((hC8.ext ((e34q.trans e35q).trans eq)).row (i := ((g.edges.getD i default).l.getD k default).toNat) (by omega)).cell (i := 0) rfl))) (VQ.gT rfl rfl (VQ.op (fun wq eq => R.eql rfl rfl) (VQ.op (fun wq eq => R.pickTB rfl rfl) (VQ.op (fun wq eq => R.asB rfl) (VQ.nil fun w37q e37q => VL.nil (V.region (VL.op (R.mvI rfl) (VL.op (R.add rfl rfl (by omega) (by omega)) (VL.op (R.asI rfl) (VL.nil (⟨(k + 1, decide (cls.getD ((g.edges.getD i default).l.getD ((k : Int) - 1).toNat default).toNat default = cls.getD ((g.edges.getD i default).l.getD k default).toNat default)), rfl, ⟨by dsimp only; omega, fun h => ⟨q1, q2, fun m h1 h2 => ?_⟩, e8.trans ((e34q.trans e35q).trans e37q)⟩, by dsimp only; omega⟩)))))))))))))))))))))))))))))))))))))))))))))))))))))))))))))))))
          by_cases hmk : m = k
          · have h3 := of_decide_eq_true h
            rw [hmk, ← h3]
            exact q3 ((k : Int) - 1).toNat (by omega) hkl1
          · exact q3 m (by dsimp only at h1; omega) h2
      · exact ⟨(i + 1, kp2), rfl, ⟨by dsimp only; omega, fun h => ⟨(hkp2 h).1, fun j hj m hm => by
          by_cases hji : j = i
          · rw [hji] at hm ⊢; exact (hkp2 h).2.2 m (by omega) hm
          · exact (hkp2 h).2.1 j (by dsimp only at hj; omega) m hm⟩, e8⟩, by dsimp only; omega⟩
    · have hie : i = g.edges.length := by omega
      subst hie
      exact ⟨kp, rfl, hkp, e6⟩
  obtain ⟨hkp, e6⟩ := hBB6
  cases xB6 with
  | false =>
    refine V.region (VL.op (R.asI rfl) (VL.nil (V.block (?_))))
    refine V.loop [1, 5, 6, 12, 17] (fun i : Nat => [.slice ca cls.length cc, .bool true, .slice z.2.1 z.1.length z.2.2, .bool false, .int .i64 (i : Nat)]) (fun i w' => i ≤ z.1.length ∧ Ext wBB2 w') (fun i => z.1.length - i) 0 rfl ⟨Nat.zero_le _, e6⟩ ?_
    rintro ρ i w8 ⟨hi, e8⟩
    refine V.seq (V.seq (V.region (VL.op (R.mvI rfl) (VL.op (R.mvS rfl) (VL.op (R.lenS Tryd.runUnderlying22 rfl) (VL.op (R.lss rfl rfl) (VL.op (R.mvB rfl) (VL.andP rfl rfl (fun g39_4 => VL.op (R.mvB rfl) (VL.op (R.pickTB rfl rfl) (VL.nil (V.condF rfl (V.exit (V.seq (V.region (VL.op (R.mvB rfl) (VL.op (R.asB rfl) (VL.nil (V.ret (fret1 (v := .bool _) rfl rfl rfl (⟨rfl, E5.trans (hJ.e.trans e8)⟩))))))))))))) (fun g39_4 => VL.op (R.pickFB rfl rfl) (VL.nil (V.condF rfl (V.exit (V.seq (V.region (VL.op (R.mvB rfl) (VL.op (R.asB rfl) (VL.nil (V.ret (fret1 (v := .bool _) rfl rfl rfl (⟨rfl, E5.trans (hJ.e.trans e8)⟩))))))))))))))))))))
  | true =>
    obtain ⟨q1, q2⟩ := hkp rfl
    have hjoin : ∀ p ∈ prsE (vals g.edges), cls.getD p.1 default = cls.getD p.2 default := fun p hp => by
      obtain ⟨e, he, v, hve, rfl⟩ := prsE_mem.1 hp
      obtain ⟨x, hx, rfl⟩ := List.mem_map.1 he
      obtain ⟨j, hj, hxj⟩ := List.getElem_of_mem hx
      rw [← gget hj] at hxj
      obtain ⟨m, hm, hvm⟩ := List.getElem_of_mem hve
      rw [← gget hm] at hvm
      have := q2 j hj m (by rw [hxj]; exact hm)
      rw [hxj, hvm] at this
      exact this.symm
    have hkeep : ∀ v : Int, 0 ≤ v → v < (cn : Int) → cls.getD (Cm v.toNat) default = cls.getD v.toNat default := fun v h0 h1 => by
      have := hIC.keep (fun i => if cls.getD i default = cls.getD v.toNat default then 1 else 0) (fun p hp => by rw [hjoin p hp]) v.toNat (by omega)
      rw [if_pos (show cls.getD v.toNat default = cls.getD v.toNat default from rfl)] at this
      by_cases h : cls.getD (Cm v.toNat) default = cls.getD v.toNat default
      · exact h
      · rw [if_neg h] at this; cases this
    refine V.region (VL.op (R.asI rfl) (VL.nil (V.block (?_))))
    refine V.loop [1, 5, 6, 12, 17] (fun i : Nat => [.slice ca cls.length cc, .bool true, .slice z.2.1 z.1.length z.2.2, .bool true, .int .i64 (i : Nat)]) (fun i w' => i ≤ z.1.length ∧ Ext wBB2 w') (fun i => z.1.length - i) 0 rfl ⟨Nat.zero_le _, e6⟩ ?_
    rintro ρ i w8 ⟨hi, e8⟩
    refine V.seq (V.seq (V.region (VL.op (R.mvI rfl) (VL.op (R.mvS rfl) (VL.op (R.lenS Tryd.runUnderlying22 rfl) (VL.op (R.lss rfl rfl) (VL.op (R.mvB rfl) (VL.andP rfl rfl (fun g39_4 => VL.op (R.mvB rfl) (VL.op (R.pickTB rfl rfl) (VL.nil (V.condT rfl (V.skip (V.seq (V.block (V.seq (?_))))))))) (fun g39_4 => VL.op (R.pickFB rfl rfl) (VL.nil (V.condF rfl (V.exit (V.seq (V.region (VL.op (R.mvB rfl) (VL.op (R.asB rfl) (VL.nil (V.ret (fret1 (v := .bool _) rfl rfl rfl (⟨rfl, E5.trans (hJ.e.trans e8)⟩))))))))))))))))))))
    have hil : i < z.1.length := by omega
    have hih : i < (hdsK Cm cn).length := by omega
    have hxi := hzi i hil
    have hxp : 0 < (z.1.getD i default).l.length := by rw [hxi]; exact grp_ne hih
    have hxn := hzn i hil
    refine V.region (VL.op (R.asI rfl) (VL.nil (V.block (?_))))
    refine V.loop [1, 5, 6, 12, 17, 18] (fun k : Nat => [.slice ca cls.length cc, .bool true, .slice z.2.1 z.1.length z.2.2, .bool true, .int .i64 (i : Nat), .int .i64 (k : Nat)]) (fun k w' => k ≤ (z.1.getD i default).l.length ∧ Ext wBB2 w') (fun k => (z.1.getD i default).l.length - k) 0 rfl ⟨Nat.zero_le _, e8⟩ ?_
    rintro ρ k w9 ⟨hk, e9⟩
    have hL9 := hL5.ext (hJ.e.trans e9)
    have hx9 := hL9.at hil
    have hC9 := hC5.ext (hJ.e.trans e9)
    refine V.seq (V.seq (V.region (VL.op (R.mvI rfl) (VL.op (R.mvS rfl) (VL.op (R.mvI rfl) (VL.op (R.ixS Tryd.runUnderlying22 Tryd.sizeOf27 rfl rfl (by omega) (by omega) ((hL9.sl).some (i := i) (by omega))) (VL.op (R.ld1 Tryd.isAgg27 rfl (((((hL9.sl).ext (Mod.refl _ _)).row (i := i) (by omega)).cell (i := 0) rfl))) (VL.op (R.lenS Tryd.runUnderlying27 rfl) (VL.op (R.lss rfl rfl) (VL.nil (V.condP rfl (fun c200 => V.skip (V.seq (V.block (V.seq (?_))))) (fun c200 => V.exit (V.region (VL.op (R.mvI rfl) (VL.op (R.add rfl rfl (by omega) (by omega)) (VL.op (R.asI rfl) (VL.nil (⟨i + 1, rfl, ⟨by omega, e9⟩, by omega⟩))))))))))))))))))
    have hkl : k < (z.1.getD i default).l.length := by omega
    have hvm : ((z.1.getD i default).l.getD k default) ∈ (grpsK Cm cn).getD i default := by rw [← hxi]; exact gmem hkl
    have hum : ((z.1.getD i default).l.getD 0 default) ∈ (grpsK Cm cn).getD i default := by rw [← hxi]; exact gmem hxp
    have hvr := (grp_mem hih).1 hvm
    have hur := (grp_mem hih).1 hum
    have hcc : cls.getD ((z.1.getD i default).l.getD k default).toNat default = cls.getD ((z.1.getD i default).l.getD 0 default).toNat default := by rw [← hkeep _ hvr.1 hvr.2.1, ← hkeep _ hur.1 hur.2.1, hvr.2.2, hur.2.2]
    refine V.regionQ mixed 20 (by kernel_rfl) rfl (fun w' => Ext _ w') (Ext.drawn _) (VQ.op (fun wq eq => R.mvS rfl) (VQ.op (fun wq eq => R.mvS rfl) (VQ.op (fun wq eq => R.mvI rfl) (VQ.op (fun wq eq => R.ixS Tryd.runUnderlying22 Tryd.sizeOf27 rfl rfl (by omega) (by omega) ((hL9.sl).some (i := i) (by omega))) (VQ.op (fun wq eq => R.ld1 Tryd.isAgg27 rfl (((((hL9.sl).ext eq).row (i := i) (by omega)).cell (i := 0) rfl))) (VQ.op (fun wq eq => R.mvI rfl) (VQ.op (fun wq eq => R.ixS Tryd.runUnderlying27 Tryd.sizeOf3 rfl rfl (by omega) (by omega) ((hx9).some (i := k) (by omega))) (VQ.op (fun wq eq => R.ld1 Tryd.isAgg3 rfl (((((hx9).ext eq).row (i := k) (by omega)).cell (i := 0) rfl))) (VQ.op (fun wq eq => R.ixS Tryd.runUnderlying41 Tryd.sizeOf5 rfl rfl (by omega) (by omega) (hC9.some (i := ((z.1.getD i default).l.getD k default).toNat) (by omega))) (VQ.op (fun wq eq => R.ld1 Tryd.isAgg5 rfl ((((hC9.ext eq).row (i := ((z.1.getD i default).l.getD k default).toNat) (by omega)).cell (i := 0) rfl))) (VQ.op (fun wq eq => R.mvS rfl) (VQ.op (fun wq eq => R.mvS rfl) (VQ.op (fun wq eq => R.mvI rfl) (VQ.op (fun wq eq => R.ixS Tryd.runUnderlying22 Tryd.sizeOf27 rfl rfl (by omega) (by omega) ((hL9.sl).some (i := i) (by omega))) (VQ.op (fun wq eq => R.ld1 Tryd.isAgg27 rfl (((((hL9.sl).ext eq).row (i := i) (by omega)).cell (i := 0) rfl))) (VQ.op (fun wq eq => R.ixS Tryd.runUnderlying27 Tryd.sizeOf3 rfl rfl (by omega) (by omega) (hx9.some (i := 0) hxp)) (VQ.op (fun wq eq => R.ld1 Tryd.isAgg3 rfl ((((hx9.ext eq).row (i := 0) hxp).cell (i := 0) rfl))) (VQ.op (fun wq eq => R.ixS Tryd.runUnderlying41 Tryd.sizeOf5 rfl rfl (by omega) (by omega) (hC9.some (i := ((z.1.getD i default).l.getD 0 default).toNat) (by omega))) (VQ.op (fun wq eq => R.ld1 Tryd.isAgg5 rfl ((((hC9.ext eq).row (i := ((z.1.getD i default).l.getD 0 default).toNat) (by omega)).cell (i := 0) rfl))) (VQ.op (fun wq eq => R.lit (R.neq rfl rfl) ((decide_eq_false fun h => h hcc))) (VQ.nil fun w44q e44q => VL.nil (V.condF rfl (V.skip (V.region (VL.op (R.mvI rfl) (VL.op (R.add rfl rfl (by omega) (by omega)) (VL.op (R.asI rfl) (VL.nil (⟨k + 1, rfl, ⟨by omega, e9.trans e44q⟩, by omega⟩)))))))))))))))))))))))))))))
theorem cells5 : Tryd.prog.cellsOf 5 = 1 := by kernel_rfl
theorem dec5 {H : Type} {enc : TypeId × Value → H} {w : World} {spare : Nat → Bool} {held : Bool} (n : Nat) (cs : List Value) (x : DataW H × List MemPlace) (h : DataW.trod enc Tryd.prog w 0 spare held n 5 cs = some x) : ∃ i, cs = encC i ∧ True := by
  obtain ⟨k, e1, _, _⟩ := DataW.trod_int Tryd.underlying5 h
  exact ⟨k, e1, trivial⟩
end Go.Proofs.YtoengpialdolbaaDoor
