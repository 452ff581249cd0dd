/- Repair: the reference: Sorted (of a list in order), List. -/
import Derived.Test.YtlnbkoojelhjdaaGreatDoorXR33
import Derived.Test.YtlnbkoojelhjdaaGreatDoorXR21
import Derived.Test.YtlnbkoojelhjdaaGreatDoorXR6
namespace Go.Proofs.YtlnbkoojelhjdaaGreatDoor
open Go.Vc
set_option maxRecDepth 100000
set_option maxHeartbeats 16000000
theorem sorted28_spec (a : Option Addr) (c : Nat) (L : List SlI) (w : World) (hax : a = none → c = 0) (hL : LL w a L) (hm : L.length ≤ 100000) (hx : ∀ x ∈ L, x.l.length ≤ 1000000) (hup : Up lexB (vals L)) :
  RetsX Tryz.prog 48 #[.slice a L.length c] w (fun x : Option Addr × Nat => .slice x.1 L.length x.2) (fun x w' => OwnT encSl 1 22 w.heap.size w' x.1 x.2 L) := by
 refine enter (args := [_]) Tryz.func48 rfl Tryz.ntmps48 (by kernel_rfl) rfl ?_
 refine V.seq (V.region (VL.op (R.asS rfl) (VL.nil (V.seq (V.region (VL.buildSl Tryz.runUnderlying23 Tryz.sizeOf22 Tryz.zeroValue22 rfl rfl rfl fun b1 w1 hb1 e1 hB1 => VL.op (R.mvS rfl) (VL.appendT el23 (fun _ => rfl) rfl (rfl) ((OwnT.of0 encSl 1 hB1 (Nat.le_of_eq hb1.symm))) rfl (rfl) ((hL.sl.ext e1)) (hax) (by simp; omega) (by simp [maxLen]; omega) e1.size (show 0 + L.length = ([] ++ L : List SlI).length by simp) fun a2 c2 w2 ho2 m2 hf2 => VL.op (R.asS rfl) (VL.nil (V.seq (V.seq (?_)))))))))))
 rw [List.nil_append] at ho2 ⊢
 have E2 : Ext w w2 := e1.ownA m2 fun q hq => by have := aBlk_some hq; omega
 have hL2 : LL w2 a2 L := ⟨OwnT.sl ho2, fun x hx => (hL.each x hx).ext E2⟩
 refine V.region (VL.op (R.asI rfl) (VL.nil (V.block (?_))))
 refine V.loop [3, 4] (fun i : Nat => [.slice a2 L.length c2, .int .i64 (i : Nat)]) (fun i w' => 1 ≤ i ∧ i ≤ L.length + 1 ∧ Ext w2 w') (fun i => L.length + 1 - i) 1 rfl ⟨Nat.le_refl _, by omega, Vc.Mod.refl _ _⟩ ?_
 rintro ρ i w3 ⟨hi1, hi, e3⟩
 have hL3 := hL2.ext e3
 refine V.seq (V.seq (V.region (VL.op (R.mvI rfl) (VL.op (R.mvS rfl) (VL.op (R.lenS Tryz.runUnderlying23 rfl) (VL.op (R.lss rfl rfl) (VL.nil (V.condP rfl (fun c13 => V.skip (V.seq (V.block (V.seq (?_))))) (fun c13 => V.exit (V.seq (V.region (VL.op (R.mvS rfl) (VL.op (R.asS rfl) (VL.nil (V.ret (fret1 (v := .slice _ _ _) rfl rfl rfl (⟨(a2, c2), rfl, ho2.ext e3, E2.trans e3⟩)))))))))))))))))
 have hil : i < L.length := by omega
 refine V.region (VL.op (R.mvI rfl) (VL.op (R.asI rfl) (VL.nil (V.block (?_)))))
 refine V.loop [3, 4, 5] (fun _ : Unit => [.slice a2 L.length c2, .int .i64 (i : Nat), .int .i64 (i : Nat)]) (fun _ w' => Ext w3 w') (fun _ => 0) () rfl (Vc.Mod.refl _ _) ?_
 rintro ρ2 _ w4 e4
 have hL4 := hL3.ext e4
 refine V.seq (V.seq (V.regionQCut mixed 14 (by kernel_rfl) rfl (fun w' => Ext _ w') (Ext.drawn _) [17, 18, 19, 20, 21, 22, 23, 24, 25, 26, 27, 28, 29, 30] 30 (.bool (false)) rfl (VQ.op (fun wq eq => R.mvI rfl) (VQ.op (fun wq eq => R.gtr rfl rfl) (VQ.op (fun wq eq => R.mvB rfl) (VQ.andP rfl rfl (fun g6_2 => VQ.op (fun wq eq => R.mvS rfl) (VQ.gT rfl rfl (VQ.op (fun wq eq => R.mvI rfl) (VQ.gT rfl rfl (VQ.op (fun wq eq => R.ixS Tryz.runUnderlying23 Tryz.sizeOf22 rfl rfl (by omega) (by omega) ((hL4.sl).some (i := i) (by omega))) (VQ.gT rfl rfl (VQ.op (fun wq eq => R.ld1 Tryz.isAgg22 rfl (((((hL4.sl).ext eq).row (i := i) (by omega)).cell (i := 0) rfl))) (VQ.gT rfl rfl (VQ.op (fun wq eq => R.mvS rfl) (VQ.gT rfl rfl (VQ.op (fun wq eq => R.mvI rfl) (VQ.gT rfl rfl (VQ.op (fun wq eq => R.sub rfl rfl (by omega) (by omega)) (VQ.gT rfl rfl (VQ.op (fun wq eq => R.ixS Tryz.runUnderlying23 Tryz.sizeOf22 rfl rfl (by omega) (by omega) ((hL4.sl).some (i := ((i : Int) - 1).toNat) (by omega))) (VQ.gT rfl rfl (VQ.op (fun wq eq => R.ld1 Tryz.isAgg22 rfl (((((hL4.sl).ext eq).row (i := ((i : Int) - 1).toNat) (by omega)).cell (i := 0) rfl))) (VQ.gT rfl rfl (VQ.callP (fun _ _ h k => Mod.trans h k) Tryz.call30 rfl (fun wq eq => (by
   have h1 : ((i : Int) - 1).toNat < i := by omega
   have := less28_spec (L.getD i default).a (L.getD ((i : Int) - 1).toNat default).a (L.getD i default).c (L.getD ((i : Int) - 1).toNat default).c (L.getD i default).l (L.getD ((i : Int) - 1).toNat default).l wq (by have := hx _ (gmem hil); omega) (by have := hx _ (gmem (show ((i : Int) - 1).toNat < L.length by omega)); omega) ((hL4.at hil).ext eq) ((hL4.at (by omega)).ext eq)
   rwa [lexB_sto.asym (up_at hup h1 hil)] at this)) (VQ.op (fun wq eq => R.pickTB rfl rfl) (VQ.nil (cutB rfl ?_)))))))))))))))))))))) (fun g6_2 => VQ.gF rfl rfl (VQ.gF rfl rfl (VQ.gF rfl rfl (VQ.gF rfl rfl (VQ.gF rfl rfl (VQ.gF rfl rfl (VQ.gF rfl rfl (VQ.gF rfl rfl (VQ.gF rfl rfl (VQ.op (fun wq eq => R.pickFB rfl rfl) (VQ.nil (cutB rfl ?_)))))))))))))))) (fun rg6 w6c e6c => V.cond rfl (fun c30 => V.skip (V.seq (V.block (V.seq (?_))))) (fun c30 => V.exit (V.region (VL.op (R.mvI rfl) (VL.op (R.add rfl rfl (by omega) (by omega)) (VL.op (R.asI rfl) (VL.nil (?_))))))))))
 ·rfl
 ·rfl
 ·nomatch c30
 ·exact ⟨i + 1, rfl, ⟨by omega, by omega, e3.trans (e4.trans e6c)⟩, by omega⟩
theorem narrow_len {g : Gr} {n : Nat} (hn : g.n = (n : Int)) (h : n ≤ 10) : (repsG g).length ≤ 1024 := by
 have h1 : (repsG g).length ≤ 2 ^ g.n.toNat := repK_len _ _ _ _
 have h2 : 2 ^ g.n.toNat ≤ 2 ^ 10 := Nat.pow_le_pow_right (by decide) (by omega)
 omega
theorem list28_spec (g : GrW) (w : World) (hG : GOk w g) (hl : GLen g) (hn : g.n ≤ 10) :
  RetsX Tryz.prog 16 #[.agg (encGr g).toArray] w (fun x : LsR => .tuple #[.slice x.a x.L.length x.c, .int .i64 x.e]) (fun x w' => LL w' x.a x.L ∧ (vals x.L, x.e) = listG (grV g)) := by
 refine enter (args := [_]) Tryz.func16 rfl Tryz.ntmps16 (by kernel_rfl) rfl ?_
 refine V.seq (V.region (VL.box (v := .agg _) rfl fun b0_0 w0_0 hb0_0 e0_0 hB0_0 => VL.op (R.asS rfl) (VL.op (R.asI rfl) (VL.nil (V.seq (V.seq (V.region (VL.op (R.ldA Tryz.isAgg25 Tryz.sizeOf25 rfl rfl ((show RowAt _ _ _ (encGr g) from (hB0_0.rowAt 0 3))) rfl) (VL.callP Tryz.call46 rfl (rvalid_spec g _ (hG.ext e0_0) hl) fun w1_1 e1_1 => VL.op (R.not rfl) (VL.nil (V.cond rfl (fun c7 => V.seq (V.region (VL.op (R.asS rfl) (VL.op (R.asI rfl) (VL.nil (V.ret (fret2 (v := .slice _ _ _) (x := .int _ _) rfl rfl rfl rfl rfl (?_)))))))) (fun c7 => V.skip (V.seq (?_))))))))))))))
 ·have hv : ¬ validG (grV g) = true := by simpa using c7
  refine ⟨⟨none, 0, [], 1⟩, rfl, ⟨⟨TSl.nil _ _ _ _, fun x hx => nomatch hx⟩, ?_⟩, e0_0.trans e1_1⟩
  unfold listG
  rw [if_neg hv]
  rfl
 have hv : validG (grV g) = true := by simpa using c7
 have hcb := costB_iff.1 (validG_iff.1 hv).1
 have hgn : (grV g).n = g.n := rfl
 obtain ⟨N, hN⟩ : ∃ N : Nat, g.n = (N : Int) := ⟨g.n.toNat, by have := hcb.1; omega⟩
 have hX1 : Blk w1_1 b0_0 (.cells (Value.agg (encGr g).toArray).cells 25 (0, 0)) := hB0_0.ext e1_1
 have E1 := e0_0.trans e1_1
 refine V.region (VL.op (R.ldA Tryz.isAgg25 Tryz.sizeOf25 rfl rfl ((show RowAt _ _ _ (encGr g) from hX1.rowAt 0 3)) rfl) (VL.callX Tryz.call47 rfl (all28_spec g N hl hv hN (by omega) N 0 (by omega) none 0 [] w1_1 (hG.ext E1) (TSl.nil _ _ _ _) (TyA.none _ _) (fun _ => rfl) (setB_iff.2 ⟨List.Pairwise.nil, fun x hx => nomatch hx⟩) (loadB_iff.1 (load_nil hv)).2.2) fun y w3 h3 e3 => VL.op (R.asS rfl) (VL.nil (V.seq (V.seq (?_))))))
 rw [allR_reps hv hN] at h3
 have hlen := h3.len
 have hle := narrow_len (g := grV g) hN (by omega)
 by_cases hb : (repsG (grV g)).length ≤ 1000
 ·refine V.region (VL.op (R.mvS rfl) (VL.op (R.lenS Tryz.runUnderlying23 rfl) (VL.op (R.lit (R.gtr rfl rfl) ((decide_eq_false (by omega)))) (VL.nil (V.condF rfl (V.skip (V.seq (?_))))))))
  have hxl : ∀ x ∈ y.1, x.l.length ≤ 1000000 := fun x hx => by
   have : x.l ∈ repsG (grV g) := by rw [← h3.v]; exact List.mem_map_of_mem hx
   have := rep_len ((reps_mem hv).1 this) hcb.1
   omega
  have hL3 : LL w3 y.2.1 y.1 := ⟨OwnT.sl h3.o, fun x hx => (h3.e x hx).s⟩
  refine V.region (VL.op (R.mvS rfl) (VL.callX Tryz.call48 rfl (sorted28_spec y.2.1 y.2.2 y.1 w3 (OwnT.hax h3.o) hL3 (by omega) hxl (by rw [h3.v]; exact reps_up hv)) fun s w6 h6 e6 => VL.op (R.asS rfl) (VL.op (R.asI rfl) (VL.nil (V.ret (fret2 (v := .slice _ _ _) (x := .int _ _) rfl rfl rfl rfl rfl (?_)))))))
  refine ⟨⟨s.1, s.2, y.1, 0⟩, rfl, ⟨⟨OwnT.sl h6, fun x hx => (hL3.each x hx).ext e6⟩, ?_⟩, E1.trans (e3.trans e6)⟩
  unfold listG
  rw [if_pos hv, if_pos hb, ← h3.v]
 ·refine V.region (VL.op (R.mvS rfl) (VL.op (R.lenS Tryz.runUnderlying23 rfl) (VL.op (R.lit (R.gtr rfl rfl) ((decide_eq_true (by omega)))) (VL.nil (V.condT rfl (V.seq (V.region (VL.op (R.asS rfl) (VL.op (R.asI rfl) (VL.nil (V.ret (fret2 (v := .slice _ _ _) (x := .int _ _) rfl rfl rfl rfl rfl (?_)))))))))))))
  refine ⟨⟨none, 0, [], 3⟩, rfl, ⟨⟨TSl.nil _ _ _ _, fun x hx => nomatch hx⟩, ?_⟩, E1.trans e3⟩
  unfold listG
  rw [if_pos hv, if_neg hb]
  rfl
end Go.Proofs.YtlnbkoojelhjdaaGreatDoor
