/- Proof: a decision on a vertex. -/
import Derived.Test.YtmglkjigmcikdaaGreatDoorXP5
import Derived.Test.YtmglkjigmcikdaaGreatDoorXVcDefer
namespace Go.Proofs.YtmglkjigmcikdaaGreatDoor
open Go.Vc
set_option maxRecDepth 100000
set_option maxHeartbeats 16000000
structure RgK (x : CkX) (st : List Int) (r : Option (List Bool)) (w : World) (sn : List Bool) (w' : World) : Prop where
 r : ∀ s2, r = some s2 → s2 = sn
 l : sn.length = x.S.length
 ok : CkOk x w' st sn
 m : Vc.Mod x.TN w w'
theorem CkOk.put {x : CkX} {w w' : World} {st : List Int} {sn : List Bool} (h : CkOk x w st sn) {v : Nat} {k : Int} (ho : OwnT Vc.encI 1 3 0 w' (some ⟨x.tb, 0, none⟩) st.length (st.set v k)) (m : Vc.Mod (aBlk (some ⟨x.tb, 0, none⟩)) w w') : CkOk x w' (st.set v k) sn ∧ Vc.Mod x.TN w w' := by
 have m2 : Vc.Mod x.TN w w' := m.weaken fun q _ hq => .inl (aBlk_some hq)
 exact ⟨h.turn m2 ho (h.n.mod m fun q h1 h2 => h.tn ((aBlk_some h2).symm.trans (aBlk_some h1))) (List.length_set) rfl, m2⟩
theorem undo_spec (x : CkX) (b1 b2 : Nat) (v : Int) (st : List Int) (sn : List Bool) (w : World) (h : CkOk x w st sn) (hb1 : PtC w b1 x) (hb2 : NuB w b2 v) (hv0 : 0 ≤ v) (hv1 : v < (st.length : Int)) :
  RetsD Tryz.prog 96 [Value.pointer (some ⟨b1, 0, none⟩), Value.pointer (some ⟨b2, 0, none⟩)].toArray w (fun w' => CkOk x w' (st.set v.toNat 0) sn ∧ Vc.Mod x.TN w w') := by
 refine enterDef (args := [_, _]) Tryz.func96 rfl Tryz.ntmps96 (by kernel_rfl) rfl ?_
 refine V.regionQ mixed 6 (by kernel_rfl) rfl (fun w' => Ext _ w') (Ext.drawn _) (VQ.op (fun wq eq => R.ld1 Tryz.isAgg61 rfl ((show _ = some (Value.pointer (some ⟨x.p, 0, none⟩)) from (hb1.ext eq).cell 0))) (VQ.op (fun wq eq => R.nilCheck rfl) (VQ.op (fun wq eq => R.fld' (o := 7) Tryz.runUnderlying80 rfl rfl Tryz.sizeOf22 rfl rfl) (VQ.op (fun wq eq => R.ld1 Tryz.isAgg22 rfl ((show _ = some (Value.slice (some ⟨x.tb, 0, none⟩) st.length st.length) from (h.blk.ext eq).cell 7))) (VQ.op (fun wq eq => R.ld1 Tryz.isAgg3 rfl ((show _ = some (Value.int .i64 v) from (hb2.ext eq).cell 0))) (VQ.op (fun wq eq => R.ixS Tryz.runUnderlying22 Tryz.sizeOf3 rfl rfl (by omega) (by omega) (h.t.sl.some (i := v.toNat) (by omega))) (VQ.nil fun w0q e0q => VL.ownSt eltI (v := .int _ _) Tryz.sizeOf3 ((h.t.ext e0q)) v.toNat 0 0 rfl rfl (by omega) rfl rfl rfl rfl rfl fun w1 ho1 m1 hs1 => VL.nil (fend0 rfl (?_)))))))))
 obtain ⟨k1, k2⟩ := (h.ext e0q).put ho1 m1
 exact ⟨k1, (e0q.weaken fun _ _ h => h.elim).then k2 fun _ _ h => h⟩
theorem decide_spec (x : CkX) (N : Nat) (v what : Int) (step : Nat) (st : List Int) (sn : List Bool) (w : World) (RR : List Int → List Bool → Option (List Bool)) (h : CkOk x w st sn) (hst : st.length = N) (hsn : sn.length = x.S.length) (hv0 : 0 ≤ v) (hv1 : v < (N : Int)) (hz : stA st v = 0)
  (hright : ∀ st' sn' w', CkOk x w' st' sn' → st'.length = N → sn'.length = x.S.length → RetsY Tryz.prog 62 #[.pointer (some ⟨x.p, 0, none⟩), .int .i64 (step : Nat)] w' (fun _ : List Bool => .bool (RR st' sn').isSome) (RgK x st' (RR st' sn') w')) :
  RetsY Tryz.prog 80 #[.pointer (some ⟨x.p, 0, none⟩), .int .i64 v, .int .i64 what, .int .i64 (step : Nat)] w (fun _ : List Bool => .bool (RR (st.set v.toNat what) sn).isSome) (RgK x st (RR (st.set v.toNat what) sn) w) := by
 refine enterDf (args := [_, _, _, _]) Tryz.func80 rfl Tryz.ntmps80 rfl ?_
 refine DW.seqV (by kernel_rfl) (V.region (VL.box (v := .pointer _) rfl fun b0_0 w0_0 hb0_0 e0_0 hB0_0 => VL.box (v := .int _ _) rfl fun b0_1 w0_1 hb0_1 e0_1 hB0_1 => VL.op (R.asB rfl) (VL.nil (?_))))
 have h0 := h.ext (e0_0.trans e0_1)
 have hb0 : PtC w0_1 b0_0 x := hB0_0.ext e0_1
 refine DW.seqV (by kernel_rfl) (V.regionQ mixed 7 (by kernel_rfl) rfl (fun w' => Ext _ w') (Ext.drawn _) (VQ.op (fun wq eq => R.ld1 Tryz.isAgg61 rfl ((show _ = some (Value.pointer (some ⟨x.p, 0, none⟩)) from (hb0.ext eq).cell 0))) (VQ.op (fun wq eq => R.nilCheck rfl) (VQ.op (fun wq eq => R.fld' (o := 7) Tryz.runUnderlying80 rfl rfl Tryz.sizeOf22 rfl rfl) (VQ.op (fun wq eq => R.ld1 Tryz.isAgg22 rfl ((show _ = some (Value.slice (some ⟨x.tb, 0, none⟩) st.length st.length) from (h0.blk.ext eq).cell 7))) (VQ.op (fun wq eq => R.ld1 Tryz.isAgg3 rfl ((show _ = some (Value.int .i64 v) from (hB0_1.ext eq).cell 0))) (VQ.op (fun wq eq => R.mvI rfl) (VQ.op (fun wq eq => R.ixS Tryz.runUnderlying22 Tryz.sizeOf3 rfl rfl (by omega) (by omega) (h0.t.sl.some (i := v.toNat) (by omega))) (VQ.nil fun w1q e1q => VL.ownSt eltI (v := .int _ _) Tryz.sizeOf3 ((h0.t.ext e1q)) v.toNat 0 what rfl rfl (by omega) rfl rfl rfl rfl rfl fun w1 ho1 m1 hs1 => VL.nil (?_))))))))))
 obtain ⟨h1, m1'⟩ := (h0.ext e1q).put ho1 m1
 have hne : b0_0 ≠ x.tb ∧ b0_1 ≠ x.tb := by
  have h2 := h.t.lt x.tb ⟨_, rfl, rfl⟩
  have h3 := e0_0.size
  omega
 have hb1 : PtC w1 b0_0 x := (hb0.ext e1q).mod m1 fun hh => hne.1 (aBlk_some hh)
 have hc1 : NuB w1 b0_1 v := (hB0_1.ext e1q).mod m1 fun hh => hne.2 (aBlk_some hh)
 have hne2 : b0_0 ≠ x.nb ∧ b0_1 ≠ x.nb := by
  have h2 := h.n.lt x.nb ⟨_, rfl, rfl⟩
  have h3 := e0_0.size
  omega
 show DW _ _ _ _ [] _ _
 refine DW.region (by kernel_rfl) ?_
 refine DL.op (R.mkFn rfl rfl) ?_
 refine DL.deferW (R.deferC (Fv := []) (Cv := [Value.pointer (some ⟨b0_0, 0, none⟩), Value.pointer (some ⟨b0_1, 0, none⟩)]) (l := []) rfl rfl) ?_
 refine DW.retD ?_ (by kernel_rfl) ?_
 ·intro o ho
  simp only [List.mem_cons, List.not_mem_nil, or_false] at ho
  rcases ho with rfl | rfl | rfl | rfl
  ·exact .inl rfl
  ·exact .inl rfl
  ·exact .inr ⟨_, _, _, rfl, Tryz.call62⟩
  ·exact .inl rfl
 refine VL.op (R.ld1 Tryz.isAgg61 rfl ((show _ = some (Value.pointer (some ⟨x.p, 0, none⟩)) from hb1.cell 0))) (VL.op (R.mvI rfl) (VL.callY Tryz.call62 rfl (hright (st.set v.toNat what) sn w1 h1 (by rw [List.length_set]; exact hst) hsn) fun sn2 w2 h2 => VL.op (R.asB rfl) (VL.nil (?_))))
 refine ⟨rfl, leaves1 (Tryz.call96) (dargs := []) (cap := [Value.pointer (some ⟨b0_0, 0, none⟩), Value.pointer (some ⟨b0_1, 0, none⟩)]) rfl (undo_spec x b0_0 b0_1 v (st.set v.toNat what) sn2 w2 h2.ok (hb1.mod h2.m fun hh => hh.elim hne.1 hne2.1) (hc1.mod h2.m fun hh => hh.elim hne.2 hne2.2) hv0 (by rw [List.length_set]; omega)) fun w3 hK => ⟨.bool (RR (st.set v.toNat what) sn).isSome, res1 rfl rfl rfl, sn2, rfl, h2.r, h2.l, ?_, ?_⟩⟩
 ·have e : (st.set v.toNat what).set v.toNat 0 = st := by
   rw [List.set_set]
   refine List.ext_getElem (by simp) fun i hi1 hi2 => ?_
   rw [List.getElem_set]
   split
   ·rename_i e
    subst e
    unfold stA at hz
    rw [gget hi2] at hz
    exact hz.symm
   ·rfl
  rw [← e]
  exact hK.1
 ·exact ((((e0_0.trans e0_1).trans e1q).weaken fun _ _ h => h.elim).then m1' fun _ _ h => h).then (h2.m.then hK.2 fun _ _ h => h) fun _ _ h => h
end Go.Proofs.YtmglkjigmcikdaaGreatDoor

/- Proof: a branch. -/
namespace Go.Proofs.YtmglkjigmcikdaaGreatDoor
open Go.Vc
set_option maxRecDepth 100000
set_option maxHeartbeats 16000000
theorem RgK.weaken {x : CkX} {st : List Int} {r : Option (List Bool)} {w0 w : World} {sn : List Bool} {w' : World} (h : RgK x st r w sn w') (m : Vc.Mod x.TN w0 w) : RgK x st r w0 sn w' := ⟨h.r, h.l, h.ok, m.then h.m fun _ _ h => h⟩
def brO (c : PrfC) (f q : Nat) (s : List Int) (sn : List Bool) (x : St4) : Option (List Bool) :=
 if brA c s q x = true then (rightO c f x.i.toNat (s.set x.a.toNat 1) sn).bind fun sn2 => rightO c f x.o.toNat (s.set x.a.toNat 2) sn2 else none
theorem branch_spec (x : CkX) (N f q : Nat) (s : St4) (st : List Int) (sn : List Bool) (w : World) (h : CkOk x w st sn) (hR : CkR x N) (hst : st.length = N) (hsn : sn.length = x.S.length)
  (hright : ∀ q' st' sn' w', q < q' → q' < x.S.length → CkOk x w' st' sn' → st'.length = N → sn'.length = x.S.length → RetsY Tryz.prog 62 #[.pointer (some ⟨x.p, 0, none⟩), .int .i64 (q' : Nat)] w' (fun _ : List Bool => .bool (rightO x.ctx f q' st' sn').isSome) (RgK x st' (rightO x.ctx f q' st' sn') w')) :
  RetsY Tryz.prog 56 #[.pointer (some ⟨x.p, 0, none⟩), .int .i64 (q : Nat), .agg (encS4 s).toArray] w (fun _ : List Bool => .bool (brO x.ctx f q st sn s).isSome) (RgK x st (brO x.ctx f q st sn s) w) := by
 obtain ⟨sk, sa, si, so⟩ := s
 have hSl := hR.Sl
 have hn := hR.n
 have hN4 := hR.N4
 refine enter (args := [_, _, _]) Tryz.func56 rfl Tryz.ntmps56 (by kernel_rfl) rfl ?_
 refine V.seq (V.region (VL.box (v := .agg _) rfl fun b0_0 w0_0 hb0_0 e0_0 hB0_0 => VL.op (R.asB rfl) (VL.nil (V.seq (V.seq (?_))))))
 have h0 := h.ext e0_0
 have hbr : brA x.ctx st q ⟨sk, sa, si, so⟩ = decide (0 ≤ sa ∧ sa < x.g.n ∧ st.getD sa.toNat default = 0 ∧ (q : Int) < si ∧ (q : Int) < so ∧ si < (x.S.length : Int) ∧ so < (x.S.length : Int)) := rfl
 refine V.regionQCut mixed 46 (by kernel_rfl) rfl (fun w' => Ext _ w') (Ext.drawn _) [7, 8, 9, 10, 11, 12, 13, 14, 15, 16, 17, 18, 19, 20, 21, 22, 23, 24, 25, 26, 27, 28, 29, 30, 31, 32, 33, 34, 35, 36, 37, 38, 39, 40, 41, 42, 43, 44, 45, 46, 47, 48, 49, 50, 51, 52] 52 (.bool (!brA x.ctx st q ⟨sk, sa, si, so⟩)) rfl (VQ.op (fun wq eq => R.fld' (o := 1) Tryz.runUnderlying51 rfl rfl Tryz.sizeOf3 rfl rfl) (VQ.op (fun wq eq => R.ld1 Tryz.isAgg3 rfl ((show wq.cell? ⟨b0_0, 1, none⟩ = some (Value.int .i64 sa) from (hB0_0.ext eq).cell 1))) (VQ.op (fun wq eq => R.lss rfl rfl) (VQ.op (fun wq eq => R.mvB rfl) (VQ.orP rfl rfl (fun g1_3 => VQ.op (fun wq eq => R.fld' (o := 1) Tryz.runUnderlying51 rfl rfl Tryz.sizeOf3 rfl rfl) (VQ.gT rfl rfl (VQ.op (fun wq eq => R.ld1 Tryz.isAgg3 rfl ((show wq.cell? ⟨b0_0, 1, none⟩ = some (Value.int .i64 sa) from (hB0_0.ext eq).cell 1))) (VQ.gT rfl rfl (VQ.op (fun wq eq => R.mvP rfl) (VQ.gT rfl rfl (VQ.op (fun wq eq => R.nilCheck rfl) (VQ.gT rfl rfl (VQ.op (fun wq eq => R.fld' (o := 0) Tryz.runUnderlying80 rfl rfl Tryz.sizeOf25 rfl rfl) (VQ.gT rfl rfl (VQ.op (fun wq eq => R.fld' (o := 0) Tryz.runUnderlying25 rfl rfl Tryz.sizeOf3 rfl rfl) (VQ.gT rfl rfl (VQ.op (fun wq eq => R.ld1 Tryz.isAgg3 rfl ((show wq.cell? ⟨x.p, 0, none⟩ = some (Value.int .i64 x.g.n) from (h0.blk.ext eq).cell 0))) (VQ.gT rfl rfl (VQ.op (fun wq eq => R.geq rfl rfl) (VQ.op (fun wq eq => R.pickFB rfl rfl) (VQ.op (fun wq eq => R.mvB rfl) (VQ.orP rfl rfl (fun g1_13 => VQ.op (fun wq eq => R.mvP rfl) (VQ.gT rfl rfl (VQ.op (fun wq eq => R.nilCheck rfl) (VQ.gT rfl rfl (VQ.op (fun wq eq => R.fld' (o := 7) Tryz.runUnderlying80 rfl rfl Tryz.sizeOf22 rfl rfl) (VQ.gT rfl rfl (VQ.op (fun wq eq => R.ld1 Tryz.isAgg22 rfl ((show wq.cell? ⟨x.p, 7, none⟩ = some (Value.slice (some ⟨x.tb, 0, none⟩) st.length st.length) from (h0.blk.ext eq).cell 7))) (VQ.gT rfl rfl (VQ.op (fun wq eq => R.fld' (o := 1) Tryz.runUnderlying51 rfl rfl Tryz.sizeOf3 rfl rfl) (VQ.gT rfl rfl (VQ.op (fun wq eq => R.ld1 Tryz.isAgg3 rfl ((show wq.cell? ⟨b0_0, 1, none⟩ = some (Value.int .i64 sa) from (hB0_0.ext eq).cell 1))) (VQ.gT rfl rfl (VQ.op (fun wq eq => R.ixS Tryz.runUnderlying22 Tryz.sizeOf3 rfl rfl (by omega) (by omega) (h0.t.sl.some (i := sa.toNat) (by omega))) (VQ.gT rfl rfl (VQ.op (fun wq eq => R.ld1 Tryz.isAgg3 rfl ((((h0.t.sl.ext eq).row (i := sa.toNat) (by omega)).cell (i := 0) rfl))) (VQ.gT rfl rfl (VQ.op (fun wq eq => R.neq rfl rfl) (VQ.op (fun wq eq => R.pickFB rfl rfl) (VQ.op (fun wq eq => R.mvB rfl) (VQ.orP rfl rfl (fun g1_24 => VQ.op (fun wq eq => R.fld' (o := 2) Tryz.runUnderlying51 rfl rfl Tryz.sizeOf3 rfl rfl) (VQ.gT rfl rfl (VQ.op (fun wq eq => R.ld1 Tryz.isAgg3 rfl ((show wq.cell? ⟨b0_0, 2, none⟩ = some (Value.int .i64 si) from (hB0_0.ext eq).cell 2))) (VQ.gT rfl rfl (VQ.op (fun wq eq => R.fld' (o := 3) Tryz.runUnderlying51 rfl rfl Tryz.sizeOf3 rfl rfl) (VQ.gT rfl rfl (VQ.op (fun wq eq => R.ld1 Tryz.isAgg3 rfl ((show wq.cell? ⟨b0_0, 3, none⟩ = some (Value.int .i64 so) from (hB0_0.ext eq).cell 3))) (VQ.gT rfl rfl (VQ.op (fun wq eq => R.min rfl rfl) (VQ.gT rfl rfl (VQ.op (fun wq eq => R.mvI rfl) (VQ.gT rfl rfl (VQ.op (fun wq eq => R.leq rfl rfl) (VQ.op (fun wq eq => R.pickFB rfl rfl) (VQ.op (fun wq eq => R.mvB rfl) (VQ.orP rfl rfl (fun g1_33 => VQ.op (fun wq eq => R.fld' (o := 2) Tryz.runUnderlying51 rfl rfl Tryz.sizeOf3 rfl rfl) (VQ.gT rfl rfl (VQ.op (fun wq eq => R.ld1 Tryz.isAgg3 rfl ((show wq.cell? ⟨b0_0, 2, none⟩ = some (Value.int .i64 si) from (hB0_0.ext eq).cell 2))) (VQ.gT rfl rfl (VQ.op (fun wq eq => R.fld' (o := 3) Tryz.runUnderlying51 rfl rfl Tryz.sizeOf3 rfl rfl) (VQ.gT rfl rfl (VQ.op (fun wq eq => R.ld1 Tryz.isAgg3 rfl ((show wq.cell? ⟨b0_0, 3, none⟩ = some (Value.int .i64 so) from (hB0_0.ext eq).cell 3))) (VQ.gT rfl rfl (VQ.op (fun wq eq => R.max rfl rfl) (VQ.gT rfl rfl (VQ.op (fun wq eq => R.mvP rfl) (VQ.gT rfl rfl (VQ.op (fun wq eq => R.nilCheck rfl) (VQ.gT rfl rfl (VQ.op (fun wq eq => R.fld' (o := 5) Tryz.runUnderlying80 rfl rfl Tryz.sizeOf27 rfl rfl) (VQ.gT rfl rfl (VQ.op (fun wq eq => R.ld1 Tryz.isAgg27 rfl ((show wq.cell? ⟨x.p, 5, none⟩ = some (Value.slice x.sa x.S.length x.sc) from (h0.blk.ext eq).cell 5))) (VQ.gT rfl rfl (VQ.op (fun wq eq => R.lenS Tryz.runUnderlying27 rfl) (VQ.gT rfl rfl (VQ.op (fun wq eq => R.geq rfl rfl) (VQ.op (fun wq eq => R.pickFB rfl rfl) (VQ.nil (cutB rfl ?_)))))))))))))))))))))))) (fun g1_33 => VQ.gF rfl rfl (VQ.gF rfl rfl (VQ.gF rfl rfl (VQ.gF rfl rfl (VQ.gF rfl rfl (VQ.gF rfl rfl (VQ.gF rfl rfl (VQ.gF rfl rfl (VQ.gF rfl rfl (VQ.gF rfl rfl (VQ.op (fun wq eq => R.pickTB rfl rfl) (VQ.nil (cutB rfl ?_))))))))))))))))))))))))))))) (fun g1_24 => VQ.gF rfl rfl (VQ.gF rfl rfl (VQ.gF rfl rfl (VQ.gF rfl rfl (VQ.gF rfl rfl (VQ.gF rfl rfl (VQ.op (fun wq eq => R.pickTB rfl rfl) (VQ.op (fun wq eq => R.mvB rfl) (VQ.gF rfl rfl (VQ.gF rfl rfl (VQ.gF rfl rfl (VQ.gF rfl rfl (VQ.gF rfl rfl (VQ.gF rfl rfl (VQ.gF rfl rfl (VQ.gF rfl rfl (VQ.gF rfl rfl (VQ.gF rfl rfl (VQ.gF rfl rfl (VQ.op (fun wq eq => R.pickTB rfl rfl) (VQ.nil (cutB rfl ?_)))))))))))))))))))))))))))))))))))))))))) (fun g1_13 => VQ.gF rfl rfl (VQ.gF rfl rfl (VQ.gF rfl rfl (VQ.gF rfl rfl (VQ.gF rfl rfl (VQ.gF rfl rfl (VQ.gF rfl rfl (VQ.gF rfl rfl (VQ.op (fun wq eq => R.pickTB rfl rfl) (VQ.op (fun wq eq => R.mvB rfl) (VQ.gF rfl rfl (VQ.gF rfl rfl (VQ.gF rfl rfl (VQ.gF rfl rfl (VQ.gF rfl rfl (VQ.gF rfl rfl (VQ.gF rfl rfl (VQ.op (fun wq eq => R.pickTB rfl rfl) (VQ.op (fun wq eq => R.mvB rfl) (VQ.gF rfl rfl (VQ.gF rfl rfl (VQ.gF rfl rfl (VQ.gF rfl rfl (VQ.gF rfl rfl (VQ.gF rfl rfl (VQ.gF rfl rfl (VQ.gF rfl rfl (VQ.gF rfl rfl (VQ.gF rfl rfl (VQ.gF rfl rfl (VQ.op (fun wq eq => R.pickTB rfl rfl) (VQ.nil (cutB rfl ?_))))))))))))))))))))))))))))))))))))))))))))))))))) (fun g1_3 => VQ.gF rfl rfl (VQ.gF rfl rfl (VQ.gF rfl rfl (VQ.gF rfl rfl (VQ.gF rfl rfl (VQ.gF rfl rfl (VQ.gF rfl rfl (VQ.op (fun wq eq => R.pickTB rfl rfl) (VQ.op (fun wq eq => R.mvB rfl) (VQ.gF rfl rfl (VQ.gF rfl rfl (VQ.gF rfl rfl (VQ.gF rfl rfl (VQ.gF rfl rfl (VQ.gF rfl rfl (VQ.gF rfl rfl (VQ.gF rfl rfl (VQ.gF rfl rfl (VQ.op (fun wq eq => R.pickTB rfl rfl) (VQ.op (fun wq eq => R.mvB rfl) (VQ.gF rfl rfl (VQ.gF rfl rfl (VQ.gF rfl rfl (VQ.gF rfl rfl (VQ.gF rfl rfl (VQ.gF rfl rfl (VQ.gF rfl rfl (VQ.op (fun wq eq => R.pickTB rfl rfl) (VQ.op (fun wq eq => R.mvB rfl) (VQ.gF rfl rfl (VQ.gF rfl rfl (VQ.gF rfl rfl (VQ.gF rfl rfl (VQ.gF rfl rfl (VQ.gF rfl rfl (VQ.gF rfl rfl (VQ.gF rfl rfl (VQ.gF rfl rfl (VQ.gF rfl rfl (VQ.gF rfl rfl (VQ.op (fun wq eq => R.pickTB rfl rfl) (VQ.nil (cutB rfl ?_)))))))))))))))))))))))))))))))))))))))))))))))) (fun rg1 w1c e1c => V.cond rfl (fun c52 => V.seq (V.region (VL.op (R.asB rfl) (VL.nil (V.ret (fret1 (v := .bool _) rfl rfl rfl (?_))))))) (fun c52 => V.skip (V.seq (?_))))
 ·rw [hbr, ← decide_not]; exact decide_eq_decide.2 (by omega)
 ·rw [hbr, decide_eq_false (by omega)]; rfl
 ·rw [hbr, decide_eq_false (by omega)]; rfl
 ·rw [hbr, decide_eq_false (by omega)]; rfl
 ·rw [hbr, decide_eq_false (by omega)]; rfl
 ·have hb : brA x.ctx st q ⟨sk, sa, si, so⟩ = false := by simpa using c52
  have ho : brO x.ctx f q st sn ⟨sk, sa, si, so⟩ = none := by unfold brO; rw [hb]; rfl
  refine ⟨sn, by rw [ho]; rfl, ?_⟩
  rw [ho]
  exact ⟨(fun s2 h => nomatch h), hsn, h0.ext e1c, (e0_0.trans e1c).weaken fun _ _ h => h.elim⟩
 ·have hb : brA x.ctx st q ⟨sk, sa, si, so⟩ = true := by simpa using c52
  have hb2 := hb
  rw [hbr, decide_eq_true_eq] at hb2
  obtain ⟨b1, b2, b3, b4, b5, b6, b7⟩ := hb2
  obtain ⟨ki, rfl⟩ : ∃ k : Nat, si = (k : Int) := ⟨si.toNat, by omega⟩
  obtain ⟨ko, rfl⟩ : ∃ k : Nat, so = (k : Int) := ⟨so.toNat, by omega⟩
  have h1 := h0.ext e1c
  have hX1 : StB w1c b0_0 ⟨sk, sa, (ki : Int), (ko : Int)⟩ := hB0_0.ext e1c
  have hne : b0_0 ≠ x.tb ∧ b0_0 ≠ x.nb := by
   have h2 := h.t.lt x.tb ⟨_, rfl, rfl⟩
   have h3 := h.n.lt x.nb ⟨_, rfl, rfl⟩
   omega
  have ho : brO x.ctx f q st sn ⟨sk, sa, (ki : Int), (ko : Int)⟩ = (rightO x.ctx f ki (st.set sa.toNat 1) sn).bind fun sn2 => rightO x.ctx f ko (st.set sa.toNat 2) sn2 := by
   unfold brO
   rw [hb, if_pos rfl, show ((ki : Nat) : Int).toNat = ki by omega, show ((ko : Nat) : Int).toNat = ko by omega]
  rw [ho]
  have E1 : Vc.Mod x.TN w w1c := (e0_0.trans e1c).weaken fun _ _ h => h.elim
  refine V.region (VL.op (R.mvP rfl) (VL.op (R.fld' (o := 1) Tryz.runUnderlying51 rfl rfl Tryz.sizeOf3 rfl rfl) (VL.op (R.ld1 Tryz.isAgg3 rfl ((hX1.cell 1))) (VL.op (R.fld' (o := 2) Tryz.runUnderlying51 rfl rfl Tryz.sizeOf3 rfl rfl) (VL.op (R.ld1 Tryz.isAgg3 rfl ((hX1.cell 2))) (VL.callY Tryz.call80 rfl (decide_spec x N sa 1 ki st sn w1c (rightO x.ctx f ki) h1 hst hsn b1 (by omega) b3 (fun st' sn' w' k1 k2 k3 => hright ki st' sn' w' (by omega) (by omega) k1 k2 k3)) fun sn1 w3 h3 => VL.op (R.mvB rfl) (VL.and rfl rfl (fun g3_6 => VL.op (R.mvP rfl) (VL.gT rfl rfl (VL.op (R.fld' (o := 1) Tryz.runUnderlying51 rfl rfl Tryz.sizeOf3 rfl rfl) (VL.gT rfl rfl (VL.op (R.ld1 Tryz.isAgg3 rfl (((hX1.mod h3.m fun hh => hh.elim hne.1 hne.2).cell 1))) (VL.gT rfl rfl (VL.op (R.fld' (o := 3) Tryz.runUnderlying51 rfl rfl Tryz.sizeOf3 rfl rfl) (VL.gT rfl rfl (VL.op (R.ld1 Tryz.isAgg3 rfl (((hX1.mod h3.m fun hh => hh.elim hne.1 hne.2).cell 3))) (VL.gT rfl rfl (VL.callY Tryz.call80 rfl (decide_spec x N sa 2 ko st sn1 w3 (rightO x.ctx f ko) h3.ok hst h3.l b1 (by omega) b3 (fun st' sn' w' k1 k2 k3 => hright ko st' sn' w' (by omega) (by omega) k1 k2 k3)) fun sn2 w4 h4 => VL.op (R.pickTB rfl rfl) (VL.op (R.asB rfl) (VL.nil (V.ret (fret1 (v := .bool _) rfl rfl rfl (?_)))))))))))))))) (fun g3_6 => VL.gF rfl rfl (VL.gF rfl rfl (VL.gF rfl rfl (VL.gF rfl rfl (VL.gF rfl rfl (VL.op (R.pickFB rfl rfl) (VL.op (R.asB rfl) (VL.nil (V.ret (fret1 (v := .bool _) rfl rfl rfl (?_))))))))))))))))))
  ·obtain ⟨s2, h5⟩ := Option.isSome_iff_exists.1 g3_6
   have h6 := h3.r s2 h5
   subst h6
   refine ⟨sn2, by rw [h5]; rfl, ?_⟩
   rw [h5]
   exact ⟨h4.r, h4.l, h4.ok, (E1.then h3.m fun _ _ h => h).then h4.m fun _ _ h => h⟩
  ·have h5 : rightO x.ctx f ki (st.set sa.toNat 1) sn = none := by
    cases h6 : rightO x.ctx f ki (st.set sa.toNat 1) sn with
    | none => rfl
    | some s2 => rw [h6] at g3_6; cases g3_6
   refine ⟨sn1, by rw [h5]; rfl, ?_⟩
   rw [h5]
   exact ⟨(fun s2 h => nomatch h), h3.l, h3.ok, E1.then h3.m fun _ _ h => h⟩
end Go.Proofs.YtmglkjigmcikdaaGreatDoor

/- Proof: the check of a step. -/
namespace Go.Proofs.YtmglkjigmcikdaaGreatDoor
open Go.Vc
set_option maxRecDepth 100000
set_option maxHeartbeats 16000000
theorem R.eqlNilF {ρ : Env} {x y : Operand} {ty ty2 : TypeId} {w : World} {f : Fn} {a b : Array Value} (hx : tm ρ x = .func f a b) (hy : tm ρ y = .nilFunc) : run1 Tryz.prog ρ (.binOp .eql 81 x y ty2) ty w = .ok (.value (.bool false)) w := by
 have hp : (eqGuard .eql 81 x y (.func f a b) .nilFunc).run Tryz.prog w = .ok () w := by
  simp [eqGuard, go_sem]
 have h : (Op.equal 81 (.func f a b) .nilFunc).run Tryz.prog w = .ok false w := by
  show (Op.equalIn (9999 + 1) 81 _ _).run Tryz.prog w = _
  unfold Op.equalIn
  simp [go_sem]
 simp only [run1, execOp, hx, hy, Sem.run_bind, hp, Result.andThen_ok, binOp, h, Sem.run_pure]
theorem R.eqlNilN {ρ : Env} {x y : Operand} {ty ty2 : TypeId} {w : World} (hx : tm ρ x = .nilFunc) (hy : tm ρ y = .nilFunc) : run1 Tryz.prog ρ (.binOp .eql 81 x y ty2) ty w = .ok (.value (.bool true)) w := by
 have hp : (eqGuard .eql 81 x y .nilFunc .nilFunc).run Tryz.prog w = .ok () w := by
  simp [eqGuard, go_sem]
 have h : (Op.equal 81 .nilFunc .nilFunc).run Tryz.prog w = .ok true w := by
  show (Op.equalIn (9999 + 1) 81 _ _).run Tryz.prog w = _
  unfold Op.equalIn
  simp [go_sem]
 simp only [run1, execOp, hx, hy, Sem.run_bind, hp, Result.andThen_ok, binOp, h, Sem.run_pure]
def rgO (sn : List Bool) (q : Nat) (s : St4) (r : Option (List Bool)) : Option (List Bool) := if sn.getD q default = true ∨ (s.k ≠ 1 ∧ ¬ (s.i = 0 ∧ s.o = 0)) then none else r
theorem right_kind (x : CkX) (N q : Nat) (G : FuncId) (st : List Int) (sn : List Bool) (w : World) (r : Option (List Bool)) (hG : IsFn Tryz.prog G) (h : CkOk x w st sn) (hR : CkR x N) (_hst : st.length = N) (hsn : sn.length = x.S.length) (hq : q < x.S.length)
  (hK : (mget kindsL (x.S.getD q default).k).getD .nilFunc = .func (.func G) #[] #[])
  (hcall : ∀ w', CkOk x w' st (sn.set q true) → RetsY Tryz.prog G #[.pointer (some ⟨x.p, 0, none⟩), .int .i64 (q : Nat), .agg (encS4 (x.S.getD q default)).toArray] w' (fun _ : List Bool => .bool r.isSome) (RgK x st r w')) :
  RetsY Tryz.prog 62 #[.pointer (some ⟨x.p, 0, none⟩), .int .i64 (q : Nat)] w (fun _ : List Bool => .bool (rgO sn q (x.S.getD q default) r).isSome) (RgK x st (rgO sn q (x.S.getD q default) r) w) := by
 have hSl := hR.Sl
 obtain ⟨s, hs⟩ : ∃ s, s = x.S.getD q default := ⟨_, rfl⟩
 refine enter (args := [_, _]) Tryz.func62 rfl Tryz.ntmps62 (by kernel_rfl) rfl ?_
 refine V.seq (V.region (VL.op (R.asB rfl) (VL.nil (V.seq (V.region (VL.op (R.mvP rfl) (VL.op (R.nilCheck rfl) (VL.op (R.fld' (o := 5) Tryz.runUnderlying80 rfl rfl Tryz.sizeOf27 rfl rfl) (VL.op (R.ld1 Tryz.isAgg27 rfl ((show _ = some (Value.slice x.sa x.S.length x.sc) from h.blk.cell 5))) (VL.op (R.mvI rfl) (VL.op (R.ixS Tryz.runUnderlying27 Tryz.sizeOf51 rfl rfl (by omega) (by omega) (h.s.some (i := q) hq)) (VL.op (R.ldA Tryz.isAgg51 Tryz.sizeOf51 rfl rfl ((show RowAt _ _ _ (encS4 (x.S.getD q default)) from (h.s.row (i := q) hq))) rfl) (VL.allocSt (v := .agg (encS4 (x.S.getD q default)).toArray) Tryz.zeroValue51 Tryz.sizeOf51 rfl rfl rfl rfl rfl fun b1_7 w1_7 hb1_7 e1_7 hB1_7 => VL.nil (V.seq (?_)))))))))))))))
 rw [← hs] at hK hcall ⊢
 have h1 := h.ext e1_7
 have hb1 : StB w1_7 b1_7 s := by rw [hs]; exact hB1_7
 refine V.regionQ mixed 8 (by kernel_rfl) rfl (fun w' => Ext _ w') (Ext.drawn _) (VQ.op (fun wq eq => R.mvP rfl) (VQ.op (fun wq eq => R.nilCheck rfl) (VQ.op (fun wq eq => R.fld' (o := 9) Tryz.runUnderlying80 rfl rfl Tryz.sizeOf78 rfl rfl) (VQ.op (fun wq eq => R.ld1 Tryz.isAgg78 rfl ((show _ = some (Value.map (some x.mr)) from (h1.blk.ext eq).cell 9))) (VQ.op (fun wq eq => R.fld' (o := 0) Tryz.runUnderlying51 rfl rfl Tryz.sizeOf3 rfl rfl) (VQ.op (fun wq eq => R.ld1 Tryz.isAgg3 rfl ((show _ = some (Value.int .i64 s.k) from (hb1.ext eq).cell 0))) (VQ.op (fun wq eq => R.lookupV key3 Tryz.runUnderlying78 Tryz.zeroValue81 (h1.k.ext eq) hK rfl rfl) (VQ.op (fun wq eq => R.asF rfl) (VQ.nil fun w2q e2q => VL.nil (V.seq (V.seq (?_))))))))))))
 have h2 := h1.ext e2q
 have hb2 := hb1.ext e2q
 have E2 : Ext w w2q := e1_7.trans e2q
 have hres : ∀ {w' : World}, Ext w2q w' → rgO sn q s r = none → ∃ sn' : List Bool, Value.bool false = Value.bool (rgO sn q s r).isSome ∧ RgK x st (rgO sn q s r) w sn' w' := fun e hn => by
  rw [hn]
  exact ⟨sn, rfl, (fun s2 h => nomatch h), hsn, h2.ext e, (E2.trans e).weaken fun _ _ h => h.elim⟩
 by_cases hgo : sn.getD q default = true ∨ (s.k ≠ 1 ∧ ¬ (s.i = 0 ∧ s.o = 0))
 ·have hn : rgO sn q s r = none := by unfold rgO; rw [if_pos hgo]
  refine V.regionCut [21, 22, 23, 24, 25, 26, 27, 28, 29, 30, 31, 32, 33, 34, 35, 36, 37, 38, 39, 40, 41, 42, 43, 44, 45, 46] 46 (.bool (true)) (fun w' => Ext _ w') rfl (VL.op (R.mvF rfl) (VL.op (R.lit (R.eqlNilF rfl rfl) (rfl)) (VL.op (R.mvB rfl) (VL.gT rfl rfl (VL.op (R.mvP rfl) (VL.gT rfl rfl (VL.op (R.nilCheck rfl) (VL.gT rfl rfl (VL.op (R.fld' (o := 8) Tryz.runUnderlying80 rfl rfl Tryz.sizeOf67 rfl rfl) (VL.gT rfl rfl (VL.op (R.ld1 Tryz.isAgg67 rfl ((show _ = some (Value.slice (some ⟨x.nb, 0, none⟩) sn.length sn.length) from h2.blk.cell 8))) (VL.gT rfl rfl (VL.op (R.mvI rfl) (VL.gT rfl rfl (VL.op (R.ixS Tryz.runUnderlying67 Tryz.sizeOf4 rfl rfl (by omega) (by omega) (h2.n.sl.some (i := q) (by omega))) (VL.gT rfl rfl (VL.op (R.ld1 Tryz.isAgg4 rfl (((h2.n.sl.row (i := q) (by omega)).cell (i := 0) rfl))) (VL.op (R.pickFB rfl rfl) (VL.op (R.mvB rfl) (VL.or rfl rfl (fun g3_11 => VL.op (R.fld' (o := 0) Tryz.runUnderlying51 rfl rfl Tryz.sizeOf3 rfl rfl) (VL.gT rfl rfl (VL.op (R.ld1 Tryz.isAgg3 rfl ((show _ = some (Value.int .i64 s.k) from hb2.cell 0))) (VL.gT rfl rfl (VL.op (R.neq rfl rfl) (VL.gT rfl rfl (VL.op (R.mvB rfl) (VL.andP rfl rfl (fun g3_15 => VL.op (R.fld' (o := 2) Tryz.runUnderlying51 rfl rfl Tryz.sizeOf3 rfl rfl) (VL.gT rfl rfl (VL.op (R.ld1 Tryz.isAgg3 rfl ((show _ = some (Value.int .i64 s.i) from hb2.cell 2))) (VL.gT rfl rfl (VL.op (R.neq rfl rfl) (VL.gT rfl rfl (VL.op (R.mvB rfl) (VL.orP rfl rfl (fun g3_19 => VL.op (R.fld' (o := 3) Tryz.runUnderlying51 rfl rfl Tryz.sizeOf3 rfl rfl) (VL.gT rfl rfl (VL.op (R.ld1 Tryz.isAgg3 rfl ((show _ = some (Value.int .i64 s.o) from hb2.cell 3))) (VL.gT rfl rfl (VL.op (R.neq rfl rfl) (VL.gT rfl rfl (VL.op (R.pickFB rfl rfl) (VL.gT rfl rfl (VL.op (R.pickTB rfl rfl) (VL.op (R.pickFB rfl rfl) (VL.nil ⟨rfl, cutB rfl ?_, Mod.refl _ _⟩))))))))))) (fun g3_19 => VL.gF rfl rfl (VL.gF rfl rfl (VL.gT rfl rfl (VL.op (R.pickTB rfl rfl) (VL.gT rfl rfl (VL.op (R.pickTB rfl rfl) (VL.op (R.pickFB rfl rfl) (VL.nil ⟨rfl, cutB rfl ?_, Mod.refl _ _⟩)))))))))))))))) (fun g3_15 => VL.gF rfl rfl (VL.gF rfl rfl (VL.gF rfl rfl (VL.gU rfl rfl (VL.gU rfl rfl (VL.gU rfl rfl (VL.gF rfl rfl (VL.gT rfl rfl (VL.op (R.pickFB rfl rfl) (VL.op (R.pickFB rfl rfl) (VL.nil ⟨rfl, cutB rfl ?_, Mod.refl _ _⟩))))))))))))))))))) (fun g3_11 => VL.gF rfl rfl (VL.gF rfl rfl (VL.gF rfl rfl (VL.gU rfl rfl (VL.gU rfl rfl (VL.gU rfl rfl (VL.gU rfl rfl (VL.gU rfl rfl (VL.gU rfl rfl (VL.gU rfl rfl (VL.gU rfl rfl (VL.gF rfl rfl (VL.op (R.pickTB rfl rfl) (VL.nil ⟨rfl, cutB rfl ?_, Mod.refl _ _⟩)))))))))))))))))))))))))))))))))) (fun rg3 w3c e3c => V.cond rfl (fun c46 => V.seq (V.region (VL.op (R.asB rfl) (VL.nil (V.ret (fret1 (v := .bool _) rfl rfl rfl (hres e3c hn))))))) (fun c46 => V.skip (V.seq (?_))))
  ·rcases hgo with h3 | h3
   ·rw [g3_11] at h3; cases h3
   ·exact decide_eq_true fun h4 => h3.2 ⟨by omega, h4⟩
  ·rfl
  ·rcases hgo with h3 | h3
   ·rw [g3_11] at h3; cases h3
   ·exact absurd h3.1 g3_15
  ·rfl
  ·exact nomatch c46
 ·have hn : rgO sn q s r = r := by unfold rgO; rw [if_neg hgo]
  refine V.regionCut [21, 22, 23, 24, 25, 26, 27, 28, 29, 30, 31, 32, 33, 34, 35, 36, 37, 38, 39, 40, 41, 42, 43, 44, 45, 46] 46 (.bool (false)) (fun w' => Ext _ w') rfl (VL.op (R.mvF rfl) (VL.op (R.lit (R.eqlNilF rfl rfl) (rfl)) (VL.op (R.mvB rfl) (VL.gT rfl rfl (VL.op (R.mvP rfl) (VL.gT rfl rfl (VL.op (R.nilCheck rfl) (VL.gT rfl rfl (VL.op (R.fld' (o := 8) Tryz.runUnderlying80 rfl rfl Tryz.sizeOf67 rfl rfl) (VL.gT rfl rfl (VL.op (R.ld1 Tryz.isAgg67 rfl ((show _ = some (Value.slice (some ⟨x.nb, 0, none⟩) sn.length sn.length) from h2.blk.cell 8))) (VL.gT rfl rfl (VL.op (R.mvI rfl) (VL.gT rfl rfl (VL.op (R.ixS Tryz.runUnderlying67 Tryz.sizeOf4 rfl rfl (by omega) (by omega) (h2.n.sl.some (i := q) (by omega))) (VL.gT rfl rfl (VL.op (R.ld1 Tryz.isAgg4 rfl (((h2.n.sl.row (i := q) (by omega)).cell (i := 0) rfl))) (VL.op (R.pickFB rfl rfl) (VL.op (R.mvB rfl) (VL.or rfl rfl (fun g3_11 => VL.op (R.fld' (o := 0) Tryz.runUnderlying51 rfl rfl Tryz.sizeOf3 rfl rfl) (VL.gT rfl rfl (VL.op (R.ld1 Tryz.isAgg3 rfl ((show _ = some (Value.int .i64 s.k) from hb2.cell 0))) (VL.gT rfl rfl (VL.op (R.neq rfl rfl) (VL.gT rfl rfl (VL.op (R.mvB rfl) (VL.andP rfl rfl (fun g3_15 => VL.op (R.fld' (o := 2) Tryz.runUnderlying51 rfl rfl Tryz.sizeOf3 rfl rfl) (VL.gT rfl rfl (VL.op (R.ld1 Tryz.isAgg3 rfl ((show _ = some (Value.int .i64 s.i) from hb2.cell 2))) (VL.gT rfl rfl (VL.op (R.neq rfl rfl) (VL.gT rfl rfl (VL.op (R.mvB rfl) (VL.orP rfl rfl (fun g3_19 => VL.op (R.fld' (o := 3) Tryz.runUnderlying51 rfl rfl Tryz.sizeOf3 rfl rfl) (VL.gT rfl rfl (VL.op (R.ld1 Tryz.isAgg3 rfl ((show _ = some (Value.int .i64 s.o) from hb2.cell 3))) (VL.gT rfl rfl (VL.op (R.neq rfl rfl) (VL.gT rfl rfl (VL.op (R.pickFB rfl rfl) (VL.gT rfl rfl (VL.op (R.pickTB rfl rfl) (VL.op (R.pickFB rfl rfl) (VL.nil ⟨rfl, cutB rfl ?_, Mod.refl _ _⟩))))))))))) (fun g3_19 => VL.gF rfl rfl (VL.gF rfl rfl (VL.gT rfl rfl (VL.op (R.pickTB rfl rfl) (VL.gT rfl rfl (VL.op (R.pickTB rfl rfl) (VL.op (R.pickFB rfl rfl) (VL.nil ⟨rfl, cutB rfl ?_, Mod.refl _ _⟩)))))))))))))))) (fun g3_15 => VL.gF rfl rfl (VL.gF rfl rfl (VL.gF rfl rfl (VL.gU rfl rfl (VL.gU rfl rfl (VL.gU rfl rfl (VL.gF rfl rfl (VL.gT rfl rfl (VL.op (R.pickFB rfl rfl) (VL.op (R.pickFB rfl rfl) (VL.nil ⟨rfl, cutB rfl ?_, Mod.refl _ _⟩))))))))))))))))))) (fun g3_11 => VL.gF rfl rfl (VL.gF rfl rfl (VL.gF rfl rfl (VL.gU rfl rfl (VL.gU rfl rfl (VL.gU rfl rfl (VL.gU rfl rfl (VL.gU rfl rfl (VL.gU rfl rfl (VL.gU rfl rfl (VL.gU rfl rfl (VL.gF rfl rfl (VL.op (R.pickTB rfl rfl) (VL.nil ⟨rfl, cutB rfl ?_, Mod.refl _ _⟩)))))))))))))))))))))))))))))))))) (fun rg3 w3c e3c => V.cond rfl (fun c46 => V.seq (V.region (VL.op (R.asB rfl) (VL.nil (V.ret (fret1 (v := .bool _) rfl rfl rfl (?_))))))) (fun c46 => V.skip (V.seq (?_))))
  ·exact decide_eq_false fun h4 => hgo (.inr ⟨by omega, fun h5 => h4 h5.2⟩)
  ·exact absurd (.inr ⟨by omega, fun h5 => g3_19 h5.1⟩) hgo
  ·rfl
  ·exact absurd (.inl g3_11) hgo
  ·exact nomatch c46
  ·have h3 := h2.ext e3c
   have hb3 : StB w3c b1_7 s := hb2.ext e3c
   rw [hn]
   have hne : b1_7 ≠ x.tb ∧ b1_7 ≠ x.nb := by
    have k2 := h.t.lt x.tb ⟨_, rfl, rfl⟩
    have k3 := h.n.lt x.nb ⟨_, rfl, rfl⟩
    omega
   refine V.region (VL.op (R.mvP rfl) (VL.op (R.nilCheck rfl) (VL.op (R.fld' (o := 8) Tryz.runUnderlying80 rfl rfl Tryz.sizeOf67 rfl rfl) (VL.op (R.ld1 Tryz.isAgg67 rfl ((show _ = some (Value.slice (some ⟨x.nb, 0, none⟩) sn.length sn.length) from h3.blk.cell 8))) (VL.op (R.mvI rfl) (VL.op (R.ixS Tryz.runUnderlying67 Tryz.sizeOf4 rfl rfl (by omega) (by omega) (h3.n.sl.some (i := q) (by omega))) (VL.ownSt eltBo (v := .bool _) Tryz.sizeOf4 (h3.n) q 0 true rfl rfl (by omega) rfl rfl rfl rfl rfl fun w5 ho5 m5 hs5 => VL.nil (V.seq (?_)))))))))
   have m6 : Vc.Mod x.TN w3c w5 := m5.weaken fun q _ hq => .inr (aBlk_some hq)
   have h5 : CkOk x w5 st (sn.set q true) := h3.turn m6 (h3.t.mod m5 fun q k1 k2 => h.tn ((aBlk_some k1).symm.trans (aBlk_some k2))) ho5 rfl List.length_set
   have hb5 : StB w5 b1_7 s := hb3.mod m6 fun hh => hh.elim hne.1 hne.2
   refine V.region (VL.op (R.mvF rfl) (VL.op (R.mvP rfl) (VL.op (R.mvI rfl) (VL.op (R.ldA Tryz.isAgg51 Tryz.sizeOf51 rfl rfl ((show RowAt _ _ _ (encS4 s) from hb5.row)) rfl) (VL.callCY rfl (hG) rfl (hcall w5 h5) fun sn6 w6 h6 => VL.op (R.asB rfl) (VL.nil (V.ret (fret1 (v := .bool _) rfl rfl rfl (⟨sn6, rfl, h6.weaken ((((E2.trans e3c).weaken fun _ _ h => h.elim).then m6 fun _ _ h => h))⟩)))))))))
end Go.Proofs.YtmglkjigmcikdaaGreatDoor

/- Proof: the check of steps, by induction. -/
namespace Go.Proofs.YtmglkjigmcikdaaGreatDoor
open Go.Vc
set_option maxRecDepth 100000
set_option maxHeartbeats 16000000
theorem R.asNF {P : Program} {ρ : Env} {x : Operand} {ty : TypeId} {w : World} (hx : tm ρ x = .nilFunc) : run1 P ρ (.assign x) ty w = .ok (.value .nilFunc) w := R.as hx
theorem R.mvNF {P : Program} {ρ : Env} {x : Operand} {ty : TypeId} {w : World} (hx : tm ρ x = .nilFunc) : run1 P ρ (.move x) ty w = .ok (.value .nilFunc) w := R.mv hx
theorem RetsP.leaf30 {x : CkX} {g : FuncId} {args : Array Value} {w : World} {b : Bool} {st : List Int} {sn : List Bool} (h : RetsP Tryz.prog g args w (.bool b)) (hl : sn.length = x.S.length) (ho : CkOk x w st sn) :
  RetsY Tryz.prog g args w (fun _ : List Bool => .bool (if b = true then some sn else none).isSome) (RgK x st (if b = true then some sn else none) w) :=
 h.mono fun u w2 ⟨hu, e⟩ => ⟨sn, by rw [hu]; cases b <;> rfl, by cases b <;> intro s2 h2 <;> cases h2; rfl, hl, ho.ext e, e.weaken fun _ _ h => h.elim⟩
theorem all_map30 {W : List WyI} {st : List Int} : ((W.map wyV).all fun w => somA st w.pos 2 || somA st w.neg 1) = W.all fun y => somA st y.p.l 2 || somA st y.n.l 1 := by
 rw [List.all_map]; rfl
theorem getD_wy {W : List WyI} {i : Nat} (h : i < W.length) : (W.map wyV).getD i default = wyV (W.getD i default) := by
 rw [List.getD, List.getD, List.getElem?_map, List.getElem?_eq_getElem h]; rfl
theorem rgO_right {c : PrfC} {f q : Nat} {st : List Int} {sn : List Bool} : rightO c (f + 1) q st sn = rgO sn q (c.S.getD q default) (if (c.S.getD q default).k = 1 then brO c f q st (sn.set q true) (c.S.getD q default) else if leafA c st (c.S.getD q default) = true then some (sn.set q true) else none) := by
 unfold rightO rgO brO
 by_cases h1 : sn.getD q default = true
 ·rw [if_pos h1, if_pos (.inl h1)]
 ·rw [if_neg h1]
  by_cases h2 : (c.S.getD q default).k = 1
  ·rw [if_pos h2, if_pos h2, if_neg (show ¬ (sn.getD q default = true ∨ ((c.S.getD q default).k ≠ 1 ∧ ¬ ((c.S.getD q default).i = 0 ∧ (c.S.getD q default).o = 0))) from fun h => h.elim h1 fun h => h.1 h2)]
  ·rw [if_neg h2, if_neg h2]
   by_cases h3 : (c.S.getD q default).i = 0 ∧ (c.S.getD q default).o = 0
   ·rw [if_neg (show ¬ (sn.getD q default = true ∨ ((c.S.getD q default).k ≠ 1 ∧ ¬ ((c.S.getD q default).i = 0 ∧ (c.S.getD q default).o = 0))) from fun h => h.elim h1 fun h => h.2 h3)]
    by_cases h4 : leafA c st (c.S.getD q default) = true
    ·rw [if_pos h4, if_pos ⟨h3.1, h3.2, h4⟩]
    ·rw [if_neg h4, if_neg fun h => h4 h.2.2]
   ·rw [if_neg (show ¬ ((c.S.getD q default).i = 0 ∧ (c.S.getD q default).o = 0 ∧ leafA c st (c.S.getD q default) = true) from fun h => h3 ⟨h.1, h.2.1⟩), if_pos (show sn.getD q default = true ∨ ((c.S.getD q default).k ≠ 1 ∧ ¬ ((c.S.getD q default).i = 0 ∧ (c.S.getD q default).o = 0)) from .inr ⟨h2, h3⟩)]
theorem right_unk (x : CkX) (N q : Nat) (st : List Int) (sn : List Bool) (w : World) (h : CkOk x w st sn) (hR : CkR x N) (hq : q < x.S.length) (hsn : sn.length = x.S.length)
  (hK : (mget kindsL (x.S.getD q default).k).getD .nilFunc = .nilFunc) :
  RetsY Tryz.prog 62 #[.pointer (some ⟨x.p, 0, none⟩), .int .i64 (q : Nat)] w (fun _ : List Bool => .bool (none : Option (List Bool)).isSome) (RgK x st none w) := by
 have hSl := hR.Sl
 refine enter (args := [_, _]) Tryz.func62 rfl Tryz.ntmps62 (by kernel_rfl) rfl ?_
 refine V.seq (V.region (VL.op (R.asB rfl) (VL.nil (V.seq (V.region (VL.op (R.mvP rfl) (VL.op (R.nilCheck rfl) (VL.op (R.fld' (o := 5) Tryz.runUnderlying80 rfl rfl Tryz.sizeOf27 rfl rfl) (VL.op (R.ld1 Tryz.isAgg27 rfl ((show _ = some (Value.slice x.sa x.S.length x.sc) from h.blk.cell 5))) (VL.op (R.mvI rfl) (VL.op (R.ixS Tryz.runUnderlying27 Tryz.sizeOf51 rfl rfl (by omega) (by omega) (h.s.some (i := q) hq)) (VL.op (R.ldA Tryz.isAgg51 Tryz.sizeOf51 rfl rfl ((show RowAt _ _ _ (encS4 (x.S.getD q default)) from (h.s.row (i := q) hq))) rfl) (VL.allocSt (v := .agg (encS4 (x.S.getD q default)).toArray) Tryz.zeroValue51 Tryz.sizeOf51 rfl rfl rfl rfl rfl fun b1_7 w1_7 hb1_7 e1_7 hB1_7 => VL.nil (V.seq (?_)))))))))))))))
 obtain ⟨s, hs⟩ : ∃ s, s = x.S.getD q default := ⟨_, rfl⟩
 rw [← hs] at hK
 have h1 := h.ext e1_7
 have hb1 : StB w1_7 b1_7 s := by rw [hs]; exact hB1_7
 refine V.regionQ mixed 8 (by kernel_rfl) rfl (fun w' => Ext _ w') (Ext.drawn _) (VQ.op (fun wq eq => R.mvP rfl) (VQ.op (fun wq eq => R.nilCheck rfl) (VQ.op (fun wq eq => R.fld' (o := 9) Tryz.runUnderlying80 rfl rfl Tryz.sizeOf78 rfl rfl) (VQ.op (fun wq eq => R.ld1 Tryz.isAgg78 rfl ((show _ = some (Value.map (some x.mr)) from (h1.blk.ext eq).cell 9))) (VQ.op (fun wq eq => R.fld' (o := 0) Tryz.runUnderlying51 rfl rfl Tryz.sizeOf3 rfl rfl) (VQ.op (fun wq eq => R.ld1 Tryz.isAgg3 rfl ((show _ = some (Value.int .i64 s.k) from (hb1.ext eq).cell 0))) (VQ.op (fun wq eq => R.lookupV key3 Tryz.runUnderlying78 Tryz.zeroValue81 (h1.k.ext eq) hK rfl rfl) (VQ.op (fun wq eq => R.asNF rfl) (VQ.nil fun w2q e2q => VL.nil (V.seq (V.seq (?_))))))))))))
 refine V.regionCut [21, 22, 23, 24, 25, 26, 27, 28, 29, 30, 31, 32, 33, 34, 35, 36, 37, 38, 39, 40, 41, 42, 43, 44, 45, 46] 46 (.bool (true)) (fun w' => Ext _ w') rfl (VL.op (R.mvNF rfl) (VL.op (R.lit (R.eqlNilN rfl rfl) (rfl)) (VL.op (R.mvB rfl) (VL.gF rfl rfl (VL.gF rfl rfl (VL.gF rfl rfl (VL.gF rfl rfl (VL.gF rfl rfl (VL.gF rfl rfl (VL.gF rfl rfl (VL.op (R.pickTB rfl rfl) (VL.op (R.mvB rfl) (VL.gF rfl rfl (VL.gF rfl rfl (VL.gF rfl rfl (VL.gF rfl rfl (VL.gU rfl rfl (VL.gU rfl rfl (VL.gU rfl rfl (VL.gU rfl rfl (VL.gU rfl rfl (VL.gU rfl rfl (VL.gU rfl rfl (VL.gU rfl rfl (VL.gF rfl rfl (VL.op (R.pickTB rfl rfl) (VL.nil ⟨rfl, cutB rfl ?_, Mod.refl _ _⟩))))))))))))))))))))))))))) (fun rg3 w3c e3c => V.cond rfl (fun c46 => V.seq (V.region (VL.op (R.asB rfl) (VL.nil (V.ret (fret1 (v := .bool _) rfl rfl rfl (?_))))))) (fun c46 => V.skip (V.seq (?_))))
 ·rfl
 ·exact ⟨sn, rfl, (fun s2 h => nomatch h), hsn, h.ext (e1_7.trans (e2q.trans e3c)), (e1_7.trans (e2q.trans e3c)).weaken fun _ _ h => h.elim⟩
 ·exact nomatch c46
theorem kind_cases (k : Int) : k = 1 ∨ k = 2 ∨ k = 3 ∨ k = 4 ∨ k = 5 ∨ (k ≠ 1 ∧ k ≠ 2 ∧ k ≠ 3 ∧ k ≠ 4 ∧ k ≠ 5) := by omega
theorem kind_none {k : Int} (h : k ≠ 1 ∧ k ≠ 2 ∧ k ≠ 3 ∧ k ≠ 4 ∧ k ≠ 5) : (mget kindsL k).getD .nilFunc = .nilFunc := by
 obtain ⟨h1, h2, h3, h4, h5⟩ := h
 simp [mget, kindsL, h1, h2, h3, h4, h5]
theorem right_spec (x : CkX) (N : Nat) (hR : CkR x N) : ∀ (f q : Nat) (st : List Int) (sn : List Bool) (w : World), x.S.length ≤ q + f → q < x.S.length → CkOk x w st sn → st.length = N → sn.length = x.S.length →
  RetsY Tryz.prog 62 #[.pointer (some ⟨x.p, 0, none⟩), .int .i64 (q : Nat)] w (fun _ : List Bool => .bool (rightO x.ctx f q st sn).isSome) (RgK x st (rightO x.ctx f q st sn) w) := by
 intro f
 induction f with
 | zero => intro q st sn w h1 h2; omega
 | succ f ih =>
  intro q st sn w hf hq h hst hsn
  rw [rgO_right]
  show RetsY _ _ _ _ (fun _ : List Bool => .bool (rgO sn q (x.S.getD q default) (if (x.S.getD q default).k = 1 then brO x.ctx f q st (sn.set q true) (x.S.getD q default) else if leafA x.ctx st (x.S.getD q default) = true then some (sn.set q true) else none)).isSome) (RgK x st (rgO sn q (x.S.getD q default) (if (x.S.getD q default).k = 1 then brO x.ctx f q st (sn.set q true) (x.S.getD q default) else if leafA x.ctx st (x.S.getD q default) = true then some (sn.set q true) else none)) w)
  have hsn' : (sn.set q true).length = x.S.length := by rw [List.length_set]; exact hsn
  have hlen : (vals x.g.edges).length = x.g.edges.length := List.length_map _
  rcases kind_cases (x.S.getD q default).k with hk | hk | hk | hk | hk | hk
  ·rw [if_pos hk]
   refine right_kind x N q 56 st sn w _ Tryz.call56 h hR hst hsn hq (by rw [hk]; rfl) fun w' h' => ?_
   exact branch_spec x N f q _ st _ w' h' hR hst hsn' fun q' st' sn' w2 k1 k2 k3 k4 k5 => ih q' st' sn' w2 (by omega) k2 k3 k4 k5
  ·rw [if_neg (by rw [hk]; decide)]
   refine right_kind x N q 57 st sn w _ Tryz.call57 h hR hst hsn hq (by rw [hk]; rfl) fun w' h' => ?_
   have e : leafA x.ctx st (x.S.getD q default) = (decide (0 ≤ (x.S.getD q default).a ∧ (x.S.getD q default).a < ((vals x.g.edges).length : Int)) && areA st ((vals x.g.edges).getD (x.S.getD q default).a.toNat default) 1) := by unfold leafA; rw [if_pos hk]; rfl
   rw [e]
   exact RetsP.leaf30 (clash_spec x N q _ st _ w' h' hR hst) hsn' h'
  ·rw [if_neg (by rw [hk]; decide)]
   refine right_kind x N q 58 st sn w _ Tryz.call58 h hR hst hsn hq (by rw [hk]; rfl) fun w' h' => ?_
   have e : leafA x.ctx st (x.S.getD q default) = (decide (0 ≤ (x.S.getD q default).a ∧ (x.S.getD q default).a < x.g.n ∧ stA st (x.S.getD q default).a = 2) && frA (vals x.g.edges) st (x.S.getD q default).a) := by unfold leafA; rw [if_neg (by rw [hk]; decide), if_pos hk]; rfl
   rw [e]
   exact RetsP.leaf30 (free30_spec x N q _ st _ w' h' hR hst) hsn' h'
  ·rw [if_neg (by rw [hk]; decide)]
   refine right_kind x N q 59 st sn w _ Tryz.call59 h hR hst hsn hq (by rw [hk]; rfl) fun w' h' => ?_
   have e : leafA x.ctx st (x.S.getD q default) = (!x.h && (decide (0 ≤ (x.S.getD q default).a ∧ (x.S.getD q default).a < (x.W.length : Int)) && (areA st (x.W.getD (x.S.getD q default).a.toNat default).p.l 1 && areA st (x.W.getD (x.S.getD q default).a.toNat default).n.l 2))) := by
    unfold leafA
    rw [if_neg (by rw [hk]; decide), if_neg (by rw [hk]; decide), if_pos hk]
    by_cases hb : 0 ≤ (x.S.getD q default).a ∧ (x.S.getD q default).a < (x.W.length : Int)
    ·have hbW : (x.S.getD q default).a.toNat < x.W.length := by omega
     have hw : x.ctx.W.getD (x.S.getD q default).a.toNat default = wyV (x.W.getD (x.S.getD q default).a.toNat default) := by
      exact getD_wy hbW
     rw [hw, show ((x.ctx.W.length : Nat) : Int) = (x.W.length : Int) by show (((x.W.map wyV).length : Nat) : Int) = _; rw [List.length_map]]; rfl
    ·rw [decide_eq_false hb, decide_eq_false (show ¬ (0 ≤ (x.S.getD q default).a ∧ (x.S.getD q default).a < (x.ctx.W.length : Int)) by show ¬ (_ ∧ _ < (((x.W.map wyV).length : Nat) : Int)); rw [List.length_map]; exact hb)]; rfl
   rw [e]
   exact RetsP.leaf30 (way_spec x N q _ st _ w' h' hR hst) hsn' h'
  ·rw [if_neg (by rw [hk]; decide)]
   refine right_kind x N q 60 st sn w _ Tryz.call60 h hR hst hsn hq (by rw [hk]; rfl) fun w' h' => ?_
   have e : leafA x.ctx st (x.S.getD q default) = (x.h && (decide ((x.S.getD q default).a = 0) && x.W.all fun y => somA st y.p.l 2 || somA st y.n.l 1)) := by
    unfold leafA
    rw [if_neg (by rw [hk]; decide), if_neg (by rw [hk]; decide), if_neg (by rw [hk]; decide), if_pos hk]
    exact congrArg (fun z => x.h && (decide ((x.S.getD q default).a = 0) && z)) all_map30
   rw [e]
   exact RetsP.leaf30 (none_spec x N q _ st _ w' h' hR hst) hsn' h'
  ·have e : rgO sn q (x.S.getD q default) (if (x.S.getD q default).k = 1 then brO x.ctx f q st (sn.set q true) (x.S.getD q default) else if leafA x.ctx st (x.S.getD q default) = true then some (sn.set q true) else none) = none := by
    have e2 : leafA x.ctx st (x.S.getD q default) = false := by
     unfold leafA; rw [if_neg hk.2.1, if_neg hk.2.2.1, if_neg hk.2.2.2.1, if_neg hk.2.2.2.2]
    rw [if_neg hk.1, e2, if_neg (by decide)]
    unfold rgO; split <;> rfl
   rw [e]
   exact right_unk x N q st sn w h hR hq hsn (kind_none hk)
end Go.Proofs.YtmglkjigmcikdaaGreatDoor

/- Proof: ways that are not ready. -/
namespace Go.Proofs.YtmglkjigmcikdaaGreatDoor
open Go.Vc
set_option maxRecDepth 100000
set_option maxHeartbeats 16000000
abbrev GrB (w : World) (b : Nat) (g : GrW) : Prop := Blk w b (.cells (Value.agg (encGr g).toArray).cells 25 (0, 0))
theorem ready1_spec (b : Nat) (g : GrW) (y : WyI) (w : World) (hb : GrB w b g) (hy : WyOk w y) (hl : WLen y) :
  RetsP Tryz.prog 53 #[.agg (encWy y).toArray, .pointer (some ⟨b, 0, none⟩)] w (.bool (!(setB y.p.l g.n && setB y.n.l g.n))) := by
 have hl1 := hl.1
 have hl2 := hl.2
 refine enter (args := [_, _]) Tryz.func53 rfl Tryz.ntmps53 (by kernel_rfl) rfl ?_
 refine V.seq (V.region (VL.box (v := .agg _) rfl fun b0_0 w0_0 hb0_0 e0_0 hB0_0 => VL.op (R.asB rfl) (VL.nil (V.seq (V.region (VL.op (R.fld' (o := 0) Tryz.runUnderlying37 rfl rfl Tryz.sizeOf22 rfl rfl) (VL.op (R.ld1 Tryz.isAgg22 rfl ((show _ = some (Value.slice y.p.a y.p.l.length y.p.c) from hB0_0.cell 0))) (VL.op (R.fld' (o := 0) Tryz.runUnderlying25 rfl rfl Tryz.sizeOf3 rfl rfl) (VL.op (R.ld1 Tryz.isAgg3 rfl ((show _ = some (Value.int .i64 g.n) from (hb.ext e0_0).cell 0))) (VL.callP Tryz.call54 rfl (below_spec y.p.a y.p.c y.p.l g.n _ (by omega) (hy.p.ext e0_0)) fun w1_4 e1_4 => VL.op (R.not rfl) (VL.op (R.mvB rfl) (VL.or rfl rfl (fun g1_6 => VL.op (R.fld' (o := 1) Tryz.runUnderlying37 rfl rfl Tryz.sizeOf22 rfl rfl) (VL.gT rfl rfl (VL.op (R.ld1 Tryz.isAgg22 rfl ((show _ = some (Value.slice y.n.a y.n.l.length y.n.c) from (hB0_0.ext e1_4).cell 1))) (VL.gT rfl rfl (VL.op (R.fld' (o := 0) Tryz.runUnderlying25 rfl rfl Tryz.sizeOf3 rfl rfl) (VL.gT rfl rfl (VL.op (R.ld1 Tryz.isAgg3 rfl ((show _ = some (Value.int .i64 g.n) from (hb.ext (e0_0.trans e1_4)).cell 0))) (VL.gT rfl rfl (VL.callP Tryz.call54 rfl (below_spec y.n.a y.n.c y.n.l g.n _ (by omega) (hy.n.ext (e0_0.trans e1_4))) fun w1_11 e1_11 => VL.gT rfl rfl (VL.op (R.not rfl) (VL.op (R.pickFB rfl rfl) (VL.op (R.asB rfl) (VL.nil (V.ret (fret1 (v := .bool _) rfl rfl rfl (⟨?_, ((e0_0.trans e1_4).trans e1_11)⟩)))))))))))))))) (fun g1_6 => VL.gF rfl rfl (VL.gF rfl rfl (VL.gF rfl rfl (VL.gF rfl rfl (VL.gF rfl rfl (VL.op (R.pickTB rfl rfl) (VL.op (R.asB rfl) (VL.nil (V.ret (fret1 (v := .bool _) rfl rfl rfl (⟨?_, (e0_0.trans e1_4)⟩)))))))))))))))))))))))
 ·have : setB y.p.l g.n = true := by simpa using g1_6
  rw [this]; rfl
 ·have : setB y.p.l g.n = false := by simpa using g1_6
  rw [this]; rfl
end Go.Proofs.YtmglkjigmcikdaaGreatDoor

/- Proof: lists of truth values: copy, search. -/
namespace Go.Proofs.YtmglkjigmcikdaaGreatDoor
open Go.Vc
abbrev BoSl (w : World) (a : Option Addr) (l : List Bool) : Prop := TSl encBo 1 w a l
theorem R.eqlBo {ρ : Env} {x y : Operand} {ty ty2 : TypeId} {w : World} {a b : Bool} (hx : tm ρ x = .bool a) (hy : tm ρ y = .bool b) : run1 Tryz.prog ρ (.binOp .eql 4 x y ty2) ty w = .ok (.value (.bool (decide (a = b)))) w := by
 have hp : (eqGuard .eql 4 x y (.bool a) (.bool b)).run Tryz.prog w = .ok () w := by
  simp [eqGuard, go_sem]
 have h : (Op.equal 4 (.bool a) (.bool b)).run Tryz.prog w = .ok (decide (a = b)) w := by
  show (Op.equalIn (9999 + 1) 4 _ _).run Tryz.prog w = _
  unfold Op.equalIn
  simp [go_sem]
  try cases a <;> cases b <;> rfl
 simp only [run1, execOp, hx, hy, Sem.run_bind, hp, Result.andThen_ok, binOp, h, Sem.run_pure]
theorem cloneBo_spec (a : Option Addr) (ca : Nat) (l : List Bool) (w : World) (hm : l.length ≤ 1000000) (hax : a = none → ca = 0) (hS : BoSl w a l) :
  RetsX Tryz.prog 68 #[.slice a l.length ca] w (fun x : Option Addr × Nat => .slice x.1 l.length x.2) (fun x w' => OwnT encBo 1 4 w.heap.size w' x.1 x.2 l) := by
 refine enter (args := [_]) Tryz.func68 rfl Tryz.ntmps68 (by kernel_rfl) rfl ?_
 refine V.seq (V.region (VL.op (R.asS rfl) (VL.nil (V.seq (V.seq (V.region (VL.op (R.mvS rfl) (VL.op (R.eqlNil Tryz.runUnderlying67 rfl rfl) (VL.nil (V.cond rfl (fun c4 => V.seq (V.region (VL.op (R.asS rfl) (VL.nil (V.ret (fret1 (v := .slice _ _ _) rfl rfl rfl (?_))))))) (fun c4 => V.skip (V.seq (V.region (VL.buildSl Tryz.runUnderlying67 Tryz.sizeOf4 Tryz.zeroValue4 rfl rfl rfl fun b5 w5 hb5 e5 hX5 => VL.op (R.mvS rfl) (VL.appendT el67 (fun _ => rfl) rfl (rfl) ((OwnT.of0 encBo 1 hX5 (Nat.le_of_eq (Eq.symm hb5)))) rfl (rfl) ((hS.ext e5)) (hax) (by simp; omega) (by simp [maxLen]; omega) (e5).size rfl fun a6 c6 w6 ho6 m6 hf6 => VL.op (R.asS rfl) (VL.nil (V.ret (fret1 (v := .slice _ _ _) rfl rfl rfl (?_)))))))))))))))))))
 ·have ha : a = none := of_decide_eq_true c4
  have hl : l = [] := by
   cases l with
   | nil => rfl
   | cons x l => obtain ⟨b, o, h⟩ := TSl.some (i := 0) hS (by simp); rw [ha] at h; cases h
  subst hl
  exact ⟨(none, 0), rfl, OwnT.nil encBo 1 4 _ _, Mod.refl _ _⟩
 ·exact ⟨(a6, c6), by rw [Nat.zero_add], ho6, Mod.ownA e5 m6 fun k hk => by have := aBlk_some hk; omega⟩
theorem indexBo_spec (a : Option Addr) (c : Nat) (l : List Bool) (b : Bool) (w : World) (hm : l.length ≤ 1000000) (hS : BoSl w a l) :
  RetsY Tryz.prog 86 #[.slice a l.length c, .bool b] w (fun i : Int => .int .i64 i) (fun i w' => decide (0 ≤ i) = decide (b ∈ l) ∧ Ext w w') := by
 refine enter (args := [_, _]) Tryz.func86 rfl Tryz.ntmps86 (by kernel_rfl) rfl ?_
 refine V.seq (V.region (VL.op (R.asI rfl) (VL.nil (V.seq (V.seq (V.region (VL.op (R.mvS rfl) (VL.op (R.lenS Tryz.runUnderlying67 rfl) (VL.op (R.mvI rfl) (VL.nil (V.block (?_))))))))))))
 refine V.loop [0, 1, 6, 7, 8] (fun k : Nat => [.slice a l.length c, .bool b, .slice a l.length c, .int .i64 (l.length : Nat), .int .i64 (k : Nat)]) (fun k w' => k ≤ l.length ∧ b ∉ l.take k ∧ Ext w w') (fun k => l.length - k) 0 rfl ⟨Nat.zero_le _, by simp, Vc.Mod.refl _ _⟩ ?_
 rintro ρ k w1 ⟨hk, hn, e⟩
 refine V.seq (V.region (VL.op (R.lss rfl rfl) (VL.nil (V.seq (V.condP rfl (fun c9 => V.skip (V.seq (V.block (V.seq (V.region (VL.op (R.mvI rfl) (VL.op (R.asI rfl) (VL.nil (V.seq (V.region (VL.op (R.mvB rfl) (VL.op (R.mvS rfl) (VL.op (R.mvI rfl) (VL.op (R.ixS Tryz.runUnderlying67 Tryz.sizeOf4 rfl rfl (by omega) (by omega) ((hS).some (i := k) (by omega))) (VL.op (R.ld1 Tryz.isAgg4 rfl (((((hS).ext e).row (i := k) (by omega)).cell (i := 0) rfl))) (VL.op (R.eqlBo rfl rfl) (VL.nil (V.condP rfl (fun c16 => V.seq (V.region (VL.op (R.mvI rfl) (VL.op (R.asI rfl) (VL.nil (V.ret (fret1 (v := .int _ _) rfl rfl rfl (?_)))))))) (fun c16 => V.skip (V.region (VL.op (R.add rfl rfl (by omega) (by omega)) (VL.op (R.mvI rfl) (VL.nil (?_)))))))))))))))))))))))) (fun c9 => V.exit (V.seq (V.region (VL.op (R.asI rfl) (VL.nil (V.ret (fret1 (v := .int _ _) rfl rfl rfl (?_)))))))))))))
 ·have h1 : b = l.getD k default := c16
  exact ⟨(k : Int), rfl, ((decide_eq_true (Int.natCast_nonneg k)).trans (decide_eq_true (h1 ▸ gmem (by omega))).symm), e⟩
 ·have h1 : b ≠ l.getD k default := c16
  refine ⟨k + 1, rfl, ⟨by omega, ?_, e⟩, by omega⟩
  rw [List.take_succ_eq_append_getElem (by omega), List.mem_append, List.mem_singleton, not_or]
  exact ⟨hn, by rw [← gget (show k < l.length by omega)]; exact h1⟩
 ·have hk2 : k = l.length := by omega
  subst hk2
  rw [List.take_length] at hn
  exact ⟨-1, rfl, (decide_eq_false (by decide)).trans (decide_eq_false hn).symm, e⟩
theorem containsBo_spec (a : Option Addr) (c : Nat) (l : List Bool) (b : Bool) (w : World) (hm : l.length ≤ 1000000) (hS : BoSl w a l) :
  RetsP Tryz.prog 69 #[.slice a l.length c, .bool b] w (.bool (decide (b ∈ l))) := by
 refine enter (args := [_, _]) Tryz.func69 rfl Tryz.ntmps69 (by kernel_rfl) rfl ?_
 refine V.seq (V.region (VL.op (R.asB rfl) (VL.nil (V.seq (V.region (VL.op (R.mvS rfl) (VL.op (R.mvB rfl) (VL.callY Tryz.call86 rfl (indexBo_spec a c l b w hm hS) fun i2 w2 h2 => VL.op (R.geq rfl rfl) (VL.op (R.asB rfl) (VL.nil (V.ret (fret1 (v := .bool _) rfl rfl rfl (⟨?_, h2.2⟩)))))))))))))
 exact congrArg Value.bool h2.1
end Go.Proofs.YtmglkjigmcikdaaGreatDoor

/- Proof: how many of an edge are out. -/
namespace Go.Proofs.YtmglkjigmcikdaaGreatDoor
open Go.Vc
set_option maxRecDepth 100000
set_option maxHeartbeats 16000000
abbrev BvB (w : World) (b : Nat) (a : Option Addr) (n c : Nat) : Prop := Blk w b (.cells #[.slice a n c] 67 (0, 0))
def outM (I : List Bool) (l : List Int) : Nat := (l.filter fun v => !I.getD v.toNat default).length
theorem outM_snoc (I : List Bool) (l : List Int) (v : Int) : outM I (l ++ [v]) = outM I l + if I.getD v.toNat default = false then 1 else 0 := by
 unfold outM
 rw [List.filter_append, List.length_append]
 by_cases h : I.getD v.toNat default = false
 ·rw [if_pos h, List.filter_cons_of_pos (by rw [h]; rfl)]; rfl
 ·rw [if_neg h, List.filter_cons_of_neg (by simpa using h)]; rfl
theorem outM_le (I : List Bool) (l : List Int) : outM I l ≤ l.length := List.length_filter_le _ _
theorem hits_spec (b : Nat) (ia : Option Addr) (ic : Nat) (I : List Bool) (a : Option Addr) (c : Nat) (l : List Int) (w : World) (hb : BvB w b ia I.length ic) (hI : BoSl w ia I) (hl : IntSl w a l) (hm : l.length ≤ 1000000) (hr : ∀ v ∈ l, 0 ≤ v ∧ v < (I.length : Int)) :
  RetsP Tryz.prog 67 #[.slice a l.length c, .pointer (some ⟨b, 0, none⟩)] w (.int .i64 (outM I l : Nat)) := by
 refine enter (args := [_, _]) Tryz.func67 rfl Tryz.ntmps67 (by kernel_rfl) rfl ?_
 refine V.seq (V.region (VL.op (R.asI rfl) (VL.nil (V.seq (V.region (VL.op (R.asI rfl) (VL.nil (V.seq (V.seq (V.region (VL.op (R.mvS rfl) (VL.op (R.lenS Tryz.runUnderlying22 rfl) (VL.op (R.mvI rfl) (VL.nil (V.block (?_))))))))))))))))
 refine V.loop [1, 4, 7, 8, 9] (fun k : Nat => [.pointer (some ⟨b, 0, none⟩), .int .i64 (outM I (l.take k) : Nat), .slice a l.length c, .int .i64 (l.length : Nat), .int .i64 (k : Nat)]) (fun k w' => k ≤ l.length ∧ Ext w w') (fun k => l.length - k) 0 rfl ⟨Nat.zero_le _, Vc.Mod.refl _ _⟩ ?_
 rintro ρ k w1 ⟨hk, e⟩
 have hle := outM_le I (l.take k)
 rw [List.length_take] at hle
 refine V.seq (V.region (VL.op (R.lss rfl rfl) (VL.nil (V.seq (V.condP rfl (fun c10 => V.skip (V.seq (V.block (V.seq (?_))))) (fun c10 => V.exit (V.seq (V.region (VL.op (R.mvI rfl) (VL.op (R.asI rfl) (VL.nil (V.ret (fret1 (v := .int _ _) rfl rfl rfl (?_))))))))))))))
 ·have hkl : k < l.length := by omega
  have hv := hr _ (gmem hkl)
  refine V.region (VL.op (R.ixS Tryz.runUnderlying22 Tryz.sizeOf3 rfl rfl (by omega) (by omega) (((hl.ext e)).some (i := k) (by omega))) (VL.op (R.ld1 Tryz.isAgg3 rfl ((((((hl.ext e)).ext (Mod.refl _ _)).row (i := k) (by omega)).cell (i := 0) rfl))) (VL.op (R.asI rfl) (VL.nil (V.seq (V.region (VL.op (R.ld1 Tryz.isAgg67 rfl ((show _ = some (Value.slice ia I.length ic) from (hb.ext e).cell 0))) (VL.op (R.mvI rfl) (VL.op (R.ixS Tryz.runUnderlying67 Tryz.sizeOf4 rfl rfl (by omega) (by omega) ((hI.ext e).some (i := (l.getD k default).toNat) (by omega))) (VL.op (R.ld1 Tryz.isAgg4 rfl ((((hI.ext e).row (i := (l.getD k default).toNat) (by omega)).cell (i := 0) rfl))) (VL.op (R.not rfl) (VL.nil (V.cond rfl (fun c17 => V.region (VL.op (R.mvI rfl) (VL.op (R.add rfl rfl (by omega) (by omega)) (VL.op (R.asI rfl) (VL.nil (V.region (VL.op (R.add rfl rfl (by omega) (by omega)) (VL.op (R.mvI rfl) (VL.nil (?_)))))))))) (fun c17 => V.skip (V.region (VL.op (R.add rfl rfl (by omega) (by omega)) (VL.op (R.mvI rfl) (VL.nil (?_)))))))))))))))))))
  ·refine ⟨k + 1, ?_, ⟨by omega, e⟩, by omega⟩
   rw [List.take_succ_eq_append_getElem hkl, outM_snoc, ← gget hkl, if_pos (by simpa using c17)]; rfl
  ·refine ⟨k + 1, ?_, ⟨by omega, e⟩, by omega⟩
   rw [List.take_succ_eq_append_getElem hkl, outM_snoc, ← gget hkl, if_neg (by simpa using c17)]; rfl
 ·have hk2 : k = l.length := by omega
  subst hk2
  rw [List.take_length]
  exact ⟨rfl, e⟩
end Go.Proofs.YtmglkjigmcikdaaGreatDoor
