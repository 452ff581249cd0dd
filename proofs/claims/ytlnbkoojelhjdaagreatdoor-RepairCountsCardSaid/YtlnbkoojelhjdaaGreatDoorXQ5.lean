/- Hyper: the reference: the graph of some vertices. -/
import Derived.Test.YtlnbkoojelhjdaaGreatDoorXQ1
namespace Go.Proofs.YtlnbkoojelhjdaaGreatDoor
open Go.Vc
set_option maxRecDepth 100000
set_option maxHeartbeats 16000000
def PlW (vs : List Int) (N k : Nat) (W : List Int) : Prop := W.length = N ∧ ∀ v : Nat, v < N → W.getD v default = if (v : Int) ∈ vs.take k then ixI vs (v : Int) else -1
theorem PlW.step {vs : List Int} {N k : Nat} {W : List Int} (h : PlW vs N k W) (hi : Inc vs) (hk : k < vs.length) (h0 : 0 ≤ vs.getD k default) (_h1 : vs.getD k default < (N : Int)) : PlW vs N (k + 1) (W.set (vs.getD k default).toNat (k : Int)) := by
 have hl := h.1
 refine ⟨by simp [hl], fun v hv => ?_⟩
 rw [List.take_succ_eq_append_getElem hk, ← gget hk]
 by_cases e : v = (vs.getD k default).toNat
 ·have e2 : (v : Int) = vs.getD k default := by omega
  rw [e, setD_eq _ (by omega), ← e, e2, if_pos (by rw [List.mem_append]; right; exact List.mem_singleton.2 rfl), ix_get hi hk]
 ·have e2 : ¬ (v : Int) = vs.getD k default := by omega
  rw [setD_ne _ e, h.2 v hv]
  simp only [List.mem_append, List.mem_singleton, e2, or_false]
theorem rpart_spec (g : GrW) (va : Option Addr) (vc : Nat) (vs : List Int) (w : World) (hG : GOk w g) (hl : GLen g) (hV : IntSl w va vs) (hvl : vs.length ≤ 9223372036854775807) :
  RetsX Tryz.prog 81 #[.agg (encGr g).toArray, .slice va vs.length vc] w (fun z : GrW × Int => .tuple #[.agg (encGr z.1).toArray, .int .i64 z.2]) (fun z w' => (grV z.1, z.2) = partF (grV g) vs ∧ GNew w w' z.1 ∧ GTy w' z.1) := by
 refine enter (args := [_, _]) Tryz.func81 rfl Tryz.ntmps81 (by kernel_rfl) rfl ?_
 refine V.seq (V.region (VL.box (v := .agg _) rfl fun b0_0 w0_0 hb0_0 e0_0 hB0_0 => VL.alloc Tryz.zeroValue25 fun b0_1 w0_1 hb0_1 e0_1 hB0_1 => VL.op (R.asI rfl) (VL.nil (V.seq (V.seq (V.region (VL.op (R.ldA Tryz.isAgg25 Tryz.sizeOf25 rfl rfl ((show RowAt _ _ _ (encGr g) from ((hB0_0.ext e0_1).rowAt 0 3))) rfl) (VL.callP Tryz.call46 rfl (rvalid_spec g _ (hG.ext (e0_0.trans e0_1)) hl) fun w1_1 e1_1 => VL.op (R.not rfl) (VL.op (R.mvB rfl) (VL.or rfl rfl (fun g1_3 => VL.op (R.mvS rfl) (VL.gT rfl rfl (VL.op (R.fld' (o := 0) Tryz.runUnderlying25 rfl rfl Tryz.sizeOf3 rfl rfl) (VL.gT rfl rfl (VL.op (R.ld1 Tryz.isAgg3 rfl ((((hB0_0.ext e0_1).ext e1_1).cell _))) (VL.gT rfl rfl (VL.callP Tryz.call49 rfl (verts_spec va vc vs g.n _ hvl (hV.ext ((e0_0.trans e0_1).trans e1_1))) fun w1_7 e1_7 => VL.gT rfl rfl (VL.op (R.not rfl) (VL.op (R.pickFB rfl rfl) (VL.nil (V.cond rfl (fun c22 => V.seq (V.region (VL.op (R.build Tryz.zeroValue25 Tryz.runUnderlying25 pl25 rfl) (VL.store (v := .agg _) Tryz.sizeOf25 rfl rfl rfl rfl ((hB0_1.ext e1_1).ext e1_7) rfl rfl fun w2_1 m2_1 hs2_1 hB2_1 => VL.op (R.asI rfl) (VL.nil (V.ret (fretCT (v := .int _ _) rfl rfl rfl rfl rfl Tryz.isAgg25 Tryz.sizeOf25 rfl (hB2_1.rowAt 0 3) rfl (?_)))))))) (fun c22 => V.skip (V.seq (?_)))))))))))))) (fun g1_3 => VL.gF rfl rfl (VL.gF rfl rfl (VL.gF rfl rfl (VL.gF rfl rfl (VL.op (R.pickTB rfl rfl) (VL.nil (V.condT rfl (V.seq (V.region (VL.op (R.build Tryz.zeroValue25 Tryz.runUnderlying25 pl25 rfl) (VL.store (v := .agg _) Tryz.sizeOf25 rfl rfl rfl rfl (hB0_1.ext e1_1) rfl rfl fun w2_1 m2_1 hs2_1 hB2_1 => VL.op (R.asI rfl) (VL.nil (V.ret (fretCT (v := .int _ _) rfl rfl rfl rfl rfl Tryz.isAgg25 Tryz.sizeOf25 rfl (hB2_1.rowAt 0 3) rfl (?_)))))))))))))))))))))))))
 ·have h1 : partF (grV g) vs = (default, 1) := by
   unfold partF
   rw [if_neg fun h => ?_]
   rw [show (grV g).n = g.n from rfl] at h
   rw [h.2] at c22; cases c22
  exact ⟨(default, 1), rfl, ⟨h1.symm, GNew.zero _ _, GTy.zero _⟩, (((e0_0.trans e0_1).trans e1_1).trans e1_7).own m2_1 (by have := e0_0.size; dsimp only; omega)⟩
 ·have hv : validG (grV g) = true := by simpa using g1_3
  have hs : setB vs g.n = true := by simpa using c22
  have hn := costB_iff.1 (validG_iff.1 hv).1
  have hn0 : 0 ≤ g.n := hn.1
  have hn1 : g.n ≤ 4000 := hn.2.1
  have hcl : ((g.cost.length : Nat) : Int) = g.n := hn.2.2.1
  obtain ⟨N, hN⟩ : ∃ N : Nat, g.n = (N : Int) := ⟨g.n.toNat, by omega⟩
  have hvs := setB_iff.1 hs
  have hvn := set_len hvs.1 hvs.2 hn0
  have hE20 : g.edges.length ≤ 20000 := by have := (validG_iff.1 hv).2.1; simpa [grV, vals] using this
  have hw7 := ((e0_0.trans e0_1).trans e1_1).trans e1_7
  have hB7 : Blk w1_7 b0_0 (.cells (Value.agg (encGr g).toArray).cells 25 (0, 0)) := ((hB0_0.ext e0_1).ext e1_1).ext e1_7
  have hZ7 : Blk w1_7 b0_1 (.cells #[.int .i64 0, .slice none 0 0, .slice none 0 0] 25 (0, 0)) := (hB0_1.ext e1_1).ext e1_7
  have hb01 := hZ7.lt
  have hG7 := hG.ext hw7
  have hV7 := hV.ext hw7
  obtain ⟨cf, hcf⟩ : ∃ cf : Int → Int, cf = fun v => g.cost.getD v.toNat default := ⟨_, rfl⟩
  refine V.region (VL.op (R.mvS rfl) (VL.op (R.lenS Tryz.runUnderlying22 rfl) (VL.op (R.build Tryz.zeroValue25 Tryz.runUnderlying25 pl25 rfl) (VL.allocSt (v := .agg #[.int .i64 (vs.length : Nat), .slice none 0 0, .slice none 0 0]) Tryz.zeroValue25 Tryz.sizeOf25 rfl rfl rfl rfl rfl fun b3_3 w3_3 hb3_3 e3_3 hB3_3 => VL.nil (V.seq (V.region (VL.op (R.fld' (o := 0) Tryz.runUnderlying25 rfl rfl Tryz.sizeOf3 rfl rfl) (VL.op (R.ld1 Tryz.isAgg3 rfl ((show World.cell? _ ⟨b0_0, 0, none⟩ = some (Value.int .i64 ((N : Nat) : Int)) from by rw [← hN]; exact (hB7.ext e3_3).cell 0))) (VL.makeSl (enc := Vc.encI ) el22 ( (0 : Int)) rfl rfl rfl (by omega) (by unfold maxLen; omega) (e3_3).size fun b7 w7 hb7 e7 ho7 => VL.op (R.asS rfl) (VL.nil (V.cut [1, 2, 4, 6, 7] (fun W : List Int => [.slice va vs.length vc, .pointer (some ⟨b0_0, 0, none⟩), .pointer (some ⟨b0_1, 0, none⟩), .pointer (some ⟨b3_3, 0, none⟩), .slice (some ⟨b7, 0, none⟩) N N]) (fun W w' => OwnT Vc.encI 1 3 w1_7.heap.size w' (some ⟨b7, 0, none⟩) N W ∧ PlW vs N 0 W ∧ Blk w' b3_3 (.cells #[.int .i64 (vs.length : Nat), .slice none 0 0, .slice none 0 0] 25 (0, 0)) ∧ Ext w1_7 w' ∧ w7.heap.size ≤ w'.heap.size) (V.seq (V.region (VL.op (R.asI rfl) (VL.nil (V.block (?_)))))) (fun rgB0 xB0 wBB0 hBB0 => V.cut [2, 4, 6, 7] (fun x : SlI × List Int => [.pointer (some ⟨b0_0, 0, none⟩), .pointer (some ⟨b0_1, 0, none⟩), .pointer (some ⟨b3_3, 0, none⟩), .slice (some ⟨b7, 0, none⟩) N N]) (fun x w' => Blk w' b3_3 (.cells #[.int .i64 (vs.length : Nat), .slice x.1.a x.1.l.length x.1.c, .slice none 0 0] 25 (0, 0)) ∧ OwnT Vc.encI 1 3 w7.heap.size w' x.1.a x.1.c x.1.l ∧ x.1.l = vs.map cf ∧ OwnT Vc.encI 1 3 w1_7.heap.size w' (some ⟨b7, 0, none⟩) N x.2 ∧ PlW vs N vs.length x.2 ∧ Ext w1_7 w' ∧ w7.heap.size ≤ w'.heap.size) (V.seq (V.region (VL.op (R.asI rfl) (VL.nil (V.block (?_)))))) (fun rgB2 xB2 wBB2 hBB2 => V.seq (V.seq (?_)))))))))))))))
  ·have hb37 : b3_3 < w3_3.heap.size := hB3_3.lt
   refine V.loop [1, 2, 4, 6, 7, 8] (fun x : Nat × List Int => [.slice va vs.length vc, .pointer (some ⟨b0_0, 0, none⟩), .pointer (some ⟨b0_1, 0, none⟩), .pointer (some ⟨b3_3, 0, none⟩), .slice (some ⟨b7, 0, none⟩) N N, .int .i64 (x.1 : Nat)]) (fun x w' => x.1 ≤ N ∧ OwnT Vc.encI 1 3 w1_7.heap.size w' (some ⟨b7, 0, none⟩) N x.2 ∧ x.2.length = N ∧ (∀ v : Nat, v < x.1 → x.2.getD v default = -1) ∧ Vc.Mod (Vc.one b7) w7 w') (fun x => N - x.1) (0, List.replicate N 0) rfl ⟨Nat.zero_le _, ho7, by simp, fun v h => absurd h (Nat.not_lt_zero v), Vc.Mod.refl _ _⟩ ?_
   rintro ρ ⟨k, W⟩ w8 ⟨hk, ho, hlen, hval, m8⟩
   dsimp only at hk ho hlen hval m8 ⊢
   have e8 : Ext w1_7 w8 := (e3_3.trans e7).ownA m8 fun q hq => by have hq : q = b7 := hq; have := e3_3.size; omega
   refine V.seq (V.seq (V.region (VL.op (R.mvI rfl) (VL.op (R.fld' (o := 0) Tryz.runUnderlying25 rfl rfl Tryz.sizeOf3 rfl rfl) (VL.op (R.ld1 Tryz.isAgg3 rfl ((show w8.cell? ⟨b0_0, 0, none⟩ = some (Value.int .i64 ((N : Nat) : Int)) from by rw [← hN]; exact (hB7.ext e8).cell 0))) (VL.op (R.lss rfl rfl) (VL.nil (V.condP rfl (fun c33 => V.skip (V.seq (V.block (V.region (VL.op (R.mvS rfl) (VL.op (R.mvI rfl) (VL.op (R.ixS Tryz.runUnderlying22 Tryz.sizeOf3 rfl rfl (by omega) (by omega) ((ho.sl).some (i := k) (by omega))) (VL.ownSt eltI (v := .int _ _) Tryz.sizeOf3 (ho) k 0 (-1) rfl rfl (by omega) rfl rfl rfl rfl rfl fun w11 ho11 m11 hs11 => VL.nil (V.region (VL.op (R.mvI rfl) (VL.op (R.add rfl rfl (by omega) (by omega)) (VL.op (R.asI rfl) (VL.nil (?_)))))))))))))) (fun c33 => V.exit (?_))))))))))
   ·refine ⟨(k + 1, W.set k (-1)), rfl, ⟨by dsimp only; omega, ho11, by simp [hlen], fun v hv => ?_, m8.then m11 fun q _ hq => aBlk_some hq⟩, by dsimp only; omega⟩
    dsimp only at hv ⊢
    by_cases e : v = k
    ·rw [e, setD_eq _ (by omega)]
    ·rw [setD_ne _ e]; exact hval v (by omega)
   ·have hkN : k = N := by omega
    subst hkN
    exact ⟨W, rfl, ho, ⟨hlen, fun v hv => by rw [hval v hv, if_neg (by simp)]⟩, (hB3_3.ext e7).mod m8 (fun h => by have h : b3_3 = b7 := h; omega), e8, m8.size⟩
  ·have hb37 : b3_3 < w3_3.heap.size := hB3_3.lt
   obtain ⟨hoW0, hP0, hb0, e0, hs0⟩ := hBB0
   have h7s : b7 < w7.heap.size := ho7.lt _ ⟨_, rfl, rfl⟩
   have h33 := e3_3.size
   refine V.loop [1, 2, 4, 6, 7, 9] (fun x : Nat × SlI × List Int => [.slice va vs.length vc, .pointer (some ⟨b0_0, 0, none⟩), .pointer (some ⟨b0_1, 0, none⟩), .pointer (some ⟨b3_3, 0, none⟩), .slice (some ⟨b7, 0, none⟩) N N, .int .i64 (x.1 : Nat)])
    (fun x w' => x.1 ≤ vs.length ∧ Blk w' b3_3 (.cells #[.int .i64 (vs.length : Nat), .slice x.2.1.a x.2.1.l.length x.2.1.c, .slice none 0 0] 25 (0, 0)) ∧ OwnT Vc.encI 1 3 w7.heap.size w' x.2.1.a x.2.1.c x.2.1.l ∧ x.2.1.l = (vs.take x.1).map cf ∧ OwnT Vc.encI 1 3 w1_7.heap.size w' (some ⟨b7, 0, none⟩) N x.2.2 ∧ PlW vs N x.1 x.2.2 ∧ Ext w1_7 w' ∧ w7.heap.size ≤ w'.heap.size)
    (fun x => vs.length - x.1) (0, default, xB0) rfl ⟨Nat.zero_le _, hb0, OwnT.nil _ _ _ _ _, rfl, hoW0, hP0, e0, hs0⟩ ?_
   rintro ρ ⟨k, y, W⟩ w5 ⟨hk, hb, ho, hy, hoW, hP, e, hsz⟩
   dsimp only at hk hb ho hy hoW hP e hsz ⊢
   refine V.seq (V.seq (V.region (VL.op (R.mvI rfl) (VL.op (R.mvS rfl) (VL.op (R.lenS Tryz.runUnderlying22 rfl) (VL.op (R.lss rfl rfl) (VL.nil (V.condP rfl (fun c42 => V.skip (V.seq (V.block (V.seq (?_))))) (fun c42 => V.exit (?_))))))))))
   ·have hkl : k < vs.length := by omega
    have hr := hvs.2 _ (gmem hkl)
    have hyl : y.l.length = k := by rw [hy, List.length_map, List.length_take]; omega
    have hWl := hP.1
    have hm8 : ∀ w', Vc.Mod (aBlk (some ⟨b7, 0, none⟩)) w5 w' → Blk w' b3_3 (.cells #[.int .i64 (vs.length : Nat), .slice y.a y.l.length y.c, .slice none 0 0] 25 (0, 0)) ∧ OwnT Vc.encI 1 3 w7.heap.size w' y.a y.c y.l ∧ Ext w1_7 w' := fun w' m => ⟨hb.mod m fun h => by have := aBlk_some h; omega, ho.mod m fun q h1 h2 => by have := aBlk_some h2; have := ho.ge q h1; omega, e.ownA m fun q hq => by have := aBlk_some hq; omega⟩
    refine V.region (VL.op (R.mvS rfl) (VL.op (R.mvS rfl) (VL.op (R.mvI rfl) (VL.op (R.ixS Tryz.runUnderlying22 Tryz.sizeOf3 rfl rfl (by omega) (by omega) ((hV7.ext e).some (i := k) (by omega))) (VL.op (R.ld1 Tryz.isAgg3 rfl (((((hV7.ext e).ext (Mod.refl _ _)).row (i := k) (by omega)).cell (i := 0) rfl))) (VL.op (R.mvI rfl) (VL.op (R.ixS Tryz.runUnderlying22 Tryz.sizeOf3 rfl rfl (by omega) (by omega) ((hoW.sl).some (i := (vs.getD k default).toNat) (by omega))) (VL.ownSt eltI (v := .int _ _) Tryz.sizeOf3 (hoW) (vs.getD k default).toNat 0 ((k : Nat) : Int) rfl rfl (by omega) rfl rfl rfl rfl rfl fun w8 ho8 m8 hs8 => VL.nil (?_)))))))))
    obtain ⟨q1, q2, q3⟩ := hm8 _ m8
    have hV8 := hV7.ext q3
    have hC8 := (hG7.ext q3).c
    have hs8' := m8.size
    refine V.regionW mixed 11 10 (by kernel_rfl) rfl (C0B _) (C1B _ Vc.encI 1 3 (g.cost.getD (vs.getD k default).toNat default)) (C0B.drawn _) (VW.op (fun wq eq => R.fld' (o := 1) Tryz.runUnderlying25 rfl rfl Tryz.sizeOf22 rfl rfl) (VW.op (fun wq hq => (fun (eq : Ext _ wq) => R.ld1 Tryz.isAgg22 rfl ((show wq.cell? ⟨b3_3, 1, none⟩ = some (Value.slice y.a y.l.length y.c) from (q1.ext eq).cell 1))) (hq.elim (fun h => h.e) (fun h => h.e))) (VW.op (fun wq eq => R.fld' (o := 1) Tryz.runUnderlying25 rfl rfl Tryz.sizeOf22 rfl rfl) (VW.op0 (fun wq ⟨eq, _⟩ => R.ld1 Tryz.isAgg22 rfl ((show wq.cell? ⟨b0_0, 1, none⟩ = some (Value.slice g.ca g.cost.length g.cc) from ((hB7.ext q3).ext eq).cell 1))) (VW.op (fun wq eq => R.mvS rfl) (VW.op (fun wq eq => R.mvI rfl) (VW.op (fun wq eq => R.ixS Tryz.runUnderlying22 Tryz.sizeOf3 rfl rfl (by omega) (by omega) (hV8.some (i := k) hkl)) (VW.op0 (fun wq ⟨eq, _⟩ => R.ld1 Tryz.isAgg3 rfl ((((hV8.ext eq).row (i := k) hkl).cell (i := 0) rfl))) (VW.op (fun wq eq => R.ixS Tryz.runUnderlying22 Tryz.sizeOf3 rfl rfl (by omega) (by omega) (hC8.some (i := (vs.getD k default).toNat) (by omega))) (VW.op0 (fun wq ⟨eq, _⟩ => R.ld1 Tryz.isAgg3 rfl ((((hC8.ext eq).row (i := (vs.getD k default).toNat) (by omega)).cell (i := 0) rfl))) (VW.build1 Tryz.runUnderlying22 Tryz.sizeOf3 Tryz.zeroValue3 rfl rfl rfl _ rfl rfl rfl (VW.nil fun w9 h9 => VL.appendT el22 (fun _ => rfl) rfl (rfl) ((q2.ext h9.e)) rfl ( (show 1 = [g.cost.getD (vs.getD k default).toNat default].length from rfl)) ((OwnT.sl h9.o)) ((fun h => by cases h)) (by simp; omega) (by simp [maxLen]; omega) (Nat.le_trans hsz (Nat.le_trans m8.size h9.e.size)) rfl fun a9 c9 w10 ho10 m10 hf10 => VL.op (R.fld' (o := 1) Tryz.runUnderlying25 rfl rfl Tryz.sizeOf22 rfl rfl) (VL.store (v := .slice _ _ _) Tryz.sizeOf22 rfl rfl rfl rfl ((q1.ext h9.e).mod m10 fun h => by have := q2.ge _ h; omega) rfl rfl fun w11 m11 hs11 hB11 => VL.nil (V.region (VL.op (R.mvI rfl) (VL.op (R.add rfl rfl (by omega) (by omega)) (VL.op (R.asI rfl) (VL.nil (?_)))))))))))))))))))
    refine ⟨(k + 1, ⟨a9, c9, y.l ++ [g.cost.getD (vs.getD k default).toNat default]⟩, W.set (vs.getD k default).toNat ((k : Nat) : Int)), rfl, ⟨by dsimp only; omega, ?_, ho10.mod m11 fun q h1 h2 => ?_, ?_, ?_, hP.step hvs.1 hkl hr.1 (by omega), ?_, ?_⟩, by dsimp only; omega⟩
    ·dsimp only; rw [List.length_append]; exact hB11
    ·have h2 : q = b3_3 := h2
     rcases hf10 q h1 with h | h
     ·have := ho.ge q h; omega
     ·have := q1.lt; have := h9.e.size; omega
    ·dsimp only
     rw [List.take_succ_eq_append_getElem hkl, ← gget hkl, List.map_append, ← hy, hcf]; rfl
    ·exact ((ho8.ext h9.e).mod m10 fun q h1 h2 => by have := aBlk_some h1; have := q2.ge q h2; omega).mod m11 fun q h1 h2 => by have := aBlk_some h1; have h2 : q = b3_3 := h2; omega
    ·exact ((q3.trans h9.e).ownA m10 fun q hq => by have := q2.ge q hq; omega).ownA m11 fun q hq => by have hq : q = b3_3 := hq; omega
    ·have h1 := h9.e.size
     have h2 := m10.size
     have h3 := m11.size
     omega
   ·have hkl : k = vs.length := by omega
    subst hkl
    rw [List.take_length] at hy
    exact ⟨(y, W), rfl, hb, ho, hy, hoW, hP, e, hsz⟩
  ·have hb37 : b3_3 < w3_3.heap.size := hB3_3.lt
   obtain ⟨hb, ho, hy, hoW, hP, e0, hs0⟩ := hBB2
   obtain ⟨y, W⟩ := xB2
   dsimp only at hb ho hy hoW hP e0 hs0 ⊢
   have h33 := e3_3.size
   have h7s : b7 < w7.heap.size := ho7.lt _ ⟨_, rfl, rfl⟩
   have hw7s := hw7.size
   have hws : w.heap.size ≤ b0_1 := by have := e0_0.size; omega
   have hWl := hP.1
   have hW' : ∀ v : Int, 0 ≤ v → v < (N : Int) → W.getD v.toNat default = if v ∈ vs then ixI vs v else -1 := fun v h0 h1 => by
    have := hP.2 v.toNat (by omega)
    rw [List.take_length, show ((v.toNat : Nat) : Int) = v by omega] at this
    exact this
   have hxv : ∀ k, k < g.edges.length → ∀ x ∈ (g.edges.getD k default).l, 0 ≤ x ∧ x < (N : Int) := fun k hk x hx => by
    have := ((validG_iff.1 hv).2.2.1 _ (List.mem_map_of_mem (gmem hk))).2.2 x hx
    rw [show (grV g).n = g.n from rfl, hN] at this; exact this
   have hext : ∀ {w' : World}, Vc.Mod (Vc.one b3_3) wBB2 w' → Ext w1_7 w' := fun m' => e0.ownA m' fun q hq => by have hq : q = b3_3 := hq; omega
   have hWx : ∀ {w' : World}, Vc.Mod (Vc.one b3_3) wBB2 w' → OwnT Vc.encI 1 3 w1_7.heap.size w' (some ⟨b7, 0, none⟩) N W := fun m' => hoW.mod m' fun q h1 h2 => by have := aBlk_some h1; have h2 : q = b3_3 := h2; omega
   refine V.region (VL.op (R.asI rfl) (VL.nil (V.block (?_))))
   refine V.loop [2, 4, 6, 7, 10] (fun x : Nat × List SlI × Option Addr × Nat => [.pointer (some ⟨b0_0, 0, none⟩), .pointer (some ⟨b0_1, 0, none⟩), .pointer (some ⟨b3_3, 0, none⟩), .slice (some ⟨b7, 0, none⟩) N N, .int .i64 (x.1 : Nat)])
    (fun x w' => x.1 ≤ g.edges.length ∧ vals x.2.1 = prtL vs (vals (g.edges.take x.1)) ∧ x.2.1.length ≤ x.1 ∧ (∀ f ∈ x.2.1, f.l.length ≤ 1000000 ∧ TyA w' f.a 3) ∧ Blk w' b3_3 (.cells #[.int .i64 (vs.length : Nat), .slice y.a y.l.length y.c, .slice x.2.2.1 x.2.1.length x.2.2.2] 25 (0, 0)) ∧ KeptI wBB2.heap.size w' x.2.2.1 x.2.2.2 x.2.1 ∧ Vc.Mod (Vc.one b3_3) wBB2 w')
    (fun x => g.edges.length - x.1) (0, [], none, 0) rfl ⟨Nat.zero_le _, rfl, Nat.le_refl _, (fun f hf => by cases hf), hb, KeptI.nil _ _, Vc.Mod.refl _ _⟩ ?_
   rintro ρ ⟨k, z, a, c⟩ w5 ⟨hk, hz, hzl, hzm, hb5, hK, m5⟩
   dsimp only at hk hz hzl hzm hb5 hK m5 ⊢
   have hB5 := hB7.ext (hext m5)
   refine V.seq (V.seq (V.region (VL.op (R.mvI rfl) (VL.op (R.fld' (o := 2) Tryz.runUnderlying25 rfl rfl Tryz.sizeOf23 rfl rfl) (VL.op (R.ld1 Tryz.isAgg23 rfl ((show w5.cell? ⟨b0_0, 2, none⟩ = some (Value.slice g.ea g.edges.length g.ec) from (hB5).cell 2))) (VL.op (R.lenS Tryz.runUnderlying23 rfl) (VL.op (R.lss rfl rfl) (VL.nil (V.condP rfl (fun c69 => V.skip (V.seq (V.block (V.seq (?_))))) (fun c69 => V.exit (V.seq (?_))))))))))))
   ·have hkl : k < g.edges.length := by omega
    have hxl := (hl.each _ (gmem hkl)).1
    have hLE := (hG7.ext (hext m5)).e
    have hW5 := hWx m5
    have hvt : vals (g.edges.take (k + 1)) = vals (g.edges.take k) ++ [(g.edges.getD k default).l] := by
     rw [List.take_succ_eq_append_getElem hkl, gget hkl]; unfold vals; rw [List.map_append]; rfl
    refine V.region (VL.op (R.asS rfl) (VL.nil (V.cut [2, 4, 6, 7, 10, 11] (fun f : SlI => [.pointer (some ⟨b0_0, 0, none⟩), .pointer (some ⟨b0_1, 0, none⟩), .pointer (some ⟨b3_3, 0, none⟩), .slice (some ⟨b7, 0, none⟩) N N, .int .i64 (k : Nat), .slice f.a f.l.length f.c]) (fun f w' => OwnT Vc.encI 1 3 w5.heap.size w' f.a f.c f.l ∧ f.l = prtE vs (g.edges.getD k default).l ∧ Ext w5 w') (V.seq (V.region (VL.op (R.asI rfl) (VL.nil (V.block (?_)))))) (fun rgB6 xB6 wBB6 hBB6 => V.seq (?_)))))
    ·refine V.loop [2, 4, 6, 7, 10, 11, 12] (fun x : Nat × SlI => [.pointer (some ⟨b0_0, 0, none⟩), .pointer (some ⟨b0_1, 0, none⟩), .pointer (some ⟨b3_3, 0, none⟩), .slice (some ⟨b7, 0, none⟩) N N, .int .i64 (k : Nat), .slice x.2.a x.2.l.length x.2.c, .int .i64 (x.1 : Nat)])
      (fun x w' => x.1 ≤ (g.edges.getD k default).l.length ∧ OwnT Vc.encI 1 3 w5.heap.size w' x.2.a x.2.c x.2.l ∧ x.2.l = prtE vs ((g.edges.getD k default).l.take x.1) ∧ x.2.l.length ≤ x.1 ∧ Ext w5 w') (fun x => (g.edges.getD k default).l.length - x.1) (0, default) rfl ⟨Nat.zero_le _, OwnT.nil _ _ _ _ _, rfl, Nat.le_refl _, Vc.Mod.refl _ _⟩ ?_
     rintro ρ ⟨i, f⟩ w6 ⟨hi, ho6, hf6, hfl, e6⟩
     dsimp only at hi ho6 hf6 hfl e6 ⊢
     have hB6 := hB5.ext e6
     have hL6 := hLE.ext e6
     have hW6 := hW5.ext e6
     refine V.seq (V.seq (V.region (VL.op (R.mvI rfl) (VL.op (R.fld' (o := 2) Tryz.runUnderlying25 rfl rfl Tryz.sizeOf23 rfl rfl) (VL.op (R.ld1 Tryz.isAgg23 rfl ((show w6.cell? ⟨b0_0, 2, none⟩ = some (Value.slice g.ea g.edges.length g.ec) from (hB6).cell 2))) (VL.op (R.mvI rfl) (VL.op (R.ixS Tryz.runUnderlying23 Tryz.sizeOf22 rfl rfl (by omega) (by omega) ((hL6.sl).some (i := k) (by omega))) (VL.op (R.ld1 Tryz.isAgg22 rfl (((((hL6.sl).ext (Mod.refl _ _)).row (i := k) (by omega)).cell (i := 0) rfl))) (VL.op (R.lenS Tryz.runUnderlying22 rfl) (VL.op (R.lss rfl rfl) (VL.nil (V.condP rfl (fun c79 => V.skip (V.seq (V.block (V.seq (?_))))) (fun c79 => V.exit (?_))))))))))))))
     ·have hil : i < (g.edges.getD k default).l.length := by omega
      have hvr := hxv k hkl _ (gmem hil)
      have hww := hW' _ hvr.1 hvr.2
      have htk : prtE vs ((g.edges.getD k default).l.take (i + 1)) = f.l ++ if ((g.edges.getD k default).l.getD i default) ∈ vs then [ixI vs ((g.edges.getD k default).l.getD i default)] else [] := by
       rw [List.take_succ_eq_append_getElem hil, ← gget hil, prtE_snoc, hf6]
      refine V.region (VL.op (R.mvS rfl) (VL.op (R.fld' (o := 2) Tryz.runUnderlying25 rfl rfl Tryz.sizeOf23 rfl rfl) (VL.op (R.ld1 Tryz.isAgg23 rfl ((show w6.cell? ⟨b0_0, 2, none⟩ = some (Value.slice g.ea g.edges.length g.ec) from (hB6).cell 2))) (VL.op (R.mvI rfl) (VL.op (R.ixS Tryz.runUnderlying23 Tryz.sizeOf22 rfl rfl (by omega) (by omega) ((hL6.sl).some (i := k) (by omega))) (VL.op (R.ld1 Tryz.isAgg22 rfl (((((hL6.sl).ext (Mod.refl _ _)).row (i := k) (by omega)).cell (i := 0) rfl))) (VL.op (R.mvI rfl) (VL.op (R.ixS Tryz.runUnderlying22 Tryz.sizeOf3 rfl rfl (by omega) (by omega) ((hL6.at hkl).some (i := i) (by omega))) (VL.op (R.ld1 Tryz.isAgg3 rfl (((((hL6.at hkl).ext (Mod.refl _ _)).row (i := i) (by omega)).cell (i := 0) rfl))) (VL.op (R.ixS Tryz.runUnderlying22 Tryz.sizeOf3 rfl rfl (by omega) (by omega) ((hW6.sl).some (i := ((g.edges.getD k default).l.getD i default).toNat) (by omega))) (VL.op (R.ld1 Tryz.isAgg3 rfl (((((hW6.sl).ext (Mod.refl _ _)).row (i := ((g.edges.getD k default).l.getD i default).toNat) (by omega)).cell (i := 0) rfl))) (VL.op (R.geq rfl rfl) (VL.nil (V.condP rfl (fun c93 => V.region (VL.op (R.mvS rfl) (VL.op (R.mvS rfl) (VL.op (R.fld' (o := 2) Tryz.runUnderlying25 rfl rfl Tryz.sizeOf23 rfl rfl) (VL.op (R.ld1 Tryz.isAgg23 rfl ((show w6.cell? ⟨b0_0, 2, none⟩ = some (Value.slice g.ea g.edges.length g.ec) from (hB6).cell 2))) (VL.op (R.mvI rfl) (VL.op (R.ixS Tryz.runUnderlying23 Tryz.sizeOf22 rfl rfl (by omega) (by omega) ((hL6.sl).some (i := k) (by omega))) (VL.op (R.ld1 Tryz.isAgg22 rfl (((((hL6.sl).ext (Mod.refl _ _)).row (i := k) (by omega)).cell (i := 0) rfl))) (VL.op (R.mvI rfl) (VL.op (R.ixS Tryz.runUnderlying22 Tryz.sizeOf3 rfl rfl (by omega) (by omega) ((hL6.at hkl).some (i := i) (by omega))) (VL.op (R.ld1 Tryz.isAgg3 rfl (((((hL6.at hkl).ext (Mod.refl _ _)).row (i := i) (by omega)).cell (i := 0) rfl))) (VL.op (R.ixS Tryz.runUnderlying22 Tryz.sizeOf3 rfl rfl (by omega) (by omega) ((hW6.sl).some (i := ((g.edges.getD k default).l.getD i default).toNat) (by omega))) (VL.op (R.ld1 Tryz.isAgg3 rfl (((((hW6.sl).ext (Mod.refl _ _)).row (i := ((g.edges.getD k default).l.getD i default).toNat) (by omega)).cell (i := 0) rfl))) (VL.append1 el22 Tryz.runUnderlying22 Tryz.sizeOf3 Tryz.zeroValue3 rfl ((W.getD ((g.edges.getD k default).l.getD i default).toNat default)) rfl rfl rfl ho6 rfl rfl rfl (by omega) (by unfold maxLen; omega) e6.size fun a22 c22 w22 vt22 ho22 m22 hf22 => VL.op (R.asS rfl) (VL.nil (V.region (VL.op (R.mvI rfl) (VL.op (R.add rfl rfl (by omega) (by omega)) (VL.op (R.asI rfl) (VL.nil (?_))))))))))))))))))))) (fun c93 => V.skip (V.region (VL.op (R.mvI rfl) (VL.op (R.add rfl rfl (by omega) (by omega)) (VL.op (R.asI rfl) (VL.nil (?_)))))))))))))))))))))
      ·have hin : ((g.edges.getD k default).l.getD i default) ∈ vs := Classical.byContradiction fun h => by rw [if_neg h] at hww; omega
       refine ⟨(i + 1, ⟨a22, c22, f.l ++ [W.getD ((g.edges.getD k default).l.getD i default).toNat default]⟩), by dsimp only; rw [List.length_append]; rfl, ⟨by dsimp only; omega, ho22, ?_, by dsimp only; rw [List.length_append, List.length_singleton]; omega, e6.ownA m22 fun q hq => ho6.ge q hq⟩, by dsimp only; omega⟩
       dsimp only; rw [htk, if_pos hin, hww, if_pos hin]
      ·have hin : ¬ ((g.edges.getD k default).l.getD i default) ∈ vs := fun h => by rw [if_pos h] at hww; have := (ix_at h).1; omega
       refine ⟨(i + 1, f), rfl, ⟨by dsimp only; omega, ho6, ?_, by dsimp only; omega, e6⟩, by dsimp only; omega⟩
       dsimp only; rw [htk, if_neg hin, List.append_nil]
     ·have hil : i = (g.edges.getD k default).l.length := by omega
      subst hil
      rw [List.take_length] at hf6
      exact ⟨f, rfl, ho6, hf6, e6⟩
    ·obtain ⟨hof, hfv, e4⟩ := hBB6
     have hb4 := hb5.ext e4
     have hK4 := hK.ext e4
     have hB4 := hB5.ext e4
     have hL4 := hLE.ext e4
     have hbl := hb5.lt
     have hws5 := m5.size
     have hbs : b3_3 < wBB2.heap.size := hb.lt
     have hfl : xB6.l.length ≤ 1000000 := by rw [hfv]; unfold prtE; rw [List.length_map]; exact Nat.le_trans (List.length_filter_le _ _) hxl
     refine V.region (VL.op (R.mvS rfl) (VL.op (R.lenS Tryz.runUnderlying22 rfl) (VL.op (R.fld' (o := 2) Tryz.runUnderlying25 rfl rfl Tryz.sizeOf23 rfl rfl) (VL.op (R.ld1 Tryz.isAgg23 rfl ((show wBB6.cell? ⟨b0_0, 2, none⟩ = some (Value.slice g.ea g.edges.length g.ec) from (hB4).cell 2))) (VL.op (R.mvI rfl) (VL.op (R.ixS Tryz.runUnderlying23 Tryz.sizeOf22 rfl rfl (by omega) (by omega) ((hL4.sl).some (i := k) (by omega))) (VL.op (R.ld1 Tryz.isAgg22 rfl (((((hL4.sl).ext (Mod.refl _ _)).row (i := k) (by omega)).cell (i := 0) rfl))) (VL.op (R.lenS Tryz.runUnderlying22 rfl) (VL.op (R.eql rfl rfl) (VL.nil (V.condP rfl (fun c116 => V.region (VL.op (R.fld' (o := 2) Tryz.runUnderlying25 rfl rfl Tryz.sizeOf23 rfl rfl) (VL.op (R.ld1 Tryz.isAgg23 rfl ((show wBB6.cell? ⟨b3_3, 2, none⟩ = some (Value.slice a z.length c) from hb4.cell 2))) (VL.op (R.mvS rfl) (VL.append1 el23 Tryz.runUnderlying23 Tryz.sizeOf22 Tryz.zeroValue22 rfl (xB6) rfl rfl rfl hK4.own rfl rfl rfl (by omega) (by unfold maxLen; omega) (Nat.le_trans hws5 e4.size) fun a23 c23 w23 vt23 ho23 m23 hf23 => VL.op (R.fld' (o := 2) Tryz.runUnderlying25 rfl rfl Tryz.sizeOf23 rfl rfl) (VL.store (v := .slice _ _ _) Tryz.sizeOf23 rfl rfl rfl rfl (hb4.mod m23 fun h => by have := hK4.own.ge _ h; omega) rfl rfl fun w24 m24 hs24 hB24 => VL.nil (V.region (VL.op (R.mvI rfl) (VL.op (R.add rfl rfl (by omega) (by omega)) (VL.op (R.asI rfl) (VL.nil (?_)))))))))))) (fun c116 => V.skip (V.region (VL.op (R.mvI rfl) (VL.op (R.add rfl rfl (by omega) (by omega)) (VL.op (R.asI rfl) (VL.nil (?_))))))))))))))))))
     ·have hsub : subB (g.edges.getD k default).l vs = true := prtE_len.1 (by rw [← hfv]; omega)
      have hKn := (hK4.add ho23 m23 hf23 ⟨hof.sl, hof.cap, fun q hq => ⟨by have := hof.ge q hq; omega, hof.lt q hq, fun h => by have := hK.own.lt q h; have := hof.ge q hq; omega⟩⟩).mod m24 fun q hq => by have hq : q = b3_3 := hq; omega
      have hk24 : ∀ {a' : Option Addr}, TyA wBB6 a' 3 → (∀ k, aBlk a' k → wBB2.heap.size ≤ k ∧ ¬ aBlk a k) → TyA w24 a' 3 := fun h1 h2 => (h1.mod m23 fun k hk => (h2 k hk).2).mod m24 fun k hk hq => by have hq : k = b3_3 := hq; have := (h2 k hk).1; omega
      refine ⟨(k + 1, z ++ [xB6], a23, c23), rfl, ⟨by dsimp only; omega, ?_, ?_, ?_, ?_, hKn, ?_⟩, by dsimp only; omega⟩
      ·dsimp only
       rw [hvt, prtL_snoc, if_pos hsub, ← hz, ← hfv]; simp [vals]
      ·dsimp only; rw [List.length_append, List.length_singleton]; omega
      ·intro x hx
       rcases List.mem_append.1 hx with h | h
       ·exact ⟨(hzm x h).1, hk24 ((hzm x h).2.ext e4) fun k hk => ⟨((hK4.each x h).2.2 k hk).1, ((hK4.each x h).2.2 k hk).2.2⟩⟩
       ·rw [List.mem_singleton] at h; rw [h]; exact ⟨hfl, hk24 (OwnT.tyA hof) fun k hk => ⟨by have := hof.ge k hk; omega, fun h => by have := hK.own.lt k h; have := hof.ge k hk; omega⟩⟩
      ·dsimp only; rw [List.length_append]; exact hB24
      ·exact ((m5.ext e4).ownA m23 fun q hq => by have := hK4.own.ge q hq; omega).then m24 fun q _ hq => hq
     ·have hsub : ¬ subB (g.edges.getD k default).l vs = true := fun h => by have := prtE_len.2 h; rw [← hfv] at this; omega
      refine ⟨(k + 1, z, a, c), rfl, ⟨by dsimp only; omega, ?_, by dsimp only; omega, fun f hf => ⟨(hzm f hf).1, (hzm f hf).2.ext e4⟩, hb4, hK4, m5.ext e4⟩, by dsimp only; omega⟩
      dsimp only
      rw [hvt, prtL_snoc, if_neg hsub, List.append_nil, hz]
   ·have hke : k = g.edges.length := by omega
    subst hke
    rw [List.take_length] at hz
    have hZ5 := hZ7.ext (hext m5)
    refine V.region (VL.op (R.ldA Tryz.isAgg25 Tryz.sizeOf25 rfl rfl ((show RowAt _ _ _ (encGr ⟨(vs.length : Nat), y.a, y.c, y.l, a, c, z⟩) from hb5.rowAt 0 3)) rfl) (VL.store (v := .agg _) Tryz.sizeOf25 rfl rfl rfl rfl hZ5 rfl rfl fun w25 m25 hs25 hB25 => VL.op (R.asI rfl) (VL.nil (V.ret (fretCT (v := .int _ _) rfl rfl rfl rfl rfl Tryz.isAgg25 Tryz.sizeOf25 rfl (show RowAt _ _ _ (encGr ⟨(vs.length : Nat), y.a, y.c, y.l, a, c, z⟩) from hB25.rowAt 0 3) rfl (?_))))))
    have hy5 := ho.mod m5 fun q h1 h2 => by have h2 : q = b3_3 := h2; have := ho.ge q h1; omega
    have hlt5 := hb.lt
    have hKm := hK.mod m25 fun q hq => by have hq : q = b0_1 := hq; omega
    refine ⟨(⟨(vs.length : Nat), y.a, y.c, y.l, a, c, z⟩, 0), rfl, ⟨?_, ⟨⟨?_, hKm.LL⟩, ⟨ho.cap, ho.hax⟩, fun x hx => ⟨(hK.each x hx).2.1, (hzm x hx).1⟩⟩, ⟨(OwnT.tyA hy5).mod m25 fun q h1 h2 => by have h2 : q = b0_1 := h2; have := ho.ge q h1; omega, (OwnT.tyA hKm.own), fun x hx => (hzm x hx).2.mod m25 fun q h1 h2 => by have h2 : q = b0_1 := h2; have := ((hK.each x hx).2.2 q h1).1; omega⟩⟩, ?_⟩
    ·unfold partF
     rw [if_pos ⟨hv, hs⟩]
     show ((⟨(vs.length : Nat), y.l, vals z⟩ : Gr), (0 : Int)) = _
     rw [hy, hz, hcf]; rfl
    ·exact (hy5.mod m25 fun q h1 h2 => by have h2 : q = b0_1 := h2; have := ho.ge q h1; omega).sl
    ·exact (hw7.trans (hext m5)).ownA m25 fun q hq => by have hq : q = b0_1 := hq; omega
 ·have h1 : partF (grV g) vs = (default, 1) := by
   unfold partF
   rw [if_neg fun h => ?_]
   rw [h.1] at g1_3; cases g1_3
  exact ⟨(default, 1), rfl, ⟨h1.symm, GNew.zero _ _, GTy.zero _⟩, ((e0_0.trans e0_1).trans e1_1).own m2_1 (by have := e0_0.size; dsimp only; omega)⟩
end Go.Proofs.YtlnbkoojelhjdaaGreatDoor
