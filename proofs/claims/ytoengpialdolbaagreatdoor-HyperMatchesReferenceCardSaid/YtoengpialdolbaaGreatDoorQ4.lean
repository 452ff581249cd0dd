/- Hyper: the reference: vertices that are in no edge, and those that are one alone. -/
import Derived.Test.YtoengpialdolbaaGreatDoorQ1
namespace Go.Proofs.YtoengpialdolbaaGreatDoor
open Go.Vc
structure FxR (w0 : World) (b3 b4 N : Nat) (bs al : List Bool) (E A : List (List Int)) (w : World) : Prop where
  o : OwnT encBo 1 4 w0.heap.size w (some ⟨b3, 0, none⟩) N bs
  p : OwnT encBo 1 4 w0.heap.size w (some ⟨b4, 0, none⟩) N al
  l1 : bs.length = N
  l2 : al.length = N
  v1 : ∀ j : Nat, j < N → bs.getD j default = inE E (j : Int)
  v2 : ∀ j : Nat, j < N → al.getD j default = decide ([(j : Int)] ∈ A)
  e : Ext w0 w
set_option maxRecDepth 100000 in
set_option maxHeartbeats 8000000 in
theorem rfixed_spec (g : GrW) (w : World) (hG : GOk w g) (hl : GLen g) :
    RetsX Tryz.prog 12 #[.agg (encGr g).toArray] w (fun z : SlI × SlI => .tuple #[.slice z.1.a z.1.l.length z.1.c, .slice z.2.a z.2.l.length z.2.c])
      (fun z w' => (z.1.l, z.2.l) = fixF (grV g) ∧ IntSl w' z.1.a z.1.l ∧ IntSl w' z.2.a z.2.l) := by
  refine enter (args := [_]) Tryz.func12 rfl Tryz.ntmps12 (by kernel_rfl) rfl ?_
  refine V.seq (V.region (VL.box (v := .agg _) rfl fun b0_0 w0_0 hb0_0 e0_0 hB0_0 => VL.op (R.asS rfl) (VL.op (R.asS rfl) (VL.nil (V.seq (V.seq (V.region (VL.op (R.ldA Tryz.isAgg25 Tryz.sizeOf25 rfl rfl ((show RowAt _ _ _ (encGr g) from (hB0_0.rowAt 0 3))) rfl) (VL.callP Tryz.call16 rfl (rvalid_spec g _ (hG.ext e0_0) hl) fun w1_1 e1_1 => VL.op (R.not rfl) (VL.nil (V.cond rfl (fun c13 => V.seq (V.region (VL.op (R.asS rfl) (VL.op (R.asS rfl) (VL.nil (V.ret (fret2 (v := .slice _ _ _) (x := .slice _ _ _) rfl rfl rfl rfl rfl (?_)))))))) (fun c13 => V.skip (V.seq (?_))))))))))))))
  · have hc : fixF (grV g) = ([], []) := by unfold fixF; rw [if_neg]; intro h; rw [h] at c13; cases c13
    exact ⟨(default, default), rfl, ⟨hc.symm, TSl.nil _ _ _ _, TSl.nil _ _ _ _⟩, e0_0.trans e1_1⟩
  · have hv : validG (grV g) = true := by simpa using c13
    have hn := costB_iff.1 (validG_iff.1 hv).1
    obtain ⟨N, hN⟩ : ∃ N : Nat, g.n = (N : Int) := ⟨g.n.toNat, by have h0 : 0 ≤ g.n := hn.1; omega⟩
    have hN4 : N ≤ 4000 := by have h0 : g.n ≤ 4000 := hn.2.1; omega
    have hE20 : g.edges.length ≤ 20000 := by have := (validG_iff.1 hv).2.1; simpa [grV, vals] using this
    have hB1 := hB0_0.ext e1_1
    have hw1 := e0_0.trans e1_1
    have hGb := hG.ext hw1
    have hxv : ∀ i, i < g.edges.length → (g.edges.getD i default).l ≠ [] ∧ ∀ y ∈ (g.edges.getD i default).l, 0 ≤ y ∧ y < (N : Int) := fun i hi => by
      have := (validG_iff.1 hv).2.2.1 _ (List.mem_map_of_mem (gmem hi))
      refine ⟨this.1, fun y hy => ?_⟩
      have := this.2.2 y hy; rw [show (grV g).n = g.n from rfl, hN] at this; exact this
    refine V.region (VL.op (R.fld' (o := 0) Tryz.runUnderlying25 rfl rfl Tryz.sizeOf3 rfl rfl) (VL.op (R.ld1 Tryz.isAgg3 rfl ((show w1_1.cell? ⟨b0_0, 0, none⟩ = some (Value.int .i64 ((N : Nat) : Int)) from by rw [← hN]; exact (hB1).cell 0))) (VL.makeSl (enc := encBo ) el47 ( false) rfl rfl rfl (by omega) (by unfold maxLen; omega) (Nat.le_refl _) fun b3 w3 hb3 e3 ho3 => VL.op (R.asS rfl) (VL.nil (V.seq (V.region (VL.op (R.fld' (o := 0) Tryz.runUnderlying25 rfl rfl Tryz.sizeOf3 rfl rfl) (VL.op (R.ld1 Tryz.isAgg3 rfl ((show w3.cell? ⟨b0_0, 0, none⟩ = some (Value.int .i64 ((N : Nat) : Int)) from by rw [← hN]; exact (hB1.ext e3).cell 0))) (VL.makeSl (enc := encBo ) el47 ( false) rfl rfl rfl (by omega) (by unfold maxLen; omega) (Nat.le_refl _) fun b4 w4 hb4 e4 ho4 => VL.op (R.asS rfl) (VL.nil (V.cut [1, 4, 5] (fun x : List Bool × List Bool => [.pointer (some ⟨b0_0, 0, none⟩), .slice (some ⟨b3, 0, none⟩) N N, .slice (some ⟨b4, 0, none⟩) N N]) (fun x w' => FxR w1_1 b3 b4 N x.1 x.2 (vals g.edges) (vals g.edges) w') (V.seq (V.region (VL.op (R.asI rfl) (VL.nil (V.block (?_)))))) (fun rgB0 xB0 wBB0 hBB0 => V.seq (?_)))))))))))))
    · refine V.loop [1, 4, 5, 6] (fun x : Nat × List Bool × List Bool => [.pointer (some ⟨b0_0, 0, none⟩), .slice (some ⟨b3, 0, none⟩) N N, .slice (some ⟨b4, 0, none⟩) N N, .int .i64 (x.1 : Nat)])
        (fun x w' => x.1 ≤ g.edges.length ∧ FxR w1_1 b3 b4 N x.2.1 x.2.2 (vals (g.edges.take x.1)) (vals (g.edges.take x.1)) w') (fun x => g.edges.length - x.1) (0, List.replicate N false, List.replicate N false) rfl ⟨Nat.zero_le _, ⟨ho3.ext e4, ho4.weaken e3.size, by simp, by simp, fun j hj => by simp [List.getD, hj, inE, vals], fun j hj => by simp [List.getD, hj, vals], e3.trans e4⟩⟩ ?_
      rintro ρ ⟨i, bs, al⟩ w5 ⟨hi, hJ⟩
      dsimp only at hi hJ ⊢
      have hb34 : b3 ≠ b4 := by have := ho3.lt b3 ⟨_, rfl, rfl⟩; omega
      have hE5 := (hGb.ext hJ.e).e
      have hb5 := hB1.ext hJ.e
      refine V.seq (V.seq (V.region (VL.op (R.mvI rfl) (VL.op (R.fld' (o := 2) Tryz.runUnderlying25 rfl rfl Tryz.sizeOf23 rfl rfl) (VL.op (R.ld1 Tryz.isAgg23 rfl ((show w5.cell? ⟨b0_0, 2, none⟩ = some (Value.slice g.ea g.edges.length g.ec) from (hb5).cell 2))) (VL.op (R.lenS Tryz.runUnderlying23 rfl) (VL.op (R.lss rfl rfl) (VL.nil (V.condP rfl (fun c24 => V.skip (V.seq (V.block (V.seq (V.seq (?_)))))) (fun c24 => V.exit (?_)))))))))))
      · have hil : i < g.edges.length := by omega
        have hxs := hxv i hil
        have hvt : vals (g.edges.take (i + 1)) = vals (g.edges.take i) ++ [(g.edges.getD i default).l] := by
          rw [List.take_succ_eq_append_getElem hil, gget hil]; unfold vals; rw [List.map_append]; rfl
        have hxl := (hl.each _ (gmem hil)).1
        refine V.region (VL.op (R.asI rfl) (VL.nil (V.block (?_))))
        refine V.loop [1, 4, 5, 6, 7] (fun x : Nat × List Bool => [.pointer (some ⟨b0_0, 0, none⟩), .slice (some ⟨b3, 0, none⟩) N N, .slice (some ⟨b4, 0, none⟩) N N, .int .i64 (i : Nat), .int .i64 (x.1 : Nat)])
          (fun x w' => x.1 ≤ (g.edges.getD i default).l.length ∧ FxR w1_1 b3 b4 N x.2 al (vals (g.edges.take i) ++ [(g.edges.getD i default).l.take x.1]) (vals (g.edges.take i)) w') (fun x => (g.edges.getD i default).l.length - x.1) (0, bs) rfl ⟨Nat.zero_le _, ⟨hJ.o, hJ.p, hJ.l1, hJ.l2, fun j hj => by rw [hJ.v1 j hj, inE_snoc]; simp, hJ.v2, hJ.e⟩⟩ ?_
        rintro ρ ⟨k, b2⟩ w6 ⟨hk, hJ2⟩
        dsimp only at hk hJ2 ⊢
        have hl2 := hJ2.l1
        have hE6 := (hGb.ext hJ2.e).e
        have hb6 := hB1.ext hJ2.e
        refine V.seq (V.seq (V.region (VL.op (R.mvI rfl) (VL.op (R.fld' (o := 2) Tryz.runUnderlying25 rfl rfl Tryz.sizeOf23 rfl rfl) (VL.op (R.ld1 Tryz.isAgg23 rfl ((show w6.cell? ⟨b0_0, 2, none⟩ = some (Value.slice g.ea g.edges.length g.ec) from (hb6).cell 2))) (VL.op (R.mvI rfl) (VL.op (R.ixS Tryz.runUnderlying23 Tryz.sizeOf22 rfl rfl (by omega) (by omega) ((hE6.sl).some (i := i) (by omega))) (VL.op (R.ld1 Tryz.isAgg22 rfl (((((hE6.sl).ext (Mod.refl _ _)).row (i := i) (by omega)).cell (i := 0) rfl))) (VL.op (R.lenS Tryz.runUnderlying22 rfl) (VL.op (R.lss rfl rfl) (VL.nil (V.condP rfl (fun c34 => V.skip (V.seq (V.block (?_)))) (fun c34 => V.exit (V.seq (?_)))))))))))))))
        · have hkl : k < (g.edges.getD i default).l.length := by omega
          have hvv := hxs.2 _ (gmem hkl)
          refine V.region (VL.op (R.mvS rfl) (VL.op (R.fld' (o := 2) Tryz.runUnderlying25 rfl rfl Tryz.sizeOf23 rfl rfl) (VL.op (R.ld1 Tryz.isAgg23 rfl ((show w6.cell? ⟨b0_0, 2, none⟩ = some (Value.slice g.ea g.edges.length g.ec) from (hb6).cell 2))) (VL.op (R.mvI rfl) (VL.op (R.ixS Tryz.runUnderlying23 Tryz.sizeOf22 rfl rfl (by omega) (by omega) ((hE6.sl).some (i := i) (by omega))) (VL.op (R.ld1 Tryz.isAgg22 rfl (((((hE6.sl).ext (Mod.refl _ _)).row (i := i) (by omega)).cell (i := 0) rfl))) (VL.op (R.mvI rfl) (VL.op (R.ixS Tryz.runUnderlying22 Tryz.sizeOf3 rfl rfl (by omega) (by omega) ((hE6.at hil).some (i := k) (by omega))) (VL.op (R.ld1 Tryz.isAgg3 rfl (((((hE6.at hil).ext (Mod.refl _ _)).row (i := k) (by omega)).cell (i := 0) rfl))) (VL.op (R.ixS Tryz.runUnderlying47 Tryz.sizeOf4 rfl rfl (by omega) (by omega) ((hJ2.o.sl).some (i := ((g.edges.getD i default).l.getD k default).toNat) (by omega))) (VL.ownSt eltBo (v := .bool _) Tryz.sizeOf4 (hJ2.o) ((g.edges.getD i default).l.getD k default).toNat 0 true rfl rfl (by omega) rfl rfl rfl rfl rfl fun w11 ho11 m11 hs11 => VL.nil (V.region (VL.op (R.mvI rfl) (VL.op (R.add rfl rfl (by omega) (by omega)) (VL.op (R.asI rfl) (VL.nil (?_)))))))))))))))))
          refine ⟨(k + 1, b2.set ((g.edges.getD i default).l.getD k default).toNat true), rfl, ⟨by dsimp only; omega, ho11, hJ2.p.mod m11 fun q h1 h2 => by have := aBlk_some h1; have := aBlk_some h2; omega, by simp [hl2], hJ2.l2, fun j hj => ?_, hJ2.v2, hJ2.e.ownA m11 fun q hq => hJ2.o.ge q hq⟩, by dsimp only; omega⟩
          dsimp only
          have ht : (g.edges.getD i default).l.take (k + 1) = (g.edges.getD i default).l.take k ++ [((g.edges.getD i default).l.getD k default)] := by rw [List.take_succ_eq_append_getElem hkl, gget hkl]
          rw [ht, inE_snoc]
          have h0 := hJ2.v1 j hj
          rw [inE_snoc] at h0
          by_cases e : j = ((g.edges.getD i default).l.getD k default).toNat
          · have e2 : (j : Int) = ((g.edges.getD i default).l.getD k default) := by omega
            rw [← e, setD_eq _ (by omega), e2, decide_eq_true (by rw [List.mem_append]; right; exact List.mem_singleton.2 rfl), Bool.or_true]
          · have e2 : ¬ (j : Int) = ((g.edges.getD i default).l.getD k default) := by omega
            rw [setD_ne _ e, h0]
            congr 1
            exact decide_eq_decide.2 (by rw [List.mem_append, List.mem_singleton]; exact ⟨.inl, fun h => h.resolve_right e2⟩)
        · have hke : k = (g.edges.getD i default).l.length := by omega
          subst hke
          rw [List.take_length, ← hvt] at hJ2
          have hl2b := hJ2.l2
          have hxp : 0 < (g.edges.getD i default).l.length := List.length_pos_iff.2 hxs.1
          have hff := hxs.2 _ (gmem hxp)
          refine V.region (VL.op (R.fld' (o := 2) Tryz.runUnderlying25 rfl rfl Tryz.sizeOf23 rfl rfl) (VL.op (R.ld1 Tryz.isAgg23 rfl ((show w6.cell? ⟨b0_0, 2, none⟩ = some (Value.slice g.ea g.edges.length g.ec) from (hb6).cell 2))) (VL.op (R.mvI rfl) (VL.op (R.ixS Tryz.runUnderlying23 Tryz.sizeOf22 rfl rfl (by omega) (by omega) ((hE6.sl).some (i := i) (by omega))) (VL.op (R.ld1 Tryz.isAgg22 rfl (((((hE6.sl).ext (Mod.refl _ _)).row (i := i) (by omega)).cell (i := 0) rfl))) (VL.op (R.lenS Tryz.runUnderlying22 rfl) (VL.op (R.eql rfl rfl) (VL.nil (V.condP rfl (fun c53 => V.region (VL.op (R.mvS rfl) (VL.op (R.fld' (o := 2) Tryz.runUnderlying25 rfl rfl Tryz.sizeOf23 rfl rfl) (VL.op (R.ld1 Tryz.isAgg23 rfl ((show w6.cell? ⟨b0_0, 2, none⟩ = some (Value.slice g.ea g.edges.length g.ec) from (hb6).cell 2))) (VL.op (R.mvI rfl) (VL.op (R.ixS Tryz.runUnderlying23 Tryz.sizeOf22 rfl rfl (by omega) (by omega) ((hE6.sl).some (i := i) (by omega))) (VL.op (R.ld1 Tryz.isAgg22 rfl (((((hE6.sl).ext (Mod.refl _ _)).row (i := i) (by omega)).cell (i := 0) rfl))) (VL.op (R.ixS Tryz.runUnderlying22 Tryz.sizeOf3 rfl rfl (by omega) (by omega) ((hE6.at hil).some (i := 0) hxp)) (VL.op (R.ld1 Tryz.isAgg3 rfl ((((hE6.at hil).row (i := 0) hxp).cell (i := 0) rfl))) (VL.op (R.ixS Tryz.runUnderlying47 Tryz.sizeOf4 rfl rfl (by omega) (by omega) ((hJ2.p.sl).some (i := ((g.edges.getD i default).l.getD 0 default).toNat) (by omega))) (VL.ownSt eltBo (v := .bool _) Tryz.sizeOf4 (hJ2.p) ((g.edges.getD i default).l.getD 0 default).toNat 0 true rfl rfl (by omega) rfl rfl rfl rfl rfl fun w13 ho13 m13 hs13 => VL.nil (V.region (VL.op (R.mvI rfl) (VL.op (R.add rfl rfl (by omega) (by omega)) (VL.op (R.asI rfl) (VL.nil (?_))))))))))))))))) (fun c53 => V.skip (V.region (VL.op (R.mvI rfl) (VL.op (R.add rfl rfl (by omega) (by omega)) (VL.op (R.asI rfl) (VL.nil (?_))))))))))))))))
          · have h1 : (g.edges.getD i default).l.length = 1 := by omega
            have hee : (g.edges.getD i default).l = [(g.edges.getD i default).l.getD 0 default] := by
              match (g.edges.getD i default).l, h1 with
              | [a], _ => rfl
            refine ⟨(i + 1, b2, al.set ((g.edges.getD i default).l.getD 0 default).toNat true), rfl, ⟨by dsimp only; omega, hJ2.o.mod m13 fun q h1 h2 => by have := aBlk_some h1; have := aBlk_some h2; omega, ho13, hJ2.l1, by simp [hl2b], hJ2.v1, fun j hj => ?_, hJ2.e.ownA m13 fun q hq => hJ2.p.ge q hq⟩, by dsimp only; omega⟩
            dsimp only
            rw [hvt]
            by_cases e : j = ((g.edges.getD i default).l.getD 0 default).toNat
            · have e2 : (j : Int) = (g.edges.getD i default).l.getD 0 default := by omega
              rw [← e, setD_eq _ (by omega), e2, decide_eq_true (by rw [List.mem_append]; right; exact List.mem_singleton.2 hee.symm)]
            · rw [setD_ne _ e, hJ2.v2 j hj]
              refine decide_eq_decide.2 ?_
              rw [List.mem_append, List.mem_singleton]
              refine ⟨.inl, fun h => h.resolve_right fun h2 => ?_⟩
              rw [hee] at h2
              have := List.cons.inj h2
              omega
          · have h1 : ¬ (g.edges.getD i default).l.length = 1 := by omega
            refine ⟨(i + 1, b2, al), rfl, ⟨by dsimp only; omega, hJ2.o, hJ2.p, hJ2.l1, hJ2.l2, hJ2.v1, fun j hj => ?_, hJ2.e⟩, by dsimp only; omega⟩
            dsimp only
            rw [hvt, hJ2.v2 j hj]
            refine decide_eq_decide.2 ?_
            rw [List.mem_append, List.mem_singleton]
            exact ⟨.inl, fun h => h.resolve_right fun h2 => h1 (by rw [← h2]; rfl)⟩
      · have hie : i = g.edges.length := by omega
        subst hie
        rw [List.take_length] at hJ
        exact ⟨(bs, al), rfl, hJ⟩
    · obtain ⟨bs, al⟩ := xB0
      have hJ := hBB0
      dsimp only at hJ ⊢
      have hb6 := hB1.ext hJ.e
      have hl1 := hJ.l1
      have hl2 := hJ.l2
      refine V.region (VL.op (R.asS rfl) (VL.nil (V.seq (V.region (VL.op (R.asS rfl) (VL.nil (V.seq (V.seq (V.region (VL.op (R.asI rfl) (VL.nil (V.block (?_)))))))))))))
      refine V.loop [1, 4, 5, 8, 9, 10] (fun x : Nat × SlI × SlI => [.pointer (some ⟨b0_0, 0, none⟩), .slice (some ⟨b3, 0, none⟩) N N, .slice (some ⟨b4, 0, none⟩) N N, .slice x.2.1.a x.2.1.l.length x.2.1.c, .slice x.2.2.a x.2.2.l.length x.2.2.c, .int .i64 (x.1 : Nat)])
        (fun x w' => x.1 ≤ N ∧ OwnT Vc.encI 1 3 wBB0.heap.size w' x.2.1.a x.2.1.c x.2.1.l ∧ x.2.1.l = freeK (vals g.edges) x.1 ∧ OwnT Vc.encI 1 3 wBB0.heap.size w' x.2.2.a x.2.2.c x.2.2.l ∧ x.2.2.l = aloneK (vals g.edges) x.1 ∧ Sep x.2.1.a x.2.2.a ∧ Ext wBB0 w') (fun x => N - x.1) (0, default, default) rfl ⟨Nat.zero_le _, OwnT.nil _ _ _ _ _, rfl, OwnT.nil _ _ _ _ _, rfl, Sep.nil _, Vc.Mod.refl _ _⟩ ?_
      rintro ρ ⟨k, x, y⟩ w7 ⟨hk, hox, hx, hoy, hy, hS, e7⟩
      dsimp only at hk hox hx hoy hy hS e7 ⊢
      have hb7 := hb6.ext e7
      have hxl : x.l.length ≤ k := by rw [hx]; exact filt_len _ _
      have hyl : y.l.length ≤ k := by rw [hy]; exact filt_len _ _
      refine V.seq (V.seq (V.region (VL.op (R.mvI rfl) (VL.op (R.fld' (o := 0) Tryz.runUnderlying25 rfl rfl Tryz.sizeOf3 rfl rfl) (VL.op (R.ld1 Tryz.isAgg3 rfl ((show w7.cell? ⟨b0_0, 0, none⟩ = some (Value.int .i64 ((N : Nat) : Int)) from by rw [← hN]; exact (hb7).cell 0))) (VL.op (R.lss rfl rfl) (VL.nil (V.condP rfl (fun c66 => V.skip (V.seq (V.block (V.cut [1, 4, 5, 8, 9, 10] (fun x : SlI => [.pointer (some ⟨b0_0, 0, none⟩), .slice (some ⟨b3, 0, none⟩) N N, .slice (some ⟨b4, 0, none⟩) N N, .slice x.a x.l.length x.c, .slice y.a y.l.length y.c, .int .i64 (k : Nat)]) (fun x w' => OwnT Vc.encI 1 3 wBB0.heap.size w' x.a x.c x.l ∧ x.l = freeK (vals g.edges) (k + 1) ∧ OwnT Vc.encI 1 3 wBB0.heap.size w' y.a y.c y.l ∧ Sep x.a y.a ∧ Ext wBB0 w') (V.seq (V.region (VL.op (R.mvS rfl) (VL.op (R.mvI rfl) (VL.op (R.ixS Tryz.runUnderlying47 Tryz.sizeOf4 rfl rfl (by omega) (by omega) (((hJ.o.ext e7).sl).some (i := k) (by omega))) (VL.op (R.ld1 Tryz.isAgg4 rfl ((((((hJ.o.ext e7).sl).ext (Mod.refl _ _)).row (i := k) (by omega)).cell (i := 0) rfl))) (VL.op (R.not rfl) (VL.nil (V.cond rfl (fun c73 => V.region (VL.op (R.mvS rfl) (VL.op (R.mvI rfl) (VL.append1 el22 Tryz.runUnderlying22 Tryz.sizeOf3 Tryz.zeroValue3 rfl (((k : Nat) : Int)) rfl rfl rfl hox rfl rfl rfl (by omega) (by unfold maxLen; omega) e7.size fun a20 c20 w20 vt20 ho20 m20 hf20 => VL.op (R.asS rfl) (VL.nil (?_)))))) (fun c73 => V.skip (?_))))))))))) (fun rgC73 xC73 wBC73 hBC73 => V.seq (?_)))))) (fun c66 => V.exit (V.seq (V.region (VL.op (R.mvS rfl) (VL.op (R.mvS rfl) (VL.op (R.asS rfl) (VL.op (R.asS rfl) (VL.nil (V.ret (fret2 (v := .slice _ _ _) (x := .slice _ _ _) rfl rfl rfl rfl rfl (?_)))))))))))))))))))
      · have hkN : k < N := by omega
        refine ⟨⟨a20, c20, x.l ++ [((k : Nat) : Int)]⟩, by dsimp only; rw [List.length_append]; rfl, ho20, ?_, hoy.mod m20 fun q h1 h2 => hS q h2 h1, hS.grown hf20 hoy.lt, e7.ownA m20 fun q hq => hox.ge q hq⟩
        dsimp only
        rw [freeK_succ, ← hx, ← hJ.v1 k hkN, if_pos (by simpa using c73)]
      · have hkN : k < N := by omega
        refine ⟨x, rfl, hox, ?_, hoy, hS, e7⟩
        rw [freeK_succ, ← hx, ← hJ.v1 k hkN, if_neg (by simpa using c73), List.append_nil]
      · have hkN : k < N := by omega
        obtain ⟨hox2, hx2, hoy2, hS2, e8⟩ := hBC73
        refine V.region (VL.op (R.mvS rfl) (VL.op (R.mvI rfl) (VL.op (R.ixS Tryz.runUnderlying47 Tryz.sizeOf4 rfl rfl (by omega) (by omega) (((hJ.p.ext e8).sl).some (i := k) (by omega))) (VL.op (R.ld1 Tryz.isAgg4 rfl ((((((hJ.p.ext e8).sl).ext (Mod.refl _ _)).row (i := k) (by omega)).cell (i := 0) rfl))) (VL.nil (V.cond rfl (fun c81 => V.region (VL.op (R.mvS rfl) (VL.op (R.mvI rfl) (VL.append1 el22 Tryz.runUnderlying22 Tryz.sizeOf3 Tryz.zeroValue3 rfl (((k : Nat) : Int)) rfl rfl rfl hoy2 rfl rfl rfl (by omega) (by unfold maxLen; omega) e8.size fun a22 c22 w22 vt22 ho22 m22 hf22 => VL.op (R.asS rfl) (VL.nil (V.region (VL.op (R.mvI rfl) (VL.op (R.add rfl rfl (by omega) (by omega)) (VL.op (R.asI rfl) (VL.nil (?_))))))))))) (fun c81 => V.skip (V.region (VL.op (R.mvI rfl) (VL.op (R.add rfl rfl (by omega) (by omega)) (VL.op (R.asI rfl) (VL.nil (?_)))))))))))))
        · refine ⟨(k + 1, xC73, ⟨a22, c22, y.l ++ [((k : Nat) : Int)]⟩), by dsimp only; rw [List.length_append]; rfl, ⟨by dsimp only; omega, hox2.mod m22 fun q h1 h2 => hS2 q h1 h2, hx2, ho22, ?_, (hS2.symm.grown hf22 hox2.lt).symm, e8.ownA m22 fun q hq => hoy2.ge q hq⟩, by dsimp only; omega⟩
          dsimp only
          have := hJ.v2 k hkN
          rw [c81] at this
          rw [aloneK_succ, ← hy, if_pos (of_decide_eq_true this.symm)]
        · refine ⟨(k + 1, xC73, y), rfl, ⟨by dsimp only; omega, hox2, hx2, hoy2, ?_, hS2, e8⟩, by dsimp only; omega⟩
          dsimp only
          have := hJ.v2 k hkN
          rw [c81] at this
          rw [aloneK_succ, ← hy, if_neg (of_decide_eq_false this.symm), List.append_nil]
      · have hkN : k = N := by omega
        subst hkN
        refine ⟨(x, y), rfl, ⟨?_, hox.sl, hoy.sl⟩, (hw1.trans hJ.e).trans e7⟩
        unfold fixF
        rw [if_pos hv, show (grV g).n = g.n from rfl, hN, hx, hy]
        rfl
end Go.Proofs.YtoengpialdolbaaGreatDoor
