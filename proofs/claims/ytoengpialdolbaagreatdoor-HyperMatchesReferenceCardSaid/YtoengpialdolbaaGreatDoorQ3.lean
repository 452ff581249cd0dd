/- Hyper: the reference: a graph is made. -/
import Derived.Test.YtoengpialdolbaaGreatDoorQ2
namespace Go.Proofs.YtoengpialdolbaaGreatDoor
open Go.Vc
set_option maxRecDepth 100000 in
set_option maxHeartbeats 8000000 in
theorem rmake_spec (n : Int) (ca ea : Option Addr) (cc ec : Nat) (cost : List Int) (E : List SlI) (w : World) (hC : IntSl w ca cost) (hE : LL w ea E) (hc : cost.length ≤ 1000000) (hax : ca = none → cc = 0) (hl : ELen E) :
    RetsX Tryz.prog 8 #[.int .i64 n, .slice ca cost.length cc, .slice ea E.length ec] w (fun z : GrW × Int => .tuple #[.agg (encGr z.1).toArray, .int .i64 z.2]) (fun z w' => (grV z.1, z.2) = makeF n cost (vals E) ∧ GNew w w' z.1) := by
  have hle := hl.e
  refine enter (args := [_, _, _]) Tryz.func8 rfl Tryz.ntmps8 (by kernel_rfl) rfl ?_
  refine V.seq (V.region (VL.alloc Tryz.zeroValue25 fun b0_0 w0_0 hb0_0 e0_0 hB0_0 => VL.op (R.asI rfl) (VL.nil (V.seq (V.seq (V.region (VL.op (R.mvI rfl) (VL.op (R.mvS rfl) (VL.callP Tryz.call26 rfl (rcosts_spec n ca cc cost _ (hC.ext e0_0) (by omega)) fun w1_2 e1_2 => VL.op (R.not rfl) (VL.nil (V.cond rfl (fun c13 => V.seq (V.region (VL.op (R.build Tryz.zeroValue25 Tryz.runUnderlying25 pl25 rfl) (VL.store (v := .agg _) Tryz.sizeOf25 rfl rfl rfl rfl (hB0_0.ext e1_2) rfl rfl fun w2_1 m2_1 hs2_1 hB2_1 => VL.op (R.asI rfl) (VL.nil (V.ret (fretCT (v := .int _ _) rfl rfl rfl rfl rfl Tryz.isAgg25 Tryz.sizeOf25 rfl (hB2_1.rowAt 0 3) rfl (?_)))))))) (fun c13 => V.skip (V.seq (V.seq (?_)))))))))))))))
  · have h1 : makeF n cost (vals E) = (default, 1) := by
      unfold makeF
      rw [if_neg fun h => ?_]
      rw [h.1] at c13; cases c13
    exact ⟨(default, 1), rfl, ⟨h1.symm, GNew.zero _ _⟩, (e0_0.trans e1_2).own m2_1 (Nat.le_of_eq hb0_0.symm)⟩
  · have hc1 : costB n cost = true := by simpa using c13
    have hn := costB_iff.1 hc1
    have hw1 := e0_0.trans e1_2
    have nb : w.heap.size ≤ b0_0 := Nat.le_of_eq hb0_0.symm
    have hBx : Blk w1_2 b0_0 (.cells #[.int .i64 0, .slice none 0 0, .slice none 0 0] 25 (0, 0)) := hB0_0.ext e1_2
    refine V.region (VL.op (R.asI rfl) (VL.nil (V.block (?_))))
    refine V.loop [0, 1, 2, 6, 8] (fun k : Nat => [.int .i64 n, .slice ca cost.length cc, .slice ea E.length ec, .pointer (some ⟨b0_0, 0, none⟩), .int .i64 (k : Nat)]) (fun k w' => k ≤ E.length ∧ (∀ i, i < k → (E.getD i default).l ≠ [] ∧ setB (setF (E.getD i default).l) n = true) ∧ Ext w1_2 w') (fun k => E.length - k) 0 rfl ⟨Nat.zero_le _, fun i h => absurd h (Nat.not_lt_zero i), Vc.Mod.refl _ _⟩ ?_
    rintro ρ k w2 ⟨hk, hi, e⟩
    have hE2 := hE.ext (hw1.trans e)
    have hB2 := hBx.ext e
    refine V.seq (V.seq (V.region (VL.op (R.mvI rfl) (VL.op (R.mvS rfl) (VL.op (R.lenS Tryz.runUnderlying23 rfl) (VL.op (R.lss rfl rfl) (VL.nil (V.condP rfl (fun c18 => V.skip (V.seq (V.block (V.seq (?_))))) (fun c18 => V.exit (V.seq (?_)))))))))))
    · have hkl : k < E.length := by omega
      have hxk := hl.each _ (gmem hkl)
      have hsl := setF_len (E.getD k default).l
      refine V.region (VL.op (R.mvS rfl) (VL.op (R.mvI rfl) (VL.op (R.ixS Tryz.runUnderlying23 Tryz.sizeOf22 rfl rfl (by omega) (by omega) ((hE2.sl).some (i := k) (by omega))) (VL.op (R.ld1 Tryz.isAgg22 rfl (((((hE2.sl).ext (Mod.refl _ _)).row (i := k) (by omega)).cell (i := 0) rfl))) (VL.op (R.lenS Tryz.runUnderlying22 rfl) (VL.op (R.eql rfl rfl) (VL.op (R.mvB rfl) (VL.orP rfl rfl (fun g6_6 => VL.op (R.mvS rfl) (VL.gT rfl rfl (VL.op (R.mvI rfl) (VL.gT rfl rfl (VL.op (R.ixS Tryz.runUnderlying23 Tryz.sizeOf22 rfl rfl (by omega) (by omega) ((hE2.sl).some (i := k) (by omega))) (VL.gT rfl rfl (VL.op (R.ld1 Tryz.isAgg22 rfl (((((hE2.sl).ext (Mod.refl _ _)).row (i := k) (by omega)).cell (i := 0) rfl))) (VL.gT rfl rfl (VL.callX Tryz.call28 rfl (rset_spec (E.getD k default).a (E.getD k default).c (E.getD k default).l w2 hxk.1 (hE2.at hkl)) fun x6 w6 hS6 e6 => VL.gT rfl rfl (VL.op (R.mvI rfl) (VL.gT rfl rfl (VL.callP Tryz.call27 rfl (verts_spec x6.1 x6.2 (setF (E.getD k default).l) n _ (by omega) (OwnT.sl hS6)) fun w6_13 e6_13 => VL.gT rfl rfl (VL.op (R.not rfl) (VL.op (R.pickFB rfl rfl) (VL.nil (V.cond rfl (fun c36 => V.seq (?_)) (fun c36 => V.skip (V.region (VL.op (R.mvI rfl) (VL.op (R.add rfl rfl (by omega) (by omega)) (VL.op (R.asI rfl) (VL.nil (⟨k + 1, rfl, ⟨by omega, fun i h => ?_, e.trans (e6.trans e6_13)⟩, by omega⟩))))))))))))))))))))))) (fun g6_6 => VL.gF rfl rfl (VL.gF rfl rfl (VL.gF rfl rfl (VL.gF rfl rfl (VL.gF rfl rfl (VL.gF rfl rfl (VL.gF rfl rfl (VL.op (R.pickTB rfl rfl) (VL.nil (V.condT rfl (V.seq (?_))))))))))))))))))))
      · refine V.region (VL.op (R.build Tryz.zeroValue25 Tryz.runUnderlying25 pl25 rfl) (VL.store (v := .agg _) Tryz.sizeOf25 rfl rfl rfl rfl (hB2.ext (e6.trans e6_13)) rfl rfl fun w7 m7 hs7 hB7 => VL.op (R.asI rfl) (VL.nil (V.ret (fretCT (v := .int _ _) rfl rfl rfl rfl rfl Tryz.isAgg25 Tryz.sizeOf25 rfl (show RowAt _ _ _ (encGr default) from hB7.rowAt 0 3) rfl (?_))))))
        refine ⟨(default, 1), rfl, ⟨(makeF_bad (List.mem_map_of_mem (gmem hkl)) fun h => ?_).symm, GNew.zero _ _⟩, (((hw1.trans e).trans e6).trans e6_13).own m7 nb⟩
        rw [h.2] at c36; cases c36
      · by_cases h2 : i = k
        · subst h2
          exact ⟨fun h => by rw [h] at g6_6; exact g6_6 rfl, by simpa using c36⟩
        · exact hi i (by omega)
      · refine V.region (VL.op (R.build Tryz.zeroValue25 Tryz.runUnderlying25 pl25 rfl) (VL.store (v := .agg _) Tryz.sizeOf25 rfl rfl rfl rfl hB2 rfl rfl fun w7 m7 hs7 hB7 => VL.op (R.asI rfl) (VL.nil (V.ret (fretCT (v := .int _ _) rfl rfl rfl rfl rfl Tryz.isAgg25 Tryz.sizeOf25 rfl (show RowAt _ _ _ (encGr default) from hB7.rowAt 0 3) rfl (?_))))))
        refine ⟨(default, 1), rfl, ⟨(makeF_bad (List.mem_map_of_mem (gmem hkl)) fun h => ?_).symm, GNew.zero _ _⟩, (hw1.trans e).own m7 nb⟩
        exact h.1 (List.eq_nil_of_length_eq_zero (by omega))
    · have hke : k = E.length := by omega
      subst hke
      have hw2 := hw1.trans e
      have hall : ∀ y ∈ vals E, y ≠ [] ∧ setB (setF y) n = true := fun y hy => by
        obtain ⟨x, hx, rfl⟩ := List.mem_map.1 hy
        obtain ⟨i, hil, rfl⟩ := List.getElem_of_mem hx
        have := hi i hil
        rwa [gget hil] at this
      have hmk : makeF n cost (vals E) = if (minF (vals E)).length ≤ 20000 then (⟨n, cost, minF (vals E)⟩, 0) else (default, 3) := by
        unfold makeF; rw [if_pos ⟨hc1, hall⟩]
      refine V.region (VL.op (R.mvS rfl) (VL.callX Tryz.call19 rfl (rminimal_spec ea ec E w2 hle hE2 (fun x hx => (hl.each x hx).1)) fun z w9 ⟨hzm, hzL, hzf, ⟨hzn, hzl⟩, hze⟩ e9 => VL.op (R.asS rfl) (VL.nil (V.seq (V.seq (V.region (VL.op (R.mvS rfl) (VL.op (R.lenS Tryz.runUnderlying23 rfl) (VL.op (R.gtr rfl rfl) (VL.nil (V.condP rfl (fun c42 => V.seq (?_)) (fun c42 => V.skip (V.seq (?_))))))))))))))
      · refine V.region (VL.op (R.build Tryz.zeroValue25 Tryz.runUnderlying25 pl25 rfl) (VL.store (v := .agg _) Tryz.sizeOf25 rfl rfl rfl rfl (hB2.ext e9) rfl rfl fun w11 m11 hs11 hB11 => VL.op (R.asI rfl) (VL.nil (V.ret (fretCT (v := .int _ _) rfl rfl rfl rfl rfl Tryz.isAgg25 Tryz.sizeOf25 rfl (show RowAt _ _ _ (encGr default) from hB11.rowAt 0 3) rfl (?_))))))
        refine ⟨(default, 3), rfl, ⟨?_, GNew.zero _ _⟩, (hw2.trans e9).own m11 nb⟩
        rw [hmk, ← hzm, if_neg (by rw [List.length_map]; omega)]; rfl
      · have hb9 := hB2.ext e9
        have hbl := hb9.lt
        refine V.region (VL.op (R.mvI rfl) (VL.buildSl Tryz.runUnderlying22 Tryz.sizeOf3 Tryz.zeroValue3 rfl rfl rfl fun b11_1 w11_1 hb11_1 e11_1 hB11_1 => VL.op (R.mvS rfl) (VL.appendT el22 (fun _ => rfl) rfl (rfl) ((OwnT.of0 Vc.encI 1 hB11_1 (Nat.le_of_eq hb11_1.symm))) rfl (rfl) (((hC.ext (hw2.trans e9)).ext e11_1)) (hax) (by simp; omega) (by simp [maxLen]; omega) e11_1.size (show 0 + cost.length = ([] ++ cost : List Int).length by simp) fun a12 c12 w12 ho12 m12 hf12 => VL.op (R.mvS rfl) (VL.op (R.build Tryz.zeroValue25 Tryz.runUnderlying25 pl25 rfl) (VL.store (v := .agg _) Tryz.sizeOf25 rfl rfl rfl rfl ((hb9.ext e11_1).mod m12 fun h => by have := aBlk_some h; omega) rfl rfl fun w13 m13 hs13 hB13 => VL.op (R.asI rfl) (VL.nil (V.ret (fretCT (v := .int _ _) rfl rfl rfl rfl rfl Tryz.isAgg25 Tryz.sizeOf25 rfl (show RowAt _ _ _ (encGr ⟨n, a12, c12, [] ++ cost, z.2.1, z.2.2, z.1⟩) from hB13.rowAt 0 3) rfl (?_)))))))))
        have h12 := e11_1.ownA m12 fun q hq => by have := aBlk_some hq; omega
        refine ⟨(⟨n, a12, c12, [] ++ cost, z.2.1, z.2.2, z.1⟩, 0), rfl, ⟨?_, ⟨?_, ?_⟩, ⟨ho12.cap, ho12.hax⟩, fun x hx => ⟨(hze x hx).1, hzl x hx⟩⟩, ((hw2.trans e9).trans h12).own m13 nb⟩
        · rw [hmk, ← hzm, if_pos (by rw [List.length_map]; omega)]; rfl
        · refine ho12.sl.mod m13 fun ad h hk => ?_
          have := ho12.ge ad.block ⟨ad, h, rfl⟩
          have hk : ad.block = b0_0 := hk
          omega
        · have hLm := hzL.ext h12
          have hb2l := hB2.lt
          refine ⟨hLm.sl.mod m13 fun ad h hk => ?_, fun x hx => (hLm.each x hx).mod m13 fun ad h hk => ?_⟩
          · have := hzf ad.block ⟨ad, h, rfl⟩
            have hk : ad.block = b0_0 := hk
            omega
          · have := (hze x hx).2 ad.block ⟨ad, h, rfl⟩
            have hk : ad.block = b0_0 := hk
            omega
end Go.Proofs.YtoengpialdolbaaGreatDoor
