/- Cluster: the reference: pairs, Cost, Allowed, apart. -/
import Derived.Test.YtglaigeellpikaaXQ6
namespace Go.Proofs.Ytglaigeellpikaa
open Go.Vc

theorem pairB_at {n : Int} {l : List (Int × Int)} {i : Nat} (hi : i < l.length) (h : prB n (l.getD i default) = false) : pairB n l = false := by
  unfold pairB
  exact List.all_eq_false.2 ⟨_, getD_mem hi, by rw [h]; decide⟩
theorem rpairs_spec (n : Int) (a : Option Addr) (ca : Nat) (l : List (Int × Int)) (w : World) (hm : l.length ≤ 1000000) (hS : PrSl w a l) :
    RetsP Try.prog 38 #[.int .i64 n, .slice a l.length ca] w (.bool (pairB n l)) := by
  refine enter (args := [_, _]) Try.func38 rfl Try.ntmps38 (by kernel_rfl) rfl ?_
  refine V.seq (V.region (VL.op (R.asB rfl) (VL.nil (V.seq (V.seq (V.region (VL.op (R.asI rfl) (VL.nil (V.block (?_))))))))))
  refine V.loop [0, 1, 5] (fun k : Nat => [.int .i64 n, .slice a l.length ca, .int .i64 (k : Nat)]) (fun k w' => k ≤ l.length ∧ (∀ i, i < k → prB n (l.getD i default) = true) ∧ Ext w w') (fun k => l.length - k) 0 rfl ⟨Nat.zero_le _, fun i h => absurd h (Nat.not_lt_zero _), Mod.refl _ _⟩ ?_
  rintro ρ k w1 ⟨hk, hi, e⟩
  refine V.seq (V.seq (V.region (VL.op (R.mvI rfl) (VL.op (R.mvS rfl) (VL.op (R.lenS Try.runUnderlying24 rfl) (VL.op (R.lss rfl rfl) (VL.nil (V.condP rfl (fun c9 => V.skip (V.seq (V.block (V.seq (V.regionCut [12, 13, 14, 15, 16, 17, 18, 19, 20, 21, 22, 23, 24, 25, 26, 27, 28, 29] 29 (.bool (!prB n (l.getD k default))) (fun w' => Ext _ w') rfl (VL.op (R.mvI rfl) (VL.op (R.mvS rfl) (VL.op (R.mvI rfl) (VL.op (R.ixS Try.runUnderlying24 Try.sizeOf42 rfl rfl (by omega) (by omega) ((hS).some (i := k) (by omega))) (VL.op (R.ixA Try.runUnderlying42 Try.sizeOf3 rfl rfl (by decide) (by decide)) (VL.op (R.ld1 Try.isAgg3 rfl (((((hS).ext e).row (i := k) (by omega)).cell (i := 0) rfl))) (VL.callP Try.call43 rfl (rrecord_spec n (l.getD k default).1 _) fun w4_6 e4_6 => VL.op (R.not rfl) (VL.op (R.mvB rfl) (VL.or rfl rfl (fun g4_8 => VL.op (R.mvI rfl) (VL.gT rfl rfl (VL.op (R.mvS rfl) (VL.gT rfl rfl (VL.op (R.mvI rfl) (VL.gT rfl rfl (VL.op (R.ixS Try.runUnderlying24 Try.sizeOf42 rfl rfl (by omega) (by omega) ((hS).some (i := k) (by omega))) (VL.gT rfl rfl (VL.op (R.ixA Try.runUnderlying42 Try.sizeOf3 rfl rfl (by decide) (by decide)) (VL.gT rfl rfl (VL.op (R.ld1 Try.isAgg3 rfl (((((hS).ext (e.trans e4_6)).row (i := k) (by omega)).cell (i := 1) rfl))) (VL.gT rfl rfl (VL.callP Try.call43 rfl (rrecord_spec n (l.getD k default).2 _) fun w4_15 e4_15 => VL.gT rfl rfl (VL.op (R.not rfl) (VL.op (R.pickFB rfl rfl) (VL.nil ⟨rfl, cutB rfl ?_, (Mod.trans e4_6 e4_15)⟩)))))))))))))))) (fun g4_8 => VL.gF rfl rfl (VL.gF rfl rfl (VL.gF rfl rfl (VL.gF rfl rfl (VL.gF rfl rfl (VL.gF rfl rfl (VL.gF rfl rfl (VL.op (R.pickTB rfl rfl) (VL.nil ⟨rfl, cutB rfl ?_, e4_6⟩)))))))))))))))))) (fun rg4 w4c e4c => V.cond rfl (fun c29 => V.seq (V.region (VL.op (R.asB rfl) (VL.nil (V.ret (fret1 (v := .bool _) rfl rfl rfl (⟨?_, (e.trans e4c)⟩))))))) (fun c29 => V.skip (V.region (VL.op (R.mvI rfl) (VL.op (R.add rfl rfl (by omega) (by omega)) (VL.op (R.asI rfl) (VL.nil (⟨k + 1, rfl, ⟨by omega, ?_, (e.trans e4c)⟩, by omega⟩))))))))))))) (fun c9 => V.exit (V.seq (?_)))))))))))
  iterate 2
    · have hb : ∀ x : Bool, (prB n (l.getD k default) = true ↔ x = false) → x = !prB n (l.getD k default) := fun x h => by cases x <;> cases hh : prB n (l.getD k default) <;> simp_all
      refine hb _ ?_
      rw [prB_iff]
      simp only [Bool.not_eq_false', Bool.not_eq_true', Bool.and_eq_true, Bool.and_eq_false_iff, decide_eq_true_eq, decide_eq_false_iff_not, Bool.true_eq_false, iff_false] at *
      omega
  · rw [pairB_at (i := k) (by omega) (by simpa using c29)]
  · intro i hik
    by_cases h : i = k
    · subst h; simpa using c29
    · exact hi i (by omega)
  · refine V.region (VL.op (R.asB rfl) (VL.nil (V.ret (fret1 (v := .bool _) rfl rfl rfl (⟨?_, e.trans (Mod.refl _ _)⟩)))))
    have : pairB n l = true := List.all_eq_true.2 fun x hx => by
      obtain ⟨i, hi', rfl⟩ := List.getElem_of_mem hx
      rw [← gdE hi']; exact hi i (by omega)
    rw [this]
theorem notP {P : Prop} [Decidable P] {x : Bool} (h : P ↔ x = false) : x = !decide P := by cases x <;> by_cases q : P <;> simp_all
set_option maxHeartbeats 1000000 in
theorem rcost_spec (a ea : Option Addr) (c ce : Nat) (edges : List Ed) (ent : List Int) (w : World) (hm : edges.length ≤ 1000000) (hS : EdSl w a edges) (hE : IntSl w ea ent) :
    RetsP Try.prog 16 #[.slice a edges.length c, .slice ea ent.length ce] w (.int .i64 (costW edges ent)) := by
  refine enter (args := [_, _]) Try.func16 rfl Try.ntmps16 (by kernel_rfl) rfl ?_
  refine V.seq (V.region (VL.op (R.asI rfl) (VL.nil (V.seq (V.region (VL.op (R.asI rfl) (VL.nil (V.seq (V.seq (V.region (VL.op (R.asI rfl) (VL.nil (V.block (?_))))))))))))))
  refine V.loop [0, 1, 5, 6] (fun k : Nat => [.slice a edges.length c, .slice ea ent.length ce, .int .i64 (costW (edges.take k) ent), .int .i64 (k : Nat)]) (fun k w' => k ≤ edges.length ∧ Ext w w') (fun k => edges.length - k) 0 rfl ⟨Nat.zero_le _, Mod.refl _ _⟩ ?_
  rintro ρ k w1 ⟨hk, e⟩
  refine V.seq (V.seq (V.region (VL.op (R.mvI rfl) (VL.op (R.mvS rfl) (VL.op (R.lenS Try.runUnderlying22 rfl) (VL.op (R.lss rfl rfl) (VL.nil (V.condP rfl (fun c11 => V.skip (V.seq (V.block (V.seq (V.region (VL.op (R.mvS rfl) (VL.op (R.mvI rfl) (VL.op (R.ixS Try.runUnderlying22 Try.sizeOf40 rfl rfl (by omega) (by omega) ((hS).some (i := k) (by omega))) (VL.op (R.ldA Try.isAgg40 Try.sizeOf40 rfl rfl ((show RowAt _ _ _ (encEd (edges.getD k default)) from (((hS).ext e).row (i := k) (by omega)))) rfl) (VL.allocSt (v := .agg (encEd (edges.getD k default)).toArray) Try.zeroValue40 Try.sizeOf40 rfl rfl rfl rfl rfl fun b5_4 w5_4 hb5_4 e5_4 hB5_4 => VL.nil (V.seq (V.seq (?_))))))))))))) (fun c11 => V.exit (V.seq (?_)))))))))))
  · have hkl : k < edges.length := by omega
    have hsucc := costW_succ (edges := edges) (ent := ent) (k := k) hkl
    obtain ⟨ed, hed⟩ : ∃ ed, ed = edges.getD k default := ⟨_, rfl⟩
    rw [← hed] at hsucc
    have hB : Blk w5_4 b5_4 (.cells (encEd ed).toArray 40 (0, 0)) := by rw [hed]; exact hB5_4
    have hE5 := hE.ext (e.trans e5_4)
    clear hB5_4
    refine V.regionCut [18, 19, 20, 21, 22, 23, 24, 25, 26, 27, 28, 29, 30, 31] 31 (.bool (!decide (0 ≤ ed.a ∧ 0 ≤ ed.b ∧ ed.a < ent.length ∧ ed.b < ent.length))) (fun w' => Ext _ w') rfl (VL.op (R.mvS rfl) (VL.op (R.lenS Try.runUnderlying23 rfl) (VL.op (R.fld' (o := 0) Try.runUnderlying40 rfl rfl Try.sizeOf3 rfl rfl) (VL.op (R.ld1 Try.isAgg3 rfl (hB.cell 0)) (VL.callP Try.call43 rfl (rrecord_spec _ ed.a _) fun w6_4 e6_4 => VL.op (R.not rfl) (VL.op (R.mvB rfl) (VL.or rfl rfl (fun g6_6 => VL.op (R.mvS rfl) (VL.gT rfl rfl (VL.op (R.lenS Try.runUnderlying23 rfl) (VL.gT rfl rfl (VL.op (R.fld' (o := 1) Try.runUnderlying40 rfl rfl Try.sizeOf3 rfl rfl) (VL.gT rfl rfl (VL.op (R.ld1 Try.isAgg3 rfl ((hB.ext ((Mod.refl Vc.nob w5_4).trans e6_4)).cell 1)) (VL.gT rfl rfl (VL.callP Try.call43 rfl (rrecord_spec _ ed.b _) fun w6_11 e6_11 => VL.gT rfl rfl (VL.op (R.not rfl) (VL.op (R.pickFB rfl rfl) (VL.nil ⟨rfl, cutB rfl ?_, (Mod.trans e6_4 e6_11)⟩)))))))))))) (fun g6_6 => VL.gF rfl rfl (VL.gF rfl rfl (VL.gF rfl rfl (VL.gF rfl rfl (VL.gF rfl rfl (VL.op (R.pickTB rfl rfl) (VL.nil ⟨rfl, cutB rfl ?_, e6_4⟩)))))))))))))) (fun rg6 w6c e6c => V.cond rfl (fun c31 => V.exit (V.region (VL.op (R.mvI rfl) (VL.op (R.add rfl rfl (by omega) (by omega)) (VL.op (R.asI rfl) (VL.nil (?_))))))) (fun c31 => V.skip (V.seq (V.seq (?_)))))
    · refine notP ?_
      simp only [Bool.not_eq_false', Bool.and_eq_true, decide_eq_true_eq] at *
      omega
    · rw [decide_eq_false fun h => ?_]; · rfl
      rw [decide_eq_true h.1, decide_eq_true h.2.2.1] at g6_6; cases g6_6
    · have hno : ¬ (0 ≤ ed.a ∧ 0 ≤ ed.b ∧ ed.a < ent.length ∧ ed.b < ent.length) := by simpa only [Bool.not_eq_true', decide_eq_false_iff_not] using c31
      unfold costS at hsucc
      rw [if_neg hno] at hsucc
      exact ⟨k + 1, by rw [hsucc]; rfl, ⟨by omega, (e.trans e5_4).trans e6c⟩, by omega⟩
    · have hin : 0 ≤ ed.a ∧ 0 ≤ ed.b ∧ ed.a < ent.length ∧ ed.b < ent.length := by simpa only [Bool.not_eq_false', decide_eq_true_eq] using c31
      unfold costS at hsucc
      rw [if_pos hin] at hsucc
      have hB := hB.ext e6c
      have hE6 := hE5.ext e6c
      have E6 := (e.trans e5_4).trans e6c
      refine V.regionQCut mixed 16 (by kernel_rfl) rfl (fun w' => Ext _ w') (Ext.drawn _) [32, 33, 34, 35, 36, 37, 38, 39, 40, 41, 42, 43, 44, 45, 46, 47] 47 (.bool (decide (0 < ed.w ∧ at_ ent ed.a ≠ at_ ent ed.b))) rfl (VQ.op (fun wq eq => R.fld' (o := 2) Try.runUnderlying40 rfl rfl Try.sizeOf3 rfl rfl) (VQ.op (fun wq eq => R.ld1 Try.isAgg3 rfl ((hB.ext eq).cell 2)) (VQ.op (fun wq eq => R.gtr rfl rfl) (VQ.op (fun wq eq => R.mvB rfl) (VQ.andP rfl rfl (fun g7_3 => VQ.op (fun wq eq => R.mvS rfl) (VQ.gT rfl rfl (VQ.op (fun wq eq => R.fld' (o := 0) Try.runUnderlying40 rfl rfl Try.sizeOf3 rfl rfl) (VQ.gT rfl rfl (VQ.op (fun wq eq => R.ld1 Try.isAgg3 rfl ((hB.ext eq).cell 0)) (VQ.gT rfl rfl (VQ.op (fun wq eq => R.ixS Try.runUnderlying23 Try.sizeOf3 rfl rfl (by omega) (by omega) ((hE6).some (i := ed.a.toNat) (by omega))) (VQ.gT rfl rfl (VQ.op (fun wq eq => R.ld1 Try.isAgg3 rfl (((((hE6).ext ((Mod.refl Vc.nob w6c).trans eq)).row (i := ed.a.toNat) (by omega)).cell (i := 0) rfl))) (VQ.gT rfl rfl (VQ.op (fun wq eq => R.mvS rfl) (VQ.gT rfl rfl (VQ.op (fun wq eq => R.fld' (o := 1) Try.runUnderlying40 rfl rfl Try.sizeOf3 rfl rfl) (VQ.gT rfl rfl (VQ.op (fun wq eq => R.ld1 Try.isAgg3 rfl ((hB.ext eq).cell 1)) (VQ.gT rfl rfl (VQ.op (fun wq eq => R.ixS Try.runUnderlying23 Try.sizeOf3 rfl rfl (by omega) (by omega) ((hE6).some (i := ed.b.toNat) (by omega))) (VQ.gT rfl rfl (VQ.op (fun wq eq => R.ld1 Try.isAgg3 rfl (((((hE6).ext ((Mod.refl Vc.nob w6c).trans eq)).row (i := ed.b.toNat) (by omega)).cell (i := 0) rfl))) (VQ.gT rfl rfl (VQ.op (fun wq eq => R.neq rfl rfl) (VQ.op (fun wq eq => R.pickTB rfl rfl) (VQ.nil (cutB rfl ?_)))))))))))))))))))))))) (fun g7_3 => VQ.gF rfl rfl (VQ.gF rfl rfl (VQ.gF rfl rfl (VQ.gF rfl rfl (VQ.gF rfl rfl (VQ.gF rfl rfl (VQ.gF rfl rfl (VQ.gF rfl rfl (VQ.gF rfl rfl (VQ.gF rfl rfl (VQ.op (fun wq eq => R.pickFB rfl rfl) (VQ.nil (cutB rfl ?_)))))))))))))))))) (fun rg7 w7c e7c => V.condP rfl (fun c47 => V.region (VL.op (R.mvI rfl) (VL.op (R.fld' (o := 2) Try.runUnderlying40 rfl rfl Try.sizeOf3 rfl rfl) (VL.op (R.ld1 Try.isAgg3 rfl ((hB.ext ((Mod.refl Vc.nob w6c).trans e7c)).cell 2)) (VL.op (R.addw rfl rfl) (VL.op (R.asI rfl) (VL.nil (V.seq (V.regionQCut mixed 16 (by kernel_rfl) rfl (fun w' => Ext _ w') (Ext.drawn _) [52, 53, 54, 55, 56, 57, 58, 59, 60, 61, 62, 63, 64, 65, 66, 67] 67 (.bool (decide (ed.w < 0 ∧ at_ ent ed.a = at_ ent ed.b))) rfl (VQ.op (fun wq eq => R.fld' (o := 2) Try.runUnderlying40 rfl rfl Try.sizeOf3 rfl rfl) (VQ.op (fun wq eq => R.ld1 Try.isAgg3 rfl (((hB.ext e7c).ext eq).cell 2)) (VQ.op (fun wq eq => R.lss rfl rfl) (VQ.op (fun wq eq => R.mvB rfl) (VQ.andP rfl rfl (fun g9_3 => VQ.op (fun wq eq => R.mvS rfl) (VQ.gT rfl rfl (VQ.op (fun wq eq => R.fld' (o := 0) Try.runUnderlying40 rfl rfl Try.sizeOf3 rfl rfl) (VQ.gT rfl rfl (VQ.op (fun wq eq => R.ld1 Try.isAgg3 rfl (((hB.ext e7c).ext eq).cell 0)) (VQ.gT rfl rfl (VQ.op (fun wq eq => R.ixS Try.runUnderlying23 Try.sizeOf3 rfl rfl (by omega) (by omega) ((hE6).some (i := ed.a.toNat) (by omega))) (VQ.gT rfl rfl (VQ.op (fun wq eq => R.ld1 Try.isAgg3 rfl (((((hE6).ext (((Mod.refl Vc.nob w6c).trans e7c).trans eq)).row (i := ed.a.toNat) (by omega)).cell (i := 0) rfl))) (VQ.gT rfl rfl (VQ.op (fun wq eq => R.mvS rfl) (VQ.gT rfl rfl (VQ.op (fun wq eq => R.fld' (o := 1) Try.runUnderlying40 rfl rfl Try.sizeOf3 rfl rfl) (VQ.gT rfl rfl (VQ.op (fun wq eq => R.ld1 Try.isAgg3 rfl (((hB.ext e7c).ext eq).cell 1)) (VQ.gT rfl rfl (VQ.op (fun wq eq => R.ixS Try.runUnderlying23 Try.sizeOf3 rfl rfl (by omega) (by omega) ((hE6).some (i := ed.b.toNat) (by omega))) (VQ.gT rfl rfl (VQ.op (fun wq eq => R.ld1 Try.isAgg3 rfl (((((hE6).ext (((Mod.refl Vc.nob w6c).trans e7c).trans eq)).row (i := ed.b.toNat) (by omega)).cell (i := 0) rfl))) (VQ.gT rfl rfl (VQ.op (fun wq eq => R.eql rfl rfl) (VQ.op (fun wq eq => R.pickTB rfl rfl) (VQ.nil (cutB rfl ?_)))))))))))))))))))))))) (fun g9_3 => VQ.gF rfl rfl (VQ.gF rfl rfl (VQ.gF rfl rfl (VQ.gF rfl rfl (VQ.gF rfl rfl (VQ.gF rfl rfl (VQ.gF rfl rfl (VQ.gF rfl rfl (VQ.gF rfl rfl (VQ.gF rfl rfl (VQ.op (fun wq eq => R.pickFB rfl rfl) (VQ.nil (cutB rfl ?_)))))))))))))))))) (fun rg9 w9c e9c => V.condP rfl (fun c67 => V.region (VL.op (R.mvI rfl) (VL.op (R.fld' (o := 2) Try.runUnderlying40 rfl rfl Try.sizeOf3 rfl rfl) (VL.op (R.ld1 Try.isAgg3 rfl ((hB.ext (((Mod.refl Vc.nob w6c).trans e7c).trans e9c)).cell 2)) (VL.op (R.subw rfl rfl) (VL.op (R.asI rfl) (VL.nil (V.region (VL.op (R.mvI rfl) (VL.op (R.add rfl rfl (by omega) (by omega)) (VL.op (R.asI rfl) (VL.nil (?_))))))))))))) (fun c67 => V.skip (V.region (VL.op (R.mvI rfl) (VL.op (R.add rfl rfl (by omega) (by omega)) (VL.op (R.asI rfl) (VL.nil (?_))))))))))))))))) (fun c47 => V.skip (V.seq (V.regionQCut mixed 16 (by kernel_rfl) rfl (fun w' => Ext _ w') (Ext.drawn _) [52, 53, 54, 55, 56, 57, 58, 59, 60, 61, 62, 63, 64, 65, 66, 67] 67 (.bool (decide (ed.w < 0 ∧ at_ ent ed.a = at_ ent ed.b))) rfl (VQ.op (fun wq eq => R.fld' (o := 2) Try.runUnderlying40 rfl rfl Try.sizeOf3 rfl rfl) (VQ.op (fun wq eq => R.ld1 Try.isAgg3 rfl (((hB.ext e7c).ext eq).cell 2)) (VQ.op (fun wq eq => R.lss rfl rfl) (VQ.op (fun wq eq => R.mvB rfl) (VQ.andP rfl rfl (fun g9_3 => VQ.op (fun wq eq => R.mvS rfl) (VQ.gT rfl rfl (VQ.op (fun wq eq => R.fld' (o := 0) Try.runUnderlying40 rfl rfl Try.sizeOf3 rfl rfl) (VQ.gT rfl rfl (VQ.op (fun wq eq => R.ld1 Try.isAgg3 rfl (((hB.ext e7c).ext eq).cell 0)) (VQ.gT rfl rfl (VQ.op (fun wq eq => R.ixS Try.runUnderlying23 Try.sizeOf3 rfl rfl (by omega) (by omega) ((hE6).some (i := ed.a.toNat) (by omega))) (VQ.gT rfl rfl (VQ.op (fun wq eq => R.ld1 Try.isAgg3 rfl (((((hE6).ext (((Mod.refl Vc.nob w6c).trans e7c).trans eq)).row (i := ed.a.toNat) (by omega)).cell (i := 0) rfl))) (VQ.gT rfl rfl (VQ.op (fun wq eq => R.mvS rfl) (VQ.gT rfl rfl (VQ.op (fun wq eq => R.fld' (o := 1) Try.runUnderlying40 rfl rfl Try.sizeOf3 rfl rfl) (VQ.gT rfl rfl (VQ.op (fun wq eq => R.ld1 Try.isAgg3 rfl (((hB.ext e7c).ext eq).cell 1)) (VQ.gT rfl rfl (VQ.op (fun wq eq => R.ixS Try.runUnderlying23 Try.sizeOf3 rfl rfl (by omega) (by omega) ((hE6).some (i := ed.b.toNat) (by omega))) (VQ.gT rfl rfl (VQ.op (fun wq eq => R.ld1 Try.isAgg3 rfl (((((hE6).ext (((Mod.refl Vc.nob w6c).trans e7c).trans eq)).row (i := ed.b.toNat) (by omega)).cell (i := 0) rfl))) (VQ.gT rfl rfl (VQ.op (fun wq eq => R.eql rfl rfl) (VQ.op (fun wq eq => R.pickTB rfl rfl) (VQ.nil (cutB rfl ?_)))))))))))))))))))))))) (fun g9_3 => VQ.gF rfl rfl (VQ.gF rfl rfl (VQ.gF rfl rfl (VQ.gF rfl rfl (VQ.gF rfl rfl (VQ.gF rfl rfl (VQ.gF rfl rfl (VQ.gF rfl rfl (VQ.gF rfl rfl (VQ.gF rfl rfl (VQ.op (fun wq eq => R.pickFB rfl rfl) (VQ.nil (cutB rfl ?_)))))))))))))))))) (fun rg9 w9c e9c => V.condP rfl (fun c67 => V.region (VL.op (R.mvI rfl) (VL.op (R.fld' (o := 2) Try.runUnderlying40 rfl rfl Try.sizeOf3 rfl rfl) (VL.op (R.ld1 Try.isAgg3 rfl ((hB.ext (((Mod.refl Vc.nob w6c).trans e7c).trans e9c)).cell 2)) (VL.op (R.subw rfl rfl) (VL.op (R.asI rfl) (VL.nil (V.region (VL.op (R.mvI rfl) (VL.op (R.add rfl rfl (by omega) (by omega)) (VL.op (R.asI rfl) (VL.nil (?_))))))))))))) (fun c67 => V.skip (V.region (VL.op (R.mvI rfl) (VL.op (R.add rfl rfl (by omega) (by omega)) (VL.op (R.asI rfl) (VL.nil (?_))))))))))))
      · exact decide_eq_decide.2 (by unfold at_; omega)
      · exact (decide_eq_false fun h => g7_3 h.1).symm
      · exact decide_eq_decide.2 (by unfold at_; omega)
      · exact (decide_eq_false fun h => g9_3 h.1).symm
      · omega
      · rw [if_pos (show ed.w > 0 ∧ at_ ent ed.a ≠ at_ ent ed.b from c47)] at hsucc
        exact ⟨k + 1, by rw [hsucc]; rfl, ⟨by omega, E6.trans (e7c.trans e9c)⟩, by omega⟩
      · exact decide_eq_decide.2 (by unfold at_; omega)
      · exact (decide_eq_false fun h => g9_3 h.1).symm
      · rw [if_neg (show ¬ (ed.w > 0 ∧ at_ ent ed.a ≠ at_ ent ed.b) from c47), if_pos c67] at hsucc
        exact ⟨k + 1, by rw [hsucc]; rfl, ⟨by omega, E6.trans (e7c.trans e9c)⟩, by omega⟩
      · rw [if_neg (show ¬ (ed.w > 0 ∧ at_ ent ed.a ≠ at_ ent ed.b) from c47), if_neg c67] at hsucc
        exact ⟨k + 1, by rw [hsucc]; rfl, ⟨by omega, E6.trans (e7c.trans e9c)⟩, by omega⟩
  · have hkl : k = edges.length := by omega
    subst hkl
    refine V.region (VL.op (R.mvI rfl) (VL.op (R.asI rfl) (VL.nil (V.ret (fret1 (v := .int _ _) rfl rfl rfl (⟨?_, e.trans (Mod.refl _ _)⟩))))))
    rw [List.take_length]
end Go.Proofs.Ytglaigeellpikaa

/- Cluster: the reference: Allowed, apart, Lists. -/
namespace Go.Proofs.Ytglaigeellpikaa
open Go.Vc

theorem allowB_no {same ent : List Int} {other : List (Int × Int)} (h : ¬ allowB same other ent = true) : allowB same other ent = false := by simpa using h
set_option maxHeartbeats 2000000 in
theorem rallowed_spec (sa ea oa : Option Addr) (cs ce co : Nat) (same ent : List Int) (other : List (Int × Int)) (w : World) (hm : same.length ≤ 1000000) (hmo : other.length ≤ 1000000) (hS : IntSl w sa same) (hE : IntSl w ea ent) (hO : PrSl w oa other) :
    RetsP Try.prog 18 #[.slice sa same.length cs, .slice oa other.length co, .slice ea ent.length ce] w (.bool (allowB same other ent)) := by
  refine enter (args := [_, _, _]) Try.func18 rfl Try.ntmps18 (by kernel_rfl) rfl ?_
  refine V.seq (V.region (VL.op (R.asB rfl) (VL.nil (V.seq (V.seq (V.region (VL.op (R.mvS rfl) (VL.callP Try.call36 rfl (rValid_spec sa cs same _ hm (hS.ext (Mod.refl _ _))) fun w1_1 e1_1 => VL.op (R.not rfl) (VL.op (R.mvB rfl) (VL.or rfl rfl (fun g1_3 => VL.op (R.mvS rfl) (VL.gT rfl rfl (VL.op (R.lenS Try.runUnderlying23 rfl) (VL.gT rfl rfl (VL.op (R.mvS rfl) (VL.gT rfl rfl (VL.callP Try.call38 rfl (rpairs_spec _ oa co other _ hmo (hO.ext e1_1)) fun w1_7 e1_7 => VL.gT rfl rfl (VL.op (R.not rfl) (VL.op (R.pickFB rfl rfl) (VL.op (R.mvB rfl) (VL.or rfl rfl (fun g1_10 => VL.op (R.mvS rfl) (VL.gT rfl rfl (VL.op (R.lenS Try.runUnderlying23 rfl) (VL.gT rfl rfl (VL.op (R.mvS rfl) (VL.gT rfl rfl (VL.op (R.lenS Try.runUnderlying23 rfl) (VL.gT rfl rfl (VL.op (R.neq rfl rfl) (VL.op (R.pickFB rfl rfl) (VL.op (R.mvB rfl) (VL.orP rfl rfl (fun g1_17 => VL.op (R.mvS rfl) (VL.gT rfl rfl (VL.callP Try.call36 rfl (rValid_spec ea ce ent _ (by omega) (hE.ext (e1_1.trans e1_7))) fun w1_19 e1_19 => VL.gT rfl rfl (VL.op (R.not rfl) (VL.op (R.pickFB rfl rfl) (VL.nil (V.cond rfl (fun c32 => V.seq (V.region (VL.op (R.asB rfl) (VL.nil (V.ret (fret1 (v := .bool _) rfl rfl rfl (⟨?_, ((e1_1.trans e1_7).trans e1_19)⟩))))))) (fun c32 => V.skip (V.seq (V.seq (?_))))))))))) (fun g1_17 => VL.gF rfl rfl (VL.gF rfl rfl (VL.op (R.pickTB rfl rfl) (VL.nil (V.condT rfl (V.seq (V.region (VL.op (R.asB rfl) (VL.nil (V.ret (fret1 (v := .bool _) rfl rfl rfl (⟨?_, (e1_1.trans e1_7)⟩)))))))))))))))))))))))) (fun g1_10 => VL.gF rfl rfl (VL.gF rfl rfl (VL.gF rfl rfl (VL.gF rfl rfl (VL.op (R.pickTB rfl rfl) (VL.op (R.mvB rfl) (VL.gF rfl rfl (VL.gF rfl rfl (VL.gF rfl rfl (VL.op (R.pickTB rfl rfl) (VL.nil (V.condT rfl (V.seq (V.region (VL.op (R.asB rfl) (VL.nil (V.ret (fret1 (v := .bool _) rfl rfl rfl (⟨?_, (e1_1.trans e1_7)⟩)))))))))))))))))))))))))))))) (fun g1_3 => VL.gF rfl rfl (VL.gF rfl rfl (VL.gF rfl rfl (VL.gF rfl rfl (VL.op (R.pickTB rfl rfl) (VL.op (R.mvB rfl) (VL.gF rfl rfl (VL.gF rfl rfl (VL.gF rfl rfl (VL.gF rfl rfl (VL.gF rfl rfl (VL.op (R.pickTB rfl rfl) (VL.op (R.mvB rfl) (VL.gF rfl rfl (VL.gF rfl rfl (VL.gF rfl rfl (VL.op (R.pickTB rfl rfl) (VL.nil (V.condT rfl (V.seq (V.region (VL.op (R.asB rfl) (VL.nil (V.ret (fret1 (v := .bool _) rfl rfl rfl (⟨?_, e1_1⟩))))))))))))))))))))))))))))))))))))
  · rw [allowB_no fun h => ?_]
    have := (allow_iff.1 h).2.2.2.1
    rw [this] at c32; cases c32
  rotate_left
  · rw [allowB_no fun h => g1_17 (by have := (allow_iff.1 h).2.2.1; omega)]
  · rw [allowB_no fun h => ?_]
    rw [(allow_iff.1 h).2.1] at g1_10; cases g1_10
  · rw [allowB_no fun h => ?_]
    rw [(allow_iff.1 h).1] at g1_3; cases g1_3
  have v1 : validB same = true := by simpa using g1_3
  have v2 : pairB (same.length : Int) other = true := by simpa using g1_10
  have v3 : ent.length = same.length := by omega
  have v4 : validB ent = true := by simpa using c32
  have hv := (validB_iff.1 v1).1
  have hp := pairB_iff.1 v2
  have E1 := e1_1.trans (e1_7.trans e1_19)
  have hS1 := hS.ext E1
  have hE1 := hE.ext E1
  have hO1 := hO.ext E1
  refine V.region (VL.op (R.asI rfl) (VL.nil (V.block (?_))))
  refine V.loop [0, 1, 2, 7] (fun k : Nat => [.slice sa same.length cs, .slice oa other.length co, .slice ea ent.length ce, .int .i64 (k : Nat)])
    (fun k w' => k ≤ same.length ∧ Ext w1_19 w' ∧ ∀ i, i < k → ent.getD i default = ent.getD (same.getD i default).toNat default) (fun k => same.length - k) 0 rfl ⟨Nat.zero_le _, Mod.refl _ _, fun i h => absurd h (Nat.not_lt_zero _)⟩ ?_
  rintro ρ k w2 ⟨hk, e2, hi⟩
  have hvk := hv k
  refine V.seq (V.seq (V.region (VL.op (R.mvI rfl) (VL.op (R.mvS rfl) (VL.op (R.lenS Try.runUnderlying23 rfl) (VL.op (R.lss rfl rfl) (VL.nil (V.condP rfl (fun c36 => V.skip (V.seq (V.block (V.seq (V.regionQ mixed 12 (by kernel_rfl) rfl (fun w' => Ext _ w') (Ext.drawn _) (VQ.op (fun wq eq => R.mvS rfl) (VQ.op (fun wq eq => R.mvI rfl) (VQ.op (fun wq eq => R.ixS Try.runUnderlying23 Try.sizeOf3 rfl rfl (by omega) (by omega) ((hE1).some (i := k) (by omega))) (VQ.op (fun wq eq => R.ld1 Try.isAgg3 rfl (((((hE1).ext (e2.trans eq)).row (i := k) (by omega)).cell (i := 0) rfl))) (VQ.op (fun wq eq => R.mvS rfl) (VQ.op (fun wq eq => R.mvS rfl) (VQ.op (fun wq eq => R.mvI rfl) (VQ.op (fun wq eq => R.ixS Try.runUnderlying23 Try.sizeOf3 rfl rfl (by omega) (by omega) ((hS1).some (i := k) (by omega))) (VQ.op (fun wq eq => R.ld1 Try.isAgg3 rfl (((((hS1).ext (e2.trans eq)).row (i := k) (by omega)).cell (i := 0) rfl))) (VQ.op (fun wq eq => R.ixS Try.runUnderlying23 Try.sizeOf3 rfl rfl (by omega) (by omega) ((hE1).some (i := (same.getD k default).toNat) (by omega))) (VQ.op (fun wq eq => R.ld1 Try.isAgg3 rfl (((((hE1).ext (e2.trans eq)).row (i := (same.getD k default).toNat) (by omega)).cell (i := 0) rfl))) (VQ.op (fun wq eq => R.neq rfl rfl) (VQ.nil fun w6q e6q => VL.nil (V.condP rfl (fun c50 => V.seq (V.region (VL.op (R.asB rfl) (VL.nil (V.ret (fret1 (v := .bool _) rfl rfl rfl (⟨?_, E1.trans (e2.trans e6q)⟩))))))) (fun c50 => V.skip (V.region (VL.op (R.mvI rfl) (VL.op (R.add rfl rfl (by omega) (by omega)) (VL.op (R.asI rfl) (VL.nil (⟨k + 1, rfl, ⟨by omega, (e2.trans e6q), ?_⟩, by omega⟩)))))))))))))))))))))))))) (fun c36 => V.exit (V.seq (V.seq (?_))))))))))))
  · rw [allowB_no fun h => c50 ((allow_iff.1 h).2.2.2.2.1 k (by omega))]
  · intro i hik
    by_cases h : i = k
    · subst h; exact Classical.not_not.1 c50
    · exact hi i (by omega)
  · have hkl : k = same.length := by omega
    subst hkl
    refine V.region (VL.op (R.asI rfl) (VL.nil (V.block (?_))))
    refine V.loop [0, 1, 2, 8] (fun j : Nat => [.slice sa same.length cs, .slice oa other.length co, .slice ea ent.length ce, .int .i64 (j : Nat)])
      (fun j w' => j ≤ other.length ∧ Ext w1_19 w' ∧ ∀ i, i < j → at_ same (other.getD i default).1 ≠ at_ same (other.getD i default).2 → at_ ent (other.getD i default).1 ≠ at_ ent (other.getD i default).2) (fun j => other.length - j) 0 rfl ⟨Nat.zero_le _, e2, fun i h => absurd h (Nat.not_lt_zero _)⟩ ?_
    rintro ρ j w3 ⟨hj, e3, hb⟩
    have hpj : j < other.length → 0 ≤ (other.getD j default).1 ∧ 0 ≤ (other.getD j default).2 ∧ (other.getD j default).1 < same.length ∧ (other.getD j default).2 < same.length := fun h => hp _ (getD_mem h)
    refine V.seq (V.seq (V.region (VL.op (R.mvI rfl) (VL.op (R.mvS rfl) (VL.op (R.lenS Try.runUnderlying24 rfl) (VL.op (R.lss rfl rfl) (VL.nil (V.condP rfl (fun c54 => V.skip (V.seq (V.block (V.seq (V.region (VL.op (R.mvS rfl) (VL.op (R.mvI rfl) (VL.op (R.ixS Try.runUnderlying24 Try.sizeOf42 rfl rfl (by have := hpj; omega) (by have := hpj; omega) ((hO1).some (i := j) (by have := hpj; omega))) (VL.op (R.ixA Try.runUnderlying42 Try.sizeOf3 rfl rfl (by decide) (by decide)) (VL.op (R.ld1 Try.isAgg3 rfl (((((hO1).ext e3).row (i := j) (by have := hpj; omega)).cell (i := 0) rfl))) (VL.op (R.asI rfl) (VL.nil (V.seq (V.region (VL.op (R.mvS rfl) (VL.op (R.mvI rfl) (VL.op (R.ixS Try.runUnderlying24 Try.sizeOf42 rfl rfl (by have := hpj; omega) (by have := hpj; omega) ((hO1).some (i := j) (by have := hpj; omega))) (VL.op (R.ixA Try.runUnderlying42 Try.sizeOf3 rfl rfl (by decide) (by decide)) (VL.op (R.ld1 Try.isAgg3 rfl (((((hO1).ext e3).row (i := j) (by have := hpj; omega)).cell (i := 1) rfl))) (VL.op (R.asI rfl) (VL.nil (V.seq (V.regionQCut mixed 20 (by kernel_rfl) rfl (fun w' => Ext _ w') (Ext.drawn _) [67, 68, 69, 70, 71, 72, 73, 74, 75, 76, 77, 78, 79, 80, 81, 82, 83, 84, 85, 86] 86 (.bool (badP same ent (other.getD j default))) rfl (VQ.op (fun wq eq => R.mvS rfl) (VQ.op (fun wq eq => R.mvI rfl) (VQ.op (fun wq eq => R.ixS Try.runUnderlying23 Try.sizeOf3 rfl rfl (by have := hpj; omega) (by have := hpj; omega) ((hS1).some (i := (other.getD j default).1.toNat) (by have := hpj; omega))) (VQ.op (fun wq eq => R.ld1 Try.isAgg3 rfl (((((hS1).ext (e3.trans eq)).row (i := (other.getD j default).1.toNat) (by have := hpj; omega)).cell (i := 0) rfl))) (VQ.op (fun wq eq => R.mvS rfl) (VQ.op (fun wq eq => R.mvI rfl) (VQ.op (fun wq eq => R.ixS Try.runUnderlying23 Try.sizeOf3 rfl rfl (by have := hpj; omega) (by have := hpj; omega) ((hS1).some (i := (other.getD j default).2.toNat) (by have := hpj; omega))) (VQ.op (fun wq eq => R.ld1 Try.isAgg3 rfl (((((hS1).ext (e3.trans eq)).row (i := (other.getD j default).2.toNat) (by have := hpj; omega)).cell (i := 0) rfl))) (VQ.op (fun wq eq => R.neq rfl rfl) (VQ.op (fun wq eq => R.mvB rfl) (VQ.andP rfl rfl (fun g13_9 => VQ.op (fun wq eq => R.mvS rfl) (VQ.gT rfl rfl (VQ.op (fun wq eq => R.mvI rfl) (VQ.gT rfl rfl (VQ.op (fun wq eq => R.ixS Try.runUnderlying23 Try.sizeOf3 rfl rfl (by have := hpj; omega) (by have := hpj; omega) ((hE1).some (i := (other.getD j default).1.toNat) (by have := hpj; omega))) (VQ.gT rfl rfl (VQ.op (fun wq eq => R.ld1 Try.isAgg3 rfl (((((hE1).ext (e3.trans eq)).row (i := (other.getD j default).1.toNat) (by have := hpj; omega)).cell (i := 0) rfl))) (VQ.gT rfl rfl (VQ.op (fun wq eq => R.mvS rfl) (VQ.gT rfl rfl (VQ.op (fun wq eq => R.mvI rfl) (VQ.gT rfl rfl (VQ.op (fun wq eq => R.ixS Try.runUnderlying23 Try.sizeOf3 rfl rfl (by have := hpj; omega) (by have := hpj; omega) ((hE1).some (i := (other.getD j default).2.toNat) (by have := hpj; omega))) (VQ.gT rfl rfl (VQ.op (fun wq eq => R.ld1 Try.isAgg3 rfl (((((hE1).ext (e3.trans eq)).row (i := (other.getD j default).2.toNat) (by have := hpj; omega)).cell (i := 0) rfl))) (VQ.gT rfl rfl (VQ.op (fun wq eq => R.eql rfl rfl) (VQ.op (fun wq eq => R.pickTB rfl rfl) (VQ.nil (cutB rfl ?_)))))))))))))))))))) (fun g13_9 => VQ.gF rfl rfl (VQ.gF rfl rfl (VQ.gF rfl rfl (VQ.gF rfl rfl (VQ.gF rfl rfl (VQ.gF rfl rfl (VQ.gF rfl rfl (VQ.gF rfl rfl (VQ.op (fun wq eq => R.pickFB rfl rfl) (VQ.nil (cutB rfl ?_)))))))))))))))))))))) (fun rg13 w13c e13c => V.cond rfl (fun c86 => V.seq (V.region (VL.op (R.asB rfl) (VL.nil (V.ret (fret1 (v := .bool _) rfl rfl rfl (⟨?_, E1.trans (e3.trans e13c)⟩))))))) (fun c86 => V.skip (V.region (VL.op (R.mvI rfl) (VL.op (R.add rfl rfl (by omega) (by omega)) (VL.op (R.asI rfl) (VL.nil (⟨j + 1, rfl, ⟨by omega, (e3.trans e13c), ?_⟩, by omega⟩))))))))))))))))))))))))))))))) (fun c54 => V.exit (V.seq (?_)))))))))))
    · unfold badP at_; rw [decide_eq_true g13_9, Bool.true_and]
    · unfold badP at_; rw [decide_eq_false g13_9, Bool.false_and]
    · have hc := c86
      unfold badP at hc
      rw [Bool.and_eq_true, decide_eq_true_eq, decide_eq_true_eq] at hc
      rw [allowB_no fun h => (allow_iff.1 h).2.2.2.2.2 _ (getD_mem (by omega)) hc.1 hc.2]
    · intro i hij
      by_cases h : i = j
      · subst h
        intro h1 h2
        unfold badP at c86
        rw [decide_eq_true h1, decide_eq_true h2] at c86
        cases c86
      · exact hb i (by omega)
    · refine V.region (VL.op (R.asB rfl) (VL.nil (V.ret (fret1 (v := .bool _) rfl rfl rfl (⟨?_, (E1.trans e3).trans (Mod.refl _ _)⟩)))))
      have : allowB same other ent = true := allow_iff.2 ⟨v1, v2, v3, v4, fun i h => hi i h, fun p hp2 => by
        obtain ⟨i, hi', rfl⟩ := List.getElem_of_mem hp2
        rw [← gdE hi']; exact hb i (by omega)⟩
      rw [this]
/-- A pair is between two clusters, by marks. -/
def apT (mk : List Int) (a b : Int) (p : Int × Int) : Prop := (at_ mk p.1 = a ∧ at_ mk p.2 = b) ∨ (at_ mk p.1 = b ∧ at_ mk p.2 = a)
instance (mk : List Int) (a b : Int) (p : Int × Int) : Decidable (apT mk a b p) := by unfold apT; infer_instance
def apE (mk : List Int) (other : List (Int × Int)) (a b : Int) : Bool := other.any fun p => decide (apT mk a b p)
set_option maxHeartbeats 1000000 in
theorem apart_spec (oa ma : Option Addr) (co mc : Nat) (other : List (Int × Int)) (mk : List Int) (a b : Int) (w : World) (hm : other.length ≤ 1000000) (hp : pairB mk.length other = true) (hO : PrSl w oa other) (hM : IntSl w ma mk) :
    RetsP Try.prog 60 #[.slice oa other.length co, .slice ma mk.length mc, .int .i64 a, .int .i64 b] w (.bool (apE mk other a b)) := by
  refine enter (args := [_, _, _, _]) Try.func60 rfl Try.ntmps60 (by kernel_rfl) rfl ?_
  refine V.seq (V.region (VL.op (R.asB rfl) (VL.nil (V.seq (V.seq (V.region (VL.op (R.asI rfl) (VL.nil (V.block (?_))))))))))
  refine V.loop [0, 1, 2, 3, 9] (fun k : Nat => [.slice oa other.length co, .slice ma mk.length mc, .int .i64 a, .int .i64 b, .int .i64 (k : Nat)])
    (fun k w' => k ≤ other.length ∧ Ext w w' ∧ ∀ i, i < k → ¬ apT mk a b (other.getD i default)) (fun k => other.length - k) 0 rfl ⟨Nat.zero_le _, Mod.refl _ _, fun i h => absurd h (Nat.not_lt_zero _)⟩ ?_
  rintro ρ k w1 ⟨hk, e, hn⟩
  have hed : k < other.length → 0 ≤ (other.getD k default).1 ∧ 0 ≤ (other.getD k default).2 ∧ (other.getD k default).1 < mk.length ∧ (other.getD k default).2 < mk.length := fun h => pairB_iff.1 hp _ (getD_mem h)
  refine V.seq (V.seq (V.region (VL.op (R.mvI rfl) (VL.op (R.mvS rfl) (VL.op (R.lenS Try.runUnderlying24 rfl) (VL.op (R.lss rfl rfl) (VL.nil (V.condP rfl (fun c15 => V.skip (V.seq (V.block (V.seq (V.region (VL.op (R.mvS rfl) (VL.op (R.mvS rfl) (VL.op (R.mvI rfl) (VL.op (R.ixS Try.runUnderlying24 Try.sizeOf42 rfl rfl (by have := hed; omega) (by have := hed; omega) ((hO).some (i := k) (by have := hed; omega))) (VL.op (R.ixA Try.runUnderlying42 Try.sizeOf3 rfl rfl (by decide) (by decide)) (VL.op (R.ld1 Try.isAgg3 rfl (((((hO).ext e).row (i := k) (by have := hed; omega)).cell (i := 0) rfl))) (VL.op (R.ixS Try.runUnderlying23 Try.sizeOf3 rfl rfl (by have := hed; omega) (by have := hed; omega) ((hM).some (i := (other.getD k default).1.toNat) (by have := hed; omega))) (VL.op (R.ld1 Try.isAgg3 rfl (((((hM).ext e).row (i := (other.getD k default).1.toNat) (by have := hed; omega)).cell (i := 0) rfl))) (VL.op (R.asI rfl) (VL.nil (V.seq (V.region (VL.op (R.mvS rfl) (VL.op (R.mvS rfl) (VL.op (R.mvI rfl) (VL.op (R.ixS Try.runUnderlying24 Try.sizeOf42 rfl rfl (by have := hed; omega) (by have := hed; omega) ((hO).some (i := k) (by have := hed; omega))) (VL.op (R.ixA Try.runUnderlying42 Try.sizeOf3 rfl rfl (by decide) (by decide)) (VL.op (R.ld1 Try.isAgg3 rfl (((((hO).ext e).row (i := k) (by have := hed; omega)).cell (i := 1) rfl))) (VL.op (R.ixS Try.runUnderlying23 Try.sizeOf3 rfl rfl (by have := hed; omega) (by have := hed; omega) ((hM).some (i := (other.getD k default).2.toNat) (by have := hed; omega))) (VL.op (R.ld1 Try.isAgg3 rfl (((((hM).ext e).row (i := (other.getD k default).2.toNat) (by have := hed; omega)).cell (i := 0) rfl))) (VL.op (R.asI rfl) (VL.nil (V.seq (V.regionCut [34, 35, 36, 37, 38, 39, 40, 41, 42, 43, 44, 45, 46, 47, 48, 49, 50, 51] 51 (.bool (decide (apT mk a b (other.getD k default)))) (fun w' => Ext _ w') rfl (VL.op (R.mvI rfl) (VL.op (R.mvI rfl) (VL.op (R.eql rfl rfl) (VL.op (R.mvB rfl) (VL.andP rfl rfl (fun g6_3 => VL.op (R.mvI rfl) (VL.gT rfl rfl (VL.op (R.mvI rfl) (VL.gT rfl rfl (VL.op (R.eql rfl rfl) (VL.op (R.pickTB rfl rfl) (VL.op (R.mvB rfl) (VL.orP rfl rfl (fun g6_8 => VL.op (R.mvI rfl) (VL.gT rfl rfl (VL.op (R.mvI rfl) (VL.gT rfl rfl (VL.op (R.eql rfl rfl) (VL.gT rfl rfl (VL.op (R.mvB rfl) (VL.andP rfl rfl (fun g6_12 => VL.op (R.mvI rfl) (VL.gT rfl rfl (VL.op (R.mvI rfl) (VL.gT rfl rfl (VL.op (R.eql rfl rfl) (VL.gT rfl rfl (VL.op (R.pickTB rfl rfl) (VL.op (R.pickFB rfl rfl) (VL.nil ⟨rfl, cutB rfl ?_, Mod.refl _ _⟩))))))))) (fun g6_12 => VL.gF rfl rfl (VL.gF rfl rfl (VL.gT rfl rfl (VL.op (R.pickFB rfl rfl) (VL.op (R.pickFB rfl rfl) (VL.nil ⟨rfl, cutB rfl ?_, Mod.refl _ _⟩)))))))))))))) (fun g6_8 => VL.gF rfl rfl (VL.gF rfl rfl (VL.gF rfl rfl (VL.gU rfl rfl (VL.gU rfl rfl (VL.gU rfl rfl (VL.gF rfl rfl (VL.op (R.pickTB rfl rfl) (VL.nil ⟨rfl, cutB rfl ?_, Mod.refl _ _⟩))))))))))))))))) (fun g6_3 => VL.gF rfl rfl (VL.gF rfl rfl (VL.op (R.pickFB rfl rfl) (VL.op (R.mvB rfl) (VL.gT rfl rfl (VL.op (R.mvI rfl) (VL.gT rfl rfl (VL.op (R.mvI rfl) (VL.gT rfl rfl (VL.op (R.eql rfl rfl) (VL.gT rfl rfl (VL.op (R.mvB rfl) (VL.andP rfl rfl (fun g6_12 => VL.op (R.mvI rfl) (VL.gT rfl rfl (VL.op (R.mvI rfl) (VL.gT rfl rfl (VL.op (R.eql rfl rfl) (VL.gT rfl rfl (VL.op (R.pickTB rfl rfl) (VL.op (R.pickFB rfl rfl) (VL.nil ⟨rfl, cutB rfl ?_, Mod.refl _ _⟩))))))))) (fun g6_12 => VL.gF rfl rfl (VL.gF rfl rfl (VL.gT rfl rfl (VL.op (R.pickFB rfl rfl) (VL.op (R.pickFB rfl rfl) (VL.nil ⟨rfl, cutB rfl ?_, Mod.refl _ _⟩)))))))))))))))))))))))) (fun rg6 w6c e6c => V.condP rfl (fun c51 => V.seq (V.region (VL.op (R.asB rfl) (VL.nil (V.ret (fret1 (v := .bool _) rfl rfl rfl (⟨?_, (e.trans e6c)⟩))))))) (fun c51 => V.skip (V.region (VL.op (R.mvI rfl) (VL.op (R.add rfl rfl (by omega) (by omega)) (VL.op (R.asI rfl) (VL.nil (⟨k + 1, rfl, ⟨by omega, (e.trans e6c), ?_⟩, by omega⟩))))))))))))))))))))))))))))))))))))) (fun c15 => V.exit (V.seq (?_)))))))))))
  iterate 5 first | exact decide_eq_decide.2 (by unfold apT at_; omega) | exact (decide_eq_false (by unfold apT at_; omega)).symm | exact (decide_eq_true (by unfold apT at_; omega)).symm
  · have : apE mk other a b = true := List.any_eq_true.2 ⟨_, getD_mem (by omega), decide_eq_true c51⟩
    rw [this]
  · intro i hik
    by_cases h : i = k
    · subst h; exact c51
    · exact hn i (by omega)
  · refine V.region (VL.op (R.asB rfl) (VL.nil (V.ret (fret1 (v := .bool _) rfl rfl rfl (⟨?_, e.trans (Mod.refl _ _)⟩)))))
    have : apE mk other a b = false := List.any_eq_false.2 fun p hpm => by
      obtain ⟨i, hi, rfl⟩ := List.getElem_of_mem hpm
      rw [decide_eq_true_eq, ← gdE hi]; exact hn i (by omega)
    rw [this]
end Go.Proofs.Ytglaigeellpikaa

/- Cluster: the reference: Lists. -/
namespace Go.Proofs.Ytglaigeellpikaa
open Go.Vc

set_option maxRecDepth 100000 in
set_option maxHeartbeats 4000000 in
theorem lists_spec (za ya : Option Addr) (zc yc : Nat) (z y : List Sl) (w : World) (hz : TSl encSlL 1 w za z) (hy : TSl encSlL 1 w ya y) (hze : ∀ i, IntSl w (z.getD i default).a (z.getD i default).l) (hye : ∀ i, IntSl w (y.getD i default).a (y.getD i default).l) (hm : z.length ≤ 1000000) (hml : ∀ i, (z.getD i default).l.length ≤ 1000000) :
    RetsP Try.prog 19 #[.slice za z.length zc, .slice ya y.length yc] w (.bool (decide (vals z = vals y))) := by
  have hlz : (vals z).length = z.length := List.length_map _
  have hly : (vals y).length = y.length := List.length_map _
  have hgz : ∀ i, i < z.length → (vals z).getD i default = (z.getD i default).l := fun i hi => gmap (fun x : Sl => x.l) z i hi
  have hgy : ∀ i, i < y.length → (vals y).getD i default = (y.getD i default).l := fun i hi => gmap (fun x : Sl => x.l) y i hi
  refine enter (args := [_, _]) Try.func19 rfl Try.ntmps19 (by kernel_rfl) rfl ?_
  refine V.seq (V.region (VL.op (R.asB rfl) (VL.nil (V.seq (V.seq (V.region (VL.op (R.mvS rfl) (VL.op (R.lenS Try.runUnderlying34 rfl) (VL.op (R.mvS rfl) (VL.op (R.lenS Try.runUnderlying34 rfl) (VL.op (R.neq rfl rfl) (VL.nil (V.condP rfl (fun c10 => V.seq (V.region (VL.op (R.asB rfl) (VL.nil (V.ret (fret1 (v := .bool _) rfl rfl rfl (⟨?_, (Mod.refl _ _)⟩))))))) (fun c10 => V.skip (V.seq (V.seq (?_)))))))))))))))))
  · rw [decide_eq_false fun h => c10 (by have := congrArg List.length h; omega)]
  have hlen : z.length = y.length := by omega
  refine V.region (VL.op (R.asI rfl) (VL.nil (V.block (?_))))
  refine V.loop [0, 1, 5] (fun k : Nat => [.slice za z.length zc, .slice ya y.length yc, .int .i64 (k : Nat)]) (fun k w' => k ≤ z.length ∧ Ext w w' ∧ ∀ i, i < k → (z.getD i default).l = (y.getD i default).l) (fun k => z.length - k) 0 rfl ⟨Nat.zero_le _, Mod.refl _ _, fun i h => absurd h (Nat.not_lt_zero _)⟩ ?_
  rintro ρ k w1 ⟨hk, e, hi⟩
  have hmk := hml k
  refine V.seq (V.seq (V.region (VL.op (R.mvI rfl) (VL.op (R.mvS rfl) (VL.op (R.lenS Try.runUnderlying34 rfl) (VL.op (R.lss rfl rfl) (VL.nil (V.condP rfl (fun c14 => V.skip (V.seq (V.block (V.seq (V.regionQCut mixed 33 (by kernel_rfl) rfl (fun w' => Ext _ w') (Ext.drawn _) [17, 18, 19, 20, 21, 22, 23, 24, 25, 26, 27, 28, 29, 30, 31, 32, 33, 34, 35, 36, 37, 38, 39, 40, 41, 42, 43, 44, 45, 46, 47, 48, 49] 49 (.bool (!decide ((z.getD k default).l = (y.getD k default).l))) rfl (VQ.op (fun wq eq => R.mvS rfl) (VQ.op (fun wq eq => R.mvI rfl) (VQ.op (fun wq eq => R.ixS Try.runUnderlying34 Try.sizeOf23 rfl rfl (by omega) (by omega) ((hz).some (i := k) (by omega))) (VQ.op (fun wq eq => R.ld1 Try.isAgg23 rfl (((((hz).ext (e.trans eq)).row (i := k) (by omega)).cell (i := 0) rfl))) (VQ.op (fun wq eq => R.lenS Try.runUnderlying23 rfl) (VQ.op (fun wq eq => R.mvS rfl) (VQ.op (fun wq eq => R.mvI rfl) (VQ.op (fun wq eq => R.ixS Try.runUnderlying34 Try.sizeOf23 rfl rfl (by omega) (by omega) ((hy).some (i := k) (by omega))) (VQ.op (fun wq eq => R.ld1 Try.isAgg23 rfl (((((hy).ext (e.trans eq)).row (i := k) (by omega)).cell (i := 0) rfl))) (VQ.op (fun wq eq => R.lenS Try.runUnderlying23 rfl) (VQ.op (fun wq eq => R.neq rfl rfl) (VQ.op (fun wq eq => R.mvB rfl) (VQ.orP rfl rfl (fun g6_11 => VQ.op (fun wq eq => R.mvS rfl) (VQ.gT rfl rfl (VQ.op (fun wq eq => R.mvI rfl) (VQ.gT rfl rfl (VQ.op (fun wq eq => R.ixS Try.runUnderlying34 Try.sizeOf23 rfl rfl (by omega) (by omega) ((hz).some (i := k) (by omega))) (VQ.gT rfl rfl (VQ.op (fun wq eq => R.ld1 Try.isAgg23 rfl (((((hz).ext (e.trans eq)).row (i := k) (by omega)).cell (i := 0) rfl))) (VQ.gT rfl rfl (VQ.op (fun wq eq => R.mvS rfl) (VQ.gT rfl rfl (VQ.op (fun wq eq => R.mvI rfl) (VQ.gT rfl rfl (VQ.op (fun wq eq => R.ixS Try.runUnderlying34 Try.sizeOf23 rfl rfl (by omega) (by omega) ((hy).some (i := k) (by omega))) (VQ.gT rfl rfl (VQ.op (fun wq eq => R.ld1 Try.isAgg23 rfl (((((hy).ext (e.trans eq)).row (i := k) (by omega)).cell (i := 0) rfl))) (VQ.gT rfl rfl (VQ.callP (fun _ _ h k => Mod.trans h k) Try.call42 rfl (fun wq eq => less_spec (z.getD k default).a (y.getD k default).a (z.getD k default).cap (y.getD k default).cap (z.getD k default).l (y.getD k default).l _ hmk (by omega) ((hze k).ext (e.trans eq)) ((hye k).ext (e.trans eq))) (VQ.op (fun wq eq => R.pickFB rfl rfl) (VQ.op (fun wq eq => R.mvB rfl) (VQ.or rfl rfl (fun g6_22 => VQ.op (fun wq eq => R.mvS rfl) (VQ.gT rfl rfl (VQ.op (fun wq eq => R.mvI rfl) (VQ.gT rfl rfl (VQ.op (fun wq eq => R.ixS Try.runUnderlying34 Try.sizeOf23 rfl rfl (by omega) (by omega) ((hy).some (i := k) (by omega))) (VQ.gT rfl rfl (VQ.op (fun wq eq => R.ld1 Try.isAgg23 rfl (((((hy).ext (e.trans eq)).row (i := k) (by omega)).cell (i := 0) rfl))) (VQ.gT rfl rfl (VQ.op (fun wq eq => R.mvS rfl) (VQ.gT rfl rfl (VQ.op (fun wq eq => R.mvI rfl) (VQ.gT rfl rfl (VQ.op (fun wq eq => R.ixS Try.runUnderlying34 Try.sizeOf23 rfl rfl (by omega) (by omega) ((hz).some (i := k) (by omega))) (VQ.gT rfl rfl (VQ.op (fun wq eq => R.ld1 Try.isAgg23 rfl (((((hz).ext (e.trans eq)).row (i := k) (by omega)).cell (i := 0) rfl))) (VQ.gT rfl rfl (VQ.callP (fun _ _ h k => Mod.trans h k) Try.call42 rfl (fun wq eq => less_spec (y.getD k default).a (z.getD k default).a (y.getD k default).cap (z.getD k default).cap (y.getD k default).l (z.getD k default).l _ (by omega) (by omega) ((hye k).ext (e.trans eq)) ((hze k).ext (e.trans eq))) (VQ.op (fun wq eq => R.pickFB rfl rfl) (VQ.nil (cutB rfl ?_)))))))))))))))))))) (fun g6_22 => VQ.gF rfl rfl (VQ.gF rfl rfl (VQ.gF rfl rfl (VQ.gF rfl rfl (VQ.gF rfl rfl (VQ.gF rfl rfl (VQ.gF rfl rfl (VQ.gF rfl rfl (VQ.op (fun wq eq => R.pickTB rfl rfl) (VQ.nil (cutB rfl ?_))))))))))))))))))))))))))))))) (fun g6_11 => VQ.gF rfl rfl (VQ.gF rfl rfl (VQ.gF rfl rfl (VQ.gF rfl rfl (VQ.gF rfl rfl (VQ.gF rfl rfl (VQ.gF rfl rfl (VQ.gF rfl rfl (VQ.op (fun wq eq => R.pickTB rfl rfl) (VQ.op (fun wq eq => R.mvB rfl) (VQ.gF rfl rfl (VQ.gF rfl rfl (VQ.gF rfl rfl (VQ.gF rfl rfl (VQ.gF rfl rfl (VQ.gF rfl rfl (VQ.gF rfl rfl (VQ.gF rfl rfl (VQ.gF rfl rfl (VQ.op (fun wq eq => R.pickTB rfl rfl) (VQ.nil (cutB rfl ?_))))))))))))))))))))))))))))))))))) (fun rg6 w6c e6c => V.cond rfl (fun c49 => V.seq (V.region (VL.op (R.asB rfl) (VL.nil (V.ret (fret1 (v := .bool _) rfl rfl rfl (⟨?_, (e.trans e6c)⟩))))))) (fun c49 => V.skip (V.region (VL.op (R.mvI rfl) (VL.op (R.add rfl rfl (by omega) (by omega)) (VL.op (R.asI rfl) (VL.nil (⟨k + 1, rfl, ⟨by omega, (e.trans e6c), ?_⟩, by omega⟩))))))))))))) (fun c14 => V.exit (V.seq (?_)))))))))))
  · refine notP ⟨fun h => by rw [h]; exact lexB_sto.irr _, fun h => lexB_sto.tot _ _ g6_22 h⟩
  · rw [decide_eq_false fun h => by rw [h, lexB_sto.irr] at g6_22; cases g6_22]; rfl
  · rw [decide_eq_false fun h => g6_11 (by rw [h])]; rfl
  · have hne : ¬ (z.getD k default).l = (y.getD k default).l := by simpa only [Bool.not_eq_true', decide_eq_false_iff_not] using c49
    rw [decide_eq_false fun h => hne (by rw [← hgz k (by omega), ← hgy k (by omega), h])]
  · intro i hik
    by_cases h : i = k
    · subst h; simpa only [Bool.not_eq_false', decide_eq_true_eq] using c49
    · exact hi i (by omega)
  · refine V.region (VL.op (R.asB rfl) (VL.nil (V.ret (fret1 (v := .bool _) rfl rfl rfl (⟨?_, e.trans (Mod.refl _ _)⟩)))))
    rw [decide_eq_true]
    refine List.ext_getElem (by omega) fun i h1 h2 => ?_
    rw [← gdE h1, ← gdE h2, hgz i (by omega), hgy i (by omega)]
    exact hi i (by omega)
end Go.Proofs.Ytglaigeellpikaa

/- Cluster: what the reference's greedy sees, in terms of classes. No program. -/
namespace Go.Proofs.Ytglaigeellpikaa
open Go.Vc

/-- An edge between two clusters is counted once. -/
theorem once_sum {same : List Int} {F : Int → Int} {a b : Int} (hab : a ≠ b) {e : Ed} (ha : isCl same (at_ same e.a)) (hb : isCl same (at_ same e.b)) :
    sm ((clL same).map fun c => sm ((clL same).map fun d => if F c = a ∧ F d = b then (if btT same c d e then e.w else 0) else 0)) = if (F (at_ same e.a) = a ∧ F (at_ same e.b) = b) ∨ (F (at_ same e.a) = b ∧ F (at_ same e.b) = a) then e.w else 0 := by
  have hbt : ∀ c d, btT same c d e ↔ (at_ same e.a = c ∧ at_ same e.b = d) ∨ (at_ same e.a = d ∧ at_ same e.b = c) := fun _ _ => Iff.rfl
  generalize at_ same e.a = x at *
  generalize at_ same e.b = y at *
  have key : ∀ u v, isCl same u → isCl same v → F u = a → F v = b → ((u = x ∧ v = y) ∨ (u = y ∧ v = x)) → sm ((clL same).map fun c => sm ((clL same).map fun d => if F c = a ∧ F d = b then (if btT same c d e then e.w else 0) else 0)) = e.w := fun u v hu hv f1 f2 ho => by
    refine Eq.trans ?_ (sm_two (inc_nodup (clL_inc same)) (clL_mem.2 hu) (clL_mem.2 hv) (fun _ _ => e.w))
    refine sm_congr _ _ fun c _ => sm_congr _ _ fun d _ => ?_
    by_cases q : c = u ∧ d = v
    · rw [if_pos q, if_pos (show F c = a ∧ F d = b from ⟨by rw [q.1, f1], by rw [q.2, f2]⟩), if_pos (show btT same c d e from (hbt c d).2 (by rcases ho with ⟨h1, h2⟩ | ⟨h1, h2⟩ <;> omega))]
    · rw [if_neg q]
      by_cases q2 : F c = a ∧ F d = b
      · rw [if_pos q2, if_neg (show ¬ btT same c d e from fun z => by
          rcases (hbt c d).1 z with ⟨z1, z2⟩ | ⟨z1, z2⟩ <;> rcases ho with ⟨h1, h2⟩ | ⟨h1, h2⟩
          · exact q ⟨by omega, by omega⟩
          · have : c = v := by omega
            rw [this, f2] at q2; exact hab q2.1.symm
          · have : c = v := by omega
            rw [this, f2] at q2; exact hab q2.1.symm
          · exact q ⟨by omega, by omega⟩)]
      · rw [if_neg q2]
  by_cases h1 : F x = a ∧ F y = b
  · rw [if_pos (.inl h1), key x y ha hb h1.1 h1.2 (.inl ⟨rfl, rfl⟩)]
  · by_cases h2 : F x = b ∧ F y = a
    · rw [if_pos (.inr h2), key y x hb ha h2.2 h2.1 (.inr ⟨rfl, rfl⟩)]
    · rw [if_neg (fun q => q.elim h1 h2)]
      refine sm_zero _ fun c _ => sm_zero _ fun d _ => ?_
      by_cases q2 : F c = a ∧ F d = b
      · rw [if_pos q2, if_neg (show ¬ btT same c d e from fun z => by
          rcases (hbt c d).1 z with ⟨z1, z2⟩ | ⟨z1, z2⟩
          · exact h1 ⟨by rw [z1]; exact q2.1, by rw [z2]; exact q2.2⟩
          · exact h2 ⟨by rw [z1]; exact q2.2, by rw [z2]; exact q2.1⟩)]
      · rw [if_neg q2]
/-- Heads that stay within their components. -/
structure HdOk (same : List Int) (r : Nat → Nat) (F : Int → Int) : Prop where
  cl : ∀ c, isCl same c → isCl same (F c)
  idem : ∀ c, isCl same c → F (F c) = F c
  le : ∀ c, isCl same c → F c ≤ c
  comp : ∀ c, isCl same c → r (F c).toNat = r c.toNat
theorem gcls_mem {same : List Int} {r : Nat → Nat} {h : Nat} {c : Int} : c ∈ clsG same (memsK r same.length h) ↔ isCl same c ∧ r c.toNat = h := by
  rw [clsG_mem, memsK_mem]
  constructor
  · rintro ⟨⟨i, hi, hr, rfl⟩, h2⟩
    exact ⟨⟨by omega, by omega, h2⟩, by rw [Int.toNat_natCast]; exact hr⟩
  · rintro ⟨⟨h1, h2, h3⟩, h4⟩
    exact ⟨⟨c.toNat, by omega, h4, by omega⟩, h3⟩
theorem btE_ins {same : List Int} {edges : List Ed} {other : List (Int × Int)} (k : OkG same edges other) {c d : Int} (hr : rG same edges c.toNat = rG same edges d.toNat) : btE same (insF (rG same edges) edges) c d = btE same edges c d := by
  unfold btE insF
  rw [sm_filter]
  refine sm_congr _ _ fun e he => ?_
  by_cases h : btT same c d e
  · rw [if_pos h, if_pos]
    obtain ⟨b1, b2, b3, b4⟩ := k.l e he
    have ra := r_class k b1 b3
    have rb := r_class k b2 b4
    refine decide_eq_true ?_
    rcases h with ⟨h1, h2⟩ | ⟨h1, h2⟩
    · rw [← ra, ← rb, h1, h2]; exact hr
    · rw [← ra, ← rb, h1, h2]; exact hr.symm
  · rw [if_neg h]; split <;> rfl
theorem wtS_bt (same : List Int) (edges : List Ed) {c d : Int} (h : c ≠ d) : wtS (wtG same edges) c d = btE same edges c d := by
  unfold wtS
  rcases Int.lt_or_gt_of_ne h with q | q
  · rw [if_pos q, btE_wt same edges q]
  · rw [if_neg (by omega), if_pos q, btE_comm, btE_wt same edges q]
/-- The weight between two clusters of one component. -/
theorem between_cls {same : List Int} {edges : List Ed} {other : List (Int × Int)} (k : OkG same edges other) {F : Int → Int} (hF : HdOk same (rG same edges) F) {h : Nat} {a b : Int} (hab : a ≠ b) (ha : isCl same a ∧ rG same edges a.toNat = h) (hb : isCl same b ∧ rG same edges b.toNat = h) :
    btE (same.map F) (insF (rG same edges) edges) a b = btw (wtG same edges) (clsG same (memsK (rG same edges) same.length h)) F a b := by
  have e1 : btw (wtG same edges) (clsG same (memsK (rG same edges) same.length h)) F a b = sm ((clL same).map fun c => sm ((clL same).map fun d => if F c = a ∧ F d = b then btE same (insF (rG same edges) edges) c d else 0)) := by
    unfold btw
    rw [sm_clsG]
    refine sm_congr _ _ fun c hc => ?_
    have hc := clL_mem.1 hc
    by_cases q : rG same edges c.toNat = h
    · rw [if_pos q, sm_clsG]
      refine sm_congr _ _ fun d hd => ?_
      have hd := clL_mem.1 hd
      by_cases q2 : rG same edges d.toNat = h
      · rw [if_pos q2]
        by_cases q3 : F c = a ∧ F d = b
        · rw [if_pos q3, if_pos q3, btE_ins k (q.trans q2.symm), wtS_bt same edges fun z => hab (by rw [← q3.1, ← q3.2, z])]
        · rw [if_neg q3, if_neg q3]
      · rw [if_neg q2, if_neg fun z => q2 (by rw [← hF.comp d hd, z.2]; exact hb.2)]
    · rw [if_neg q]
      refine (sm_zero _ fun d _ => ?_).symm
      rw [if_neg fun z => q (by rw [← hF.comp c hc, z.1]; exact ha.2)]
  rw [e1]
  have e2 : ∀ c d, (if F c = a ∧ F d = b then btE same (insF (rG same edges) edges) c d else 0) = sm ((insF (rG same edges) edges).map fun e => if F c = a ∧ F d = b then (if btT same c d e then e.w else 0) else 0) := fun c d => by
    by_cases q : F c = a ∧ F d = b
    · rw [if_pos q]; exact sm_congr _ _ fun e _ => by rw [if_pos q]
    · rw [if_neg q]; exact (sm_zero _ fun e _ => by rw [if_neg q]).symm
  rw [sm_congr _ _ fun c _ => (sm_congr _ _ fun d _ => e2 c d).trans (sm_swap (fun d e => if F c = a ∧ F d = b then (if btT same c d e then e.w else 0) else 0) (clL same) (insF (rG same edges) edges))]
  rw [sm_swap (fun c e => sm ((clL same).map fun d => if F c = a ∧ F d = b then (if btT same c d e then e.w else 0) else 0)) (clL same) (insF (rG same edges) edges)]
  unfold btE
  refine sm_congr _ _ fun e he => ?_
  have he := (List.mem_filter.1 he).1
  obtain ⟨b1, b2, b3, b4⟩ := k.l e he
  rw [once_sum hab (cl_at k b1 b3).1 (cl_at k b2 b4).1]
  have : btT (same.map F) a b e ↔ (F (at_ same e.a) = a ∧ F (at_ same e.b) = b) ∨ (F (at_ same e.a) = b ∧ F (at_ same e.b) = a) := by
    unfold btT
    rw [at_map F b1 b3, at_map F b2 b4]
  by_cases q : btT (same.map F) a b e
  · rw [if_pos q, if_pos (this.1 q)]
  · rw [if_neg q, if_neg fun z => q (this.2 z)]
theorem apart_cls {same : List Int} {edges : List Ed} {other : List (Int × Int)} (k : OkG same edges other) {F : Int → Int} (hF : HdOk same (rG same edges) F) {h : Nat} {a b : Int} (hab : a ≠ b) (ha : isCl same a ∧ rG same edges a.toNat = h) (hb : isCl same b ∧ rG same edges b.toNat = h) :
    apE (same.map F) other a b = true ↔ apH (apG same other) (clsG same (memsK (rG same edges) same.length h)) F a b := by
  unfold apE apH
  rw [List.any_eq_true]
  constructor
  · rintro ⟨p, hp, hd⟩
    have hd := of_decide_eq_true hd
    obtain ⟨b1, b2, b3, b4⟩ := k.p p hp
    have c1 := (cl_at k b1 b3).1
    have c2 := (cl_at k b2 b4).1
    unfold apT at hd
    rw [at_map F b1 b3, at_map F b2 b4] at hd
    rcases hd with ⟨h1, h2⟩ | ⟨h1, h2⟩
    · refine ⟨_, gcls_mem.2 ⟨c1, by rw [← hF.comp _ c1, h1]; exact ha.2⟩, _, gcls_mem.2 ⟨c2, by rw [← hF.comp _ c2, h2]; exact hb.2⟩, h1, h2, (gA_true same other _ _).2 ⟨p, hp, fun z => hab (by rw [← h1, ← h2, z]), rfl⟩⟩
    · refine ⟨_, gcls_mem.2 ⟨c2, by rw [← hF.comp _ c2, h2]; exact ha.2⟩, _, gcls_mem.2 ⟨c1, by rw [← hF.comp _ c1, h1]; exact hb.2⟩, h2, h1, (gA_true same other _ _).2 ⟨p, hp, fun z => hab (by rw [← h1, ← h2, z]), ordF_comm _ _⟩⟩
  · rintro ⟨c, hc, d, hd, h1, h2, h3⟩
    obtain ⟨p, hp, hne, ho⟩ := (gA_true same other c d).1 h3
    refine ⟨p, hp, decide_eq_true ?_⟩
    obtain ⟨b1, b2, b3, b4⟩ := k.p p hp
    unfold apT
    rw [at_map F b1 b3, at_map F b2 b4]
    have hor : (at_ same p.1 = c ∧ at_ same p.2 = d) ∨ (at_ same p.1 = d ∧ at_ same p.2 = c) := by
      unfold ordF at ho; rw [Prod.mk.injEq] at ho; omega
    rcases hor with ⟨q1, q2⟩ | ⟨q1, q2⟩
    · left; rw [q1, q2]; exact ⟨h1, h2⟩
    · right; rw [q1, q2]; exact ⟨h2, h1⟩
end Go.Proofs.Ytglaigeellpikaa

/- Cluster: the reference's greedy: the search for the next pair, plainly. No program. -/
namespace Go.Proofs.Ytglaigeellpikaa
open Go.Vc

section
variable {wt : Int → Int → Int} {ap : Int → Int → Bool} {cs : List Int}
/-- A division's start counts only on the classes. -/
theorem grd_start {h g h' : Int → Int} (k : Grd wt ap cs h h') : (∀ c ∈ cs, h c = g c) → HOk cs h → ∃ g', Grd wt ap cs g g' ∧ ∀ c ∈ cs, g' c = h' c := by
  have hb : ∀ {h g : Int → Int}, (∀ c ∈ cs, h c = g c) → ∀ a b, btw wt cs h a b = btw wt cs g a b := fun e a b => by
    unfold btw
    exact sm_congr _ _ fun c hc => sm_congr _ _ fun d hd => by rw [e c hc, e d hd]
  have hcand : ∀ {h g : Int → Int}, (∀ c ∈ cs, h c = g c) → ∀ p, Cand wt ap cs h p → Cand wt ap cs g p := fun e p k => by
    refine ⟨k.m1, k.m2, by rw [← e _ k.m1]; exact k.h1, by rw [← e _ k.m2]; exact k.h2, k.lt, fun ⟨c, hc, d, hd, q1, q2, q3⟩ => k.free ⟨c, hc, d, hd, by rw [e c hc]; exact q1, by rw [e d hd]; exact q2, q3⟩, by rw [← hb e]; exact k.pos⟩
  induction k generalizing g with
  | stop h hn => exact fun e _ => ⟨g, .stop g fun p k => hn p (hcand (fun c hc => (e c hc).symm) p k), fun c hc => (e c hc).symm⟩
  | step h h' p hp _ ih =>
    intro e ho
    have e' : ∀ c ∈ cs, mrg h p c = mrg g p c := fun c hc => by unfold mrg; rw [e c hc]
    obtain ⟨g', k1, k2⟩ := ih e' (ho.unite hp.cand.m1 hp.cand.h1 hp.cand.h2 hp.cand.lt)
    refine ⟨g', .step g g' p ⟨hcand e p hp.cand, fun q hq => ?_⟩ k1, k2⟩
    have := hp.best q (hcand (fun c hc => (e c hc).symm) q hq)
    rw [hb e, hb e] at this
    exact this
/-- The best pair of those before (a, b). -/
def SrB (wt : Int → Int → Int) (ap : Int → Int → Bool) (cs : List Int) (F : Int → Int) (a b x y m : Int) : Prop :=
  (m = 0 ∧ x < 0 ∧ ∀ q, Cand wt ap cs F q → ¬ ltP q (a, b)) ∨
  (0 < m ∧ 0 ≤ x ∧ Cand wt ap cs F (x, y) ∧ ltP (x, y) (a, b) ∧ btw wt cs F x y = m ∧ ∀ q, Cand wt ap cs F q → ltP q (a, b) → btw wt cs F q.1 q.2 < m ∨ (btw wt cs F q.1 q.2 = m ∧ (q = (x, y) ∨ ltP (x, y) q)))
variable {F : Int → Int} {a b x y m : Int}
theorem ltP_next {q : Int × Int} : ltP q (a, b + 1) ↔ ltP q (a, b) ∨ q = (a, b) := by
  obtain ⟨q1, q2⟩ := q
  unfold ltP
  rw [Prod.mk.injEq]
  dsimp only
  omega
theorem SrB.start (h0 : ∀ c ∈ cs, 0 ≤ c) : SrB wt ap cs F 0 1 (-1) (-1) 0 := .inl ⟨rfl, by decide, fun q hq hl => by
  have h1 := h0 _ hq.m1
  have h2 := hq.lt
  unfold ltP at hl
  dsimp only at hl
  omega⟩
/-- A pair that may not be united is passed over. -/
theorem SrB.pass (h : SrB wt ap cs F a b x y m) (hn : ¬ Cand wt ap cs F (a, b)) : SrB wt ap cs F a (b + 1) x y m := by
  rcases h with ⟨h1, h2, h3⟩ | ⟨h1, h2, h3, h4, h5, h6⟩
  · refine .inl ⟨h1, h2, fun q hq hl => ?_⟩
    rcases ltP_next.1 hl with hl | hl
    · exact h3 q hq hl
    · rw [hl] at hq; exact hn hq
  · refine .inr ⟨h1, h2, h3, ltP_next.2 (.inl h4), h5, fun q hq hl => ?_⟩
    rcases ltP_next.1 hl with hl | hl
    · exact h6 q hq hl
    · rw [hl] at hq; exact absurd hq hn
theorem SrB.take (h : SrB wt ap cs F a b x y m) (ha : 0 ≤ a) (hc : Cand wt ap cs F (a, b)) (hm : m < btw wt cs F a b) : SrB wt ap cs F a (b + 1) a b (btw wt cs F a b) := by
  refine .inr ⟨hc.pos, ha, hc, ltP_next.2 (.inr rfl), rfl, fun q hq hl => ?_⟩
  rcases ltP_next.1 hl with hl | hl
  · left
    rcases h with ⟨h1, h2, h3⟩ | ⟨h1, h2, h3, h4, h5, h6⟩
    · exact absurd hl (h3 q hq)
    · rcases h6 q hq hl with q1 | ⟨q1, _⟩ <;> omega
  · right; rw [hl]; exact ⟨rfl, .inl rfl⟩
theorem SrB.keep (h : SrB wt ap cs F a b x y m) (hc : Cand wt ap cs F (a, b)) (hm : ¬ m < btw wt cs F a b) : SrB wt ap cs F a (b + 1) x y m := by
  rcases h with ⟨h1, h2, h3⟩ | ⟨h1, h2, h3, h4, h5, h6⟩
  · have := hc.pos
    dsimp only at this
    omega
  · refine .inr ⟨h1, h2, h3, ltP_next.2 (.inl h4), h5, fun q hq hl => ?_⟩
    rcases ltP_next.1 hl with hl | hl
    · exact h6 q hq hl
    · rw [hl]
      dsimp only
      rcases Int.lt_or_eq_of_le (Int.not_lt.1 hm) with q1 | q1
      · exact .inl q1
      · exact .inr ⟨q1, .inr h4⟩
theorem SrB.row {n : Int} (hn : ∀ c ∈ cs, c < n) (hb : n ≤ b) (h : SrB wt ap cs F a b x y m) : SrB wt ap cs F (a + 1) (a + 2) x y m := by
  have key : ∀ q, Cand wt ap cs F q → ltP q (a + 1, a + 2) → ltP q (a, b) := fun q hq hl => by
    have h1 := hn _ hq.m2
    have h2 := hq.lt
    unfold ltP at hl ⊢
    dsimp only at hl ⊢
    omega
  rcases h with ⟨h1, h2, h3⟩ | ⟨h1, h2, h3, h4, h5, h6⟩
  · exact .inl ⟨h1, h2, fun q hq hl => h3 q hq (key q hq hl)⟩
  · refine .inr ⟨h1, h2, h3, ?_, h5, fun q hq hl => h6 q hq (key q hq hl)⟩
    unfold ltP at h4 ⊢
    dsimp only at h4 ⊢
    omega
/-- In the end the best pair is the next one, or there is none. -/
theorem SrB.done {n : Int} (hn : ∀ c ∈ cs, c < n) (ha : n ≤ a) (h : SrB wt ap cs F a b x y m) : (x < 0 ∧ ∀ q, ¬ Cand wt ap cs F q) ∨ (0 ≤ x ∧ IsNext wt ap cs F (x, y)) := by
  have key : ∀ q, Cand wt ap cs F q → ltP q (a, b) := fun q hq => by
    have h1 := hn _ hq.m1
    unfold ltP
    dsimp only
    omega
  rcases h with ⟨h1, h2, h3⟩ | ⟨h1, h2, h3, h4, h5, h6⟩
  · exact .inl ⟨h2, fun q hq => h3 q hq (key q hq)⟩
  · refine .inr ⟨h2, h3, fun q hq => ?_⟩
    dsimp only
    rw [h5]
    exact h6 q hq (key q hq)
end
end Go.Proofs.Ytglaigeellpikaa

/- Cluster: the reference's greedy: the walk. -/
namespace Go.Proofs.Ytglaigeellpikaa
open Go.Vc

theorem hd_mrg {same : List Int} {r : Nat → Nat} {F : Int → Int} (hF : HdOk same r F) {x y : Int} (hx : isCl same x) (hy : isCl same y) (hxy : x < y) (hr : r x.toNat = r y.toNat) (fx : F x = x) : HdOk same r (mrg F (x, y)) := by
  refine ⟨fun c hc => ?_, fun c hc => ?_, fun c hc => ?_, fun c hc => ?_⟩
  · unfold mrg; dsimp only; split
    · exact hx
    · exact hF.cl c hc
  · unfold mrg
    dsimp only
    by_cases q : F c = y
    · rw [if_pos q, fx, if_neg (by omega)]
    · rw [if_neg q, hF.idem c hc, if_neg q]
  · unfold mrg
    dsimp only
    have := hF.le c hc
    split <;> omega
  · unfold mrg
    dsimp only
    have := hF.comp c hc
    split
    · rename_i q; rw [q] at this; rw [hr]; exact this
    · exact this
theorem apart_specN (oa ma : Option Addr) (co mc n : Nat) (other : List (Int × Int)) (mk : List Int) (a b : Int) (w : World) (hn : mk.length = n) (hm : other.length ≤ 1000000) (hp : pairB n other = true) (hO : PrSl w oa other) (hM : IntSl w ma mk) :
    RetsP Try.prog 60 #[.slice oa other.length co, .slice ma n mc, .int .i64 a, .int .i64 b] w (.bool (apE mk other a b)) := by
  subst hn; exact apart_spec oa ma co mc other mk a b w hm hp hO hM
theorem between_specN (ea ma : Option Addr) (ec mc n : Nat) (edges : List Ed) (mk : List Int) (a b : Int) (w : World) (hn : mk.length = n) (hm : edges.length ≤ 1000) (hl : linkB n edges = true) (hS : EdSl w ea edges) (hM : IntSl w ma mk) :
    RetsP Try.prog 59 #[.slice ea edges.length ec, .slice ma n mc, .int .i64 a, .int .i64 b] w (.int .i64 (btE mk edges a b)) := by
  subst hn; exact between_spec ea ma ec mc edges mk a b w hm hl hS hM
set_option maxRecDepth 100000 in
set_option maxHeartbeats 16000000 in
theorem rgreedy_spec (ea oa na ma : Option Addr) (ec co nc mc h : Nat) (edges : List Ed) (same : List Int) (other : List (Int × Int)) (F0 : Int → Int) (w : World) (k : OkG same edges other) (hm : edges.length ≤ 1000) (hms : same.length ≤ 1000) (hmo : other.length ≤ 1000) (hF0 : HdOk same (rG same edges) F0) (hnx : na = none → nc = 0)
    (hS : EdSl w ea (insF (rG same edges) edges)) (hO : PrSl w oa other) (hN : IntSl w na (same.map F0)) (hM : IntSl w ma (mkL (rG same edges) same.length)) :
    RetsX Try.prog 40 #[.slice ea (insF (rG same edges) edges).length ec, .slice oa other.length co, .slice na same.length nc, .slice ma same.length mc, .int .i64 (h : Nat)] w (fun x : Option Addr × Nat => .slice x.1 same.length x.2)
      (fun x w' => ∃ F, OwnT encI 1 3 w.heap.size w' x.1 x.2 (same.map F) ∧ HdOk same (rG same edges) F ∧ Grd (wtG same edges) (apG same other) (clsG same (memsK (rG same edges) same.length h)) F0 F ∧ ∀ c, isCl same c → rG same edges c.toNat ≠ h → F c = F0 c) := by
  obtain ⟨ins, hins⟩ : ∃ ins, ins = insF (rG same edges) edges := ⟨_, rfl⟩
  obtain ⟨cs, hcs⟩ : ∃ cs, cs = clsG same (memsK (rG same edges) same.length h) := ⟨_, rfl⟩
  obtain ⟨r, hr⟩ : ∃ r, r = rG same edges := ⟨_, rfl⟩
  have hil : ins.length ≤ 1000 := by rw [hins]; unfold insF; have := List.length_filter_le (fun e : Ed => decide (rG same edges e.a.toNat = rG same edges e.b.toNat)) edges; omega
  have hcm : ∀ c, c ∈ cs ↔ isCl same c ∧ r c.toNat = h := fun c => by rw [hcs, hr]; exact gcls_mem
  rw [← hins] at hS
  rw [← hr] at hF0 hM
  rw [← hcs, ← hins, ← hr]
  have hmn := mkL_len r same.length
  have hmg : ∀ i, i < same.length → (mkL r same.length).getD i default = ((r i : Nat) : Int) := fun i hi => mkL_get hi
  refine enter (args := [_, _, _, _, _]) Try.func40 rfl Try.ntmps40 (by kernel_rfl) rfl ?_
  refine V.seq (V.region (VL.op (R.asS rfl) (VL.nil (V.seq (V.region (VL.buildSl Try.runUnderlying23 Try.sizeOf3 Try.zeroValue3 rfl rfl rfl fun b2 w2 hb2 e2 hX2 => VL.op (R.mvS rfl) (VL.appendT el23 (fun _ => rfl) rfl (rfl) ((OwnT.of0 encI 1 hX2 (Nat.le_of_eq (Eq.symm hb2)))) rfl ( (List.length_map _).symm) ((hN.ext e2)) (hnx) (by simp; omega) (by simp [maxLen]; omega) e2.size (Nat.zero_add _) fun a5 c5 w5 ho5 m5 hf5 => VL.op (R.asS rfl) (VL.nil (V.block (?_))))))))))
  have E5 : Ext w w5 := e2.ownA m5 fun q hq => by have := aBlk_some hq; omega
  have ho5 : OwnT encI 1 3 w.heap.size w5 a5 c5 (same.map F0) := ho5
  refine V.loop [0, 1, 2, 3, 4] (fun _ : Int → Int => [.slice ea ins.length ec, .slice oa other.length co, .slice a5 same.length c5, .slice ma same.length mc, .int .i64 (h : Nat)])
    (fun F w' => Vc.Mod (aBlk a5) w5 w' ∧ OwnT encI 1 3 w.heap.size w' a5 c5 (same.map F) ∧ HdOk same r F ∧ (∀ c, isCl same c → r c.toNat ≠ h → F c = F0 c) ∧ ∀ F', Grd (wtG same edges) (apG same other) cs F F' → Grd (wtG same edges) (apG same other) cs F0 F') (fun F => nHd cs F) F0 rfl ⟨Mod.refl _ _, ho5, hF0, fun _ _ _ => rfl, fun _ g => g⟩ ?_
  rintro ρ F w6 ⟨m6, ho6, hF, hun, hgr⟩
  have E6 : Ext w w6 := E5.ownA m6 fun q hq => ho5.ge q hq
  have hS6 := hS.ext E6
  have hO6 := hO.ext E6
  have hM6 := hM.ext E6
  have hlk : linkB same.length ins = true := by rw [hins]; have := (linkB_iff.1 k.lk); exact linkB_iff.2 ⟨Nat.le_trans (List.length_filter_le _ _) this.1, fun e he => this.2 e (List.mem_filter.1 he).1⟩
  have hcn : ∀ c ∈ cs, c < (same.length : Int) := fun c hc => ((hcm c).1 hc).1.2.1
  have hc0 : ∀ c ∈ cs, 0 ≤ c := fun c hc => ((hcm c).1 hc).1.1
  have hfl : (same.map F).length = same.length := List.length_map _
  have hfg : ∀ i : Nat, i < same.length → (same.map F).getD i default = F (at_ same (i : Int)) := fun i hi => at_map (x := (i : Int)) F (by omega) (by omega)
  refine V.block (V.seq (V.region (VL.op (R.asI rfl) (VL.nil (V.seq (V.region (VL.op (R.asI rfl) (VL.nil (V.seq (V.region (VL.op (R.asI rfl) (VL.nil (V.cut [0, 1, 2, 3, 4, 11, 12] (fun x : Int × Int => [.slice ea ins.length ec, .slice oa other.length co, .slice a5 same.length c5, .slice ma same.length mc, .int .i64 (h : Nat), .int .i64 x.1, .int .i64 x.2]) (fun x w' => Ext w6 w' ∧ ((x.1 < 0 ∧ ∀ q, ¬ Cand (wtG same edges) (apG same other) cs F q) ∨ (0 ≤ x.1 ∧ IsNext (wtG same edges) (apG same other) cs F x))) (V.seq (V.region (VL.op (R.asI rfl) (VL.nil (V.block (?_)))))) (fun rgB2 xB2 wBB2 hBB2 => V.seq (V.seq (V.region (VL.op (R.mvI rfl) (VL.op (R.lss rfl rfl) (VL.nil (V.condP rfl (fun c84 => V.seq (V.region (VL.op (R.mvS rfl) (VL.op (R.asS rfl) (VL.nil (V.ret (fret1 (v := .slice _ _ _) rfl rfl rfl (?_)))))))) (fun c84 => V.skip (V.seq (?_)))))))))))))))))))))))
  · refine V.loop [0, 1, 2, 3, 4, 11, 12, 13, 14] (fun x : Nat × Int × Int × Int => [.slice ea ins.length ec, .slice oa other.length co, .slice a5 same.length c5, .slice ma same.length mc, .int .i64 (h : Nat), .int .i64 x.2.1, .int .i64 x.2.2.1, .int .i64 x.2.2.2, .int .i64 (x.1 : Nat)])
      (fun x w' => x.1 ≤ same.length ∧ Ext w6 w' ∧ SrB (wtG same edges) (apG same other) cs F (x.1 : Nat) ((x.1 : Nat) + 1) x.2.1 x.2.2.1 x.2.2.2) (fun x => same.length - x.1) (0, -1, -1, 0) rfl ⟨Nat.zero_le _, Mod.refl _ _, SrB.start hc0⟩ ?_
    rintro ρ ⟨a, x, y, m⟩ w7 ⟨ha, e7, hB⟩
    dsimp only at ha e7 hB ⊢
    refine V.seq (V.seq (V.region (VL.op (R.mvI rfl) (VL.op (R.mvS rfl) (VL.op (R.lenS Try.runUnderlying23 rfl) (VL.op (R.lss rfl rfl) (VL.nil (V.condP rfl (fun c24 => V.skip (V.seq (V.block (V.seq (V.region (VL.op (R.mvI rfl) (VL.op (R.add rfl rfl (by omega) (by omega)) (VL.op (R.asI rfl) (VL.nil (V.block (?_))))))))))) (fun c24 => V.exit (?_))))))))))
    · have hal : a < same.length := by omega
      refine V.loop [0, 1, 2, 3, 4, 11, 12, 13, 14, 15] (fun x : Nat × Int × Int × Int => [.slice ea ins.length ec, .slice oa other.length co, .slice a5 same.length c5, .slice ma same.length mc, .int .i64 (h : Nat), .int .i64 x.2.1, .int .i64 x.2.2.1, .int .i64 x.2.2.2, .int .i64 (a : Nat), .int .i64 (x.1 : Nat)])
        (fun x w' => a < x.1 ∧ x.1 ≤ same.length ∧ Ext w6 w' ∧ SrB (wtG same edges) (apG same other) cs F (a : Nat) (x.1 : Nat) x.2.1 x.2.2.1 x.2.2.2) (fun x => same.length - x.1) (a + 1, x, y, m) rfl ⟨Nat.lt_succ_self _, by dsimp only; omega, e7, hB⟩ ?_
      rintro ρ ⟨b, x, y, m⟩ w8 ⟨hab, hb, e8, hB⟩
      dsimp only at hab hb e8 hB ⊢
      have hma := hmg a hal
      have hgd : b < same.length → (!decide ((r a = h ∧ r b = h ∧ (same.map F).getD a default = (a : Int) ∧ (same.map F).getD b default = (b : Int)) ∧ apE (same.map F) other (a : Int) (b : Int) = false)) = false → (a : Int) ∈ cs ∧ (b : Int) ∈ cs ∧ F a = a ∧ F b = b ∧ ¬ apH (apG same other) cs F a b ∧ btE (same.map F) ins (a : Int) (b : Int) = btw (wtG same edges) cs F a b := fun hbl hq => by
        have hq : (r a = h ∧ r b = h ∧ (same.map F).getD a default = (a : Int) ∧ (same.map F).getD b default = (b : Int)) ∧ apE (same.map F) other (a : Int) (b : Int) = false := by simpa only [Bool.not_eq_false', decide_eq_true_eq] using hq
        obtain ⟨⟨q1, q2, q3, q4⟩, q5⟩ := hq
        rw [hfg a hal] at q3
        rw [hfg b hbl] at q4
        obtain ⟨ca, la⟩ := cl_at k (x := (a : Int)) (by omega) (by omega)
        obtain ⟨cb, lb⟩ := cl_at k (x := (b : Int)) (by omega) (by omega)
        have ea : at_ same (a : Int) = a := by have := hF.le _ ca; omega
        have eb : at_ same (b : Int) = b := by have := hF.le _ cb; omega
        rw [ea] at q3 ca
        rw [eb] at q4 cb
        have ra : r ((a : Nat) : Int).toNat = h := by rw [Int.toNat_natCast]; exact q1
        have rb : r ((b : Nat) : Int).toNat = h := by rw [Int.toNat_natCast]; exact q2
        refine ⟨(hcm _).2 ⟨ca, ra⟩, (hcm _).2 ⟨cb, rb⟩, q3, q4, fun hap => ?_, ?_⟩
        · subst hr
          rw [hcs] at hap
          have := (apart_cls k hF (h := h) (a := (a : Int)) (b := (b : Int)) (by omega) ⟨ca, ra⟩ ⟨cb, rb⟩).2 hap
          rw [q5] at this; cases this
        · subst hr
          rw [hins, hcs]
          exact between_cls k hF (h := h) (by omega) ⟨ca, ra⟩ ⟨cb, rb⟩
      have hm0 : 0 ≤ m := by rcases hB with ⟨q, _⟩ | ⟨q, _⟩ <;> omega
      refine V.seq (V.seq (V.region (VL.op (R.mvI rfl) (VL.op (R.mvS rfl) (VL.op (R.lenS Try.runUnderlying23 rfl) (VL.op (R.lss rfl rfl) (VL.nil (V.condP rfl (fun c32 => V.skip (V.seq (V.block (V.seq (V.seq (V.regionCut [35, 36, 37, 38, 39, 40, 41, 42, 43, 44, 45, 46, 47, 48, 49, 50, 51, 52, 53, 54, 55, 56, 57, 58, 59, 60, 61, 62, 63, 64, 65, 66, 67, 68, 69, 70, 71] 71 (.bool (!decide ((r a = h ∧ r b = h ∧ (same.map F).getD a default = (a : Int) ∧ (same.map F).getD b default = (b : Int)) ∧ apE (same.map F) other (a : Int) (b : Int) = false))) (fun w' => Ext _ w') rfl (VL.op (R.mvS rfl) (VL.op (R.mvI rfl) (VL.op (R.ixS Try.runUnderlying23 Try.sizeOf3 rfl rfl (by omega) (by omega) ((hM6).some (i := a) (by omega))) (VL.op (R.ld1 Try.isAgg3 rfl (((((hM6).ext e8).row (i := a) (by omega)).cell (i := 0) rfl))) (VL.op (R.mvI rfl) (VL.op (R.neq rfl rfl) (VL.op (R.mvB rfl) (VL.orP rfl rfl (fun g11_6 => VL.op (R.mvS rfl) (VL.gT rfl rfl (VL.op (R.mvI rfl) (VL.gT rfl rfl (VL.op (R.ixS Try.runUnderlying23 Try.sizeOf3 rfl rfl (by omega) (by omega) ((hM6).some (i := b) (by omega))) (VL.gT rfl rfl (VL.op (R.ld1 Try.isAgg3 rfl (((((hM6).ext e8).row (i := b) (by omega)).cell (i := 0) rfl))) (VL.gT rfl rfl (VL.op (R.mvI rfl) (VL.gT rfl rfl (VL.op (R.neq rfl rfl) (VL.op (R.pickFB rfl rfl) (VL.op (R.mvB rfl) (VL.orP rfl rfl (fun g11_14 => VL.op (R.mvS rfl) (VL.gT rfl rfl (VL.op (R.mvI rfl) (VL.gT rfl rfl (VL.op (R.ixS Try.runUnderlying23 Try.sizeOf3 rfl rfl (by omega) (by omega) ((ho6.sl).some (i := a) (by omega))) (VL.gT rfl rfl (VL.op (R.ld1 Try.isAgg3 rfl (((((ho6.sl).ext e8).row (i := a) (by omega)).cell (i := 0) rfl))) (VL.gT rfl rfl (VL.op (R.mvI rfl) (VL.gT rfl rfl (VL.op (R.neq rfl rfl) (VL.op (R.pickFB rfl rfl) (VL.op (R.mvB rfl) (VL.orP rfl rfl (fun g11_22 => VL.op (R.mvS rfl) (VL.gT rfl rfl (VL.op (R.mvI rfl) (VL.gT rfl rfl (VL.op (R.ixS Try.runUnderlying23 Try.sizeOf3 rfl rfl (by omega) (by omega) ((ho6.sl).some (i := b) (by omega))) (VL.gT rfl rfl (VL.op (R.ld1 Try.isAgg3 rfl (((((ho6.sl).ext e8).row (i := b) (by omega)).cell (i := 0) rfl))) (VL.gT rfl rfl (VL.op (R.mvI rfl) (VL.gT rfl rfl (VL.op (R.neq rfl rfl) (VL.op (R.pickFB rfl rfl) (VL.op (R.mvB rfl) (VL.orP rfl rfl (fun g11_30 => VL.op (R.mvS rfl) (VL.gT rfl rfl (VL.op (R.mvS rfl) (VL.gT rfl rfl (VL.op (R.mvI rfl) (VL.gT rfl rfl (VL.op (R.mvI rfl) (VL.gT rfl rfl (VL.callP Try.call60 rfl (apart_specN oa a5 co c5 same.length other (same.map F) (a : Int) (b : Int) _ hfl (by omega) k.pr (hO6.ext e8) (TSl.ext ho6.sl e8)) fun w11_35 e11_35 => VL.op (R.pickFB rfl rfl) (VL.nil ⟨rfl, cutB rfl ?_, e11_35⟩)))))))))) (fun g11_30 => VL.gF rfl rfl (VL.gF rfl rfl (VL.gF rfl rfl (VL.gF rfl rfl (VL.op (R.pickTB rfl rfl) (VL.nil ⟨rfl, cutB rfl ?_, Mod.refl _ _⟩)))))))))))))))))))) (fun g11_22 => VL.gF rfl rfl (VL.gF rfl rfl (VL.gF rfl rfl (VL.gF rfl rfl (VL.gF rfl rfl (VL.op (R.pickTB rfl rfl) (VL.op (R.mvB rfl) (VL.gF rfl rfl (VL.gF rfl rfl (VL.gF rfl rfl (VL.gF rfl rfl (VL.gF rfl rfl (VL.op (R.pickTB rfl rfl) (VL.nil ⟨rfl, cutB rfl ?_, Mod.refl _ _⟩)))))))))))))))))))))))))))) (fun g11_14 => VL.gF rfl rfl (VL.gF rfl rfl (VL.gF rfl rfl (VL.gF rfl rfl (VL.gF rfl rfl (VL.op (R.pickTB rfl rfl) (VL.op (R.mvB rfl) (VL.gF rfl rfl (VL.gF rfl rfl (VL.gF rfl rfl (VL.gF rfl rfl (VL.gF rfl rfl (VL.gF rfl rfl (VL.op (R.pickTB rfl rfl) (VL.op (R.mvB rfl) (VL.gF rfl rfl (VL.gF rfl rfl (VL.gF rfl rfl (VL.gF rfl rfl (VL.gF rfl rfl (VL.op (R.pickTB rfl rfl) (VL.nil ⟨rfl, cutB rfl ?_, Mod.refl _ _⟩)))))))))))))))))))))))))))))))))))) (fun g11_6 => VL.gF rfl rfl (VL.gF rfl rfl (VL.gF rfl rfl (VL.gF rfl rfl (VL.gF rfl rfl (VL.op (R.pickTB rfl rfl) (VL.op (R.mvB rfl) (VL.gF rfl rfl (VL.gF rfl rfl (VL.gF rfl rfl (VL.gF rfl rfl (VL.gF rfl rfl (VL.gF rfl rfl (VL.op (R.pickTB rfl rfl) (VL.op (R.mvB rfl) (VL.gF rfl rfl (VL.gF rfl rfl (VL.gF rfl rfl (VL.gF rfl rfl (VL.gF rfl rfl (VL.gF rfl rfl (VL.op (R.pickTB rfl rfl) (VL.op (R.mvB rfl) (VL.gF rfl rfl (VL.gF rfl rfl (VL.gF rfl rfl (VL.gF rfl rfl (VL.gF rfl rfl (VL.op (R.pickTB rfl rfl) (VL.nil ⟨rfl, cutB rfl ?_, Mod.refl _ _⟩)))))))))))))))))))))))))))))))))))))) (fun rg11 w11c e11c => V.cond rfl (fun c71 => V.exit (V.region (VL.op (R.mvI rfl) (VL.op (R.add rfl rfl (by omega) (by omega)) (VL.op (R.asI rfl) (VL.nil (?_))))))) (fun c71 => V.skip (V.seq (V.region (VL.op (R.mvS rfl) (VL.op (R.mvS rfl) (VL.op (R.mvI rfl) (VL.op (R.mvI rfl) (VL.callP Try.call59 rfl (between_specN ea a5 ec c5 same.length ins (same.map F) (a : Int) (b : Int) _ hfl (by omega) hlk (hS6.ext (e8.trans e11c)) (TSl.ext ho6.sl (e8.trans e11c))) fun w12_4 e12_4 => VL.op (R.asI rfl) (VL.nil (V.seq (V.region (VL.op (R.mvI rfl) (VL.op (R.mvI rfl) (VL.op (R.gtr rfl rfl) (VL.nil (V.condP rfl (fun c79 => V.seq (V.region (VL.op (R.mvI rfl) (VL.op (R.asI rfl) (VL.nil (V.seq (V.region (VL.op (R.mvI rfl) (VL.op (R.asI rfl) (VL.nil (V.region (VL.op (R.mvI rfl) (VL.op (R.asI rfl) (VL.nil (V.region (VL.op (R.mvI rfl) (VL.op (R.add rfl rfl (by omega) (by omega)) (VL.op (R.asI rfl) (VL.nil (?_)))))))))))))))))))) (fun c79 => V.skip (V.region (VL.op (R.mvI rfl) (VL.op (R.add rfl rfl (by omega) (by omega)) (VL.op (R.asI rfl) (VL.nil (?_)))))))))))))))))))))))))))))) (fun c32 => V.exit (V.region (VL.op (R.mvI rfl) (VL.op (R.add rfl rfl (by omega) (by omega)) (VL.op (R.asI rfl) (VL.nil (?_)))))))))))))))
      · refine notP ⟨fun q => q.2, fun q => ⟨⟨?_, ?_, Classical.not_not.1 g11_22, Classical.not_not.1 g11_30⟩, q⟩⟩
        · have := Classical.not_not.1 g11_6; rw [hmg a hal] at this; omega
        · have := Classical.not_not.1 g11_14; rw [hmg b (by omega)] at this; omega
      · exact notP ⟨fun q => absurd q.1.2.2.2 g11_30, fun q => by cases q⟩
      · exact notP ⟨fun q => absurd q.1.2.2.1 g11_22, fun q => by cases q⟩
      · exact notP ⟨fun q => absurd (by rw [hmg b (by omega), q.1.2.1]) g11_14, fun q => by cases q⟩
      · exact notP ⟨fun q => absurd (by rw [hmg a hal, q.1.1]) g11_6, fun q => by cases q⟩
      · refine ⟨(b + 1, x, y, m), rfl, ⟨by dsimp only; omega, by dsimp only; omega, e8.trans e11c, hB.pass fun hc => ?_⟩, by dsimp only; omega⟩
        have hno : ¬ ((r a = h ∧ r b = h ∧ (same.map F).getD a default = (a : Int) ∧ (same.map F).getD b default = (b : Int)) ∧ apE (same.map F) other (a : Int) (b : Int) = false) := by simpa only [Bool.not_eq_true', decide_eq_false_iff_not] using c71
        obtain ⟨ca, ra⟩ := (hcm _).1 hc.m1
        obtain ⟨cb, rb⟩ := (hcm _).1 hc.m2
        have ra' : r a = h := by have := ra; rwa [Int.toNat_natCast] at this
        have rb' : r b = h := by have := rb; rwa [Int.toNat_natCast] at this
        refine hno ⟨⟨ra', rb', by rw [hfg a hal, ca.2.2]; exact hc.h1, by rw [hfg b (by omega), cb.2.2]; exact hc.h2⟩, ?_⟩
        cases hap : apE (same.map F) other (a : Int) (b : Int) with
        | false => rfl
        | true =>
          exfalso
          subst hr
          have := (apart_cls k hF (h := h) (a := (a : Int)) (b := (b : Int)) (by omega) ⟨ca, ra⟩ ⟨cb, rb⟩).1 hap
          rw [← hcs] at this
          exact hc.free this
      · obtain ⟨g1, g2, g3, g4, g5, g6⟩ := hgd (by omega) c71
        have hc : Cand (wtG same edges) (apG same other) cs F ((a : Int), (b : Int)) := ⟨g1, g2, g3, g4, by dsimp only; omega, g5, by dsimp only; omega⟩
        refine ⟨(b + 1, a, b, btE (same.map F) ins (a : Int) (b : Int)), rfl, ⟨by dsimp only; omega, by dsimp only; omega, e8.trans (e11c.trans e12_4), ?_⟩, by dsimp only; omega⟩
        dsimp only
        rw [g6]
        exact hB.take (by omega) hc (by omega)
      · obtain ⟨g1, g2, g3, g4, g5, g6⟩ := hgd (by omega) c71
        refine ⟨(b + 1, x, y, m), rfl, ⟨by dsimp only; omega, by dsimp only; omega, e8.trans (e11c.trans e12_4), ?_⟩, by dsimp only; omega⟩
        by_cases hp : 0 < btw (wtG same edges) cs F a b
        · exact hB.keep ⟨g1, g2, g3, g4, by dsimp only; omega, g5, hp⟩ (by omega)
        · exact hB.pass fun hc => hp hc.pos
      · have hbn : b = same.length := by omega
        subst hbn
        exact ⟨(a + 1, x, y, m), rfl, ⟨by dsimp only; omega, e8, hB.row hcn (Int.le_refl _)⟩, by dsimp only; omega⟩
    · have han : a = same.length := by omega
      subst han
      exact ⟨(x, y), rfl, e7, hB.done hcn (Int.le_refl _)⟩
  · obtain ⟨eB, hd⟩ := hBB2
    rcases hd with ⟨_, hnc⟩ | ⟨h0, _⟩
    · exact ⟨(a5, c5), rfl, ⟨F, ho6.ext eB, hF, hgr F (.stop F hnc), hun⟩, E6.trans eB⟩
    · omega
  · obtain ⟨eB, hd⟩ := hBB2
    obtain ⟨x, y⟩ := xB2
    have hnx : IsNext (wtG same edges) (apG same other) cs F (x, y) := by
      rcases hd with ⟨q, _⟩ | ⟨_, q⟩
      · exact absurd q c84
      · exact q
    dsimp only
    have hcx := (hcm _).1 hnx.cand.m1
    have hcy := (hcm _).1 hnx.cand.m2
    have hoB := ho6.ext eB
    refine V.region (VL.op (R.asI rfl) (VL.nil (V.block (?_))))
    refine V.loop [0, 1, 2, 3, 4, 11, 12, 17] (fun z : Nat × List Int => [.slice ea ins.length ec, .slice oa other.length co, .slice a5 same.length c5, .slice ma same.length mc, .int .i64 (h : Nat), .int .i64 x, .int .i64 y, .int .i64 (z.1 : Nat)])
      (fun z w' => z.1 ≤ same.length ∧ Vc.Mod (aBlk a5) wBB2 w' ∧ OwnT encI 1 3 w.heap.size w' a5 c5 z.2 ∧ z.2.length = same.length ∧ ∀ j, j < same.length → z.2.getD j default = if j < z.1 then mrg F (x, y) (at_ same (j : Int)) else F (at_ same (j : Int))) (fun z => same.length - z.1) (0, same.map F) rfl ⟨Nat.zero_le _, Mod.refl _ _, hoB, hfl, fun j hj => by rw [if_neg (Nat.not_lt_zero _)]; exact hfg j hj⟩ ?_
    rintro ρ ⟨i, l⟩ w7 ⟨hi, m7, ho7, hl7, hg7⟩
    dsimp only at hi m7 ho7 hl7 hg7 ⊢
    refine V.seq (V.seq (V.region (VL.op (R.mvI rfl) (VL.op (R.mvS rfl) (VL.op (R.lenS Try.runUnderlying23 rfl) (VL.op (R.lss rfl rfl) (VL.nil (V.condP rfl (fun c89 => V.skip (V.seq (V.block (V.seq (V.region (VL.op (R.mvS rfl) (VL.op (R.mvI rfl) (VL.op (R.ixS Try.runUnderlying23 Try.sizeOf3 rfl rfl (by omega) (by omega) ((ho7.sl).some (i := i) (by omega))) (VL.op (R.ld1 Try.isAgg3 rfl (((((ho7.sl).ext (Mod.refl Vc.nob w7)).row (i := i) (by omega)).cell (i := 0) rfl))) (VL.op (R.mvI rfl) (VL.op (R.eql rfl rfl) (VL.nil (V.condP rfl (fun c97 => V.region (VL.op (R.mvS rfl) (VL.op (R.mvI rfl) (VL.op (R.mvI rfl) (VL.op (R.ixS Try.runUnderlying23 Try.sizeOf3 rfl rfl (by omega) (by omega) ((ho7.sl).some (i := i) (by omega))) (VL.ownSt eltI (v := .int _ _) Try.sizeOf3 (ho7) i 0 x rfl rfl (by omega) rfl rfl rfl rfl rfl fun w8 ho8 m8 hs8 => VL.nil (V.region (VL.op (R.mvI rfl) (VL.op (R.add rfl rfl (by omega) (by omega)) (VL.op (R.asI rfl) (VL.nil (?_)))))))))))) (fun c97 => V.skip (V.region (VL.op (R.mvI rfl) (VL.op (R.add rfl rfl (by omega) (by omega)) (VL.op (R.asI rfl) (VL.nil (?_)))))))))))))))))))) (fun c89 => V.exit (?_))))))))))
    · have hil : i < same.length := by omega
      have hgi := hg7 i hil
      rw [if_neg (Nat.lt_irrefl _)] at hgi
      refine ⟨(i + 1, l.set i x), rfl, ⟨by dsimp only; omega, m7.trans m8, ho8, by dsimp only; rw [List.length_set]; exact hl7, fun j hj => ?_⟩, by dsimp only; omega⟩
      dsimp only
      rw [set_get (by omega)]
      by_cases q : j = i
      · subst q
        rw [if_pos rfl, if_pos (Nat.lt_succ_self _)]
        unfold mrg
        rw [if_pos]
        rw [← hgi]; exact c97
      · rw [if_neg q, hg7 j hj]
        by_cases q2 : j < i
        · rw [if_pos q2, if_pos (by omega)]
        · rw [if_neg q2, if_neg (by omega)]
    · have hil : i < same.length := by omega
      have hgi := hg7 i hil
      rw [if_neg (Nat.lt_irrefl _)] at hgi
      refine ⟨(i + 1, l), rfl, ⟨by dsimp only; omega, m7, ho7, hl7, fun j hj => ?_⟩, by dsimp only; omega⟩
      dsimp only
      rw [hg7 j hj]
      by_cases q : j = i
      · subst q
        rw [if_neg (Nat.lt_irrefl _), if_pos (Nat.lt_succ_self _)]
        unfold mrg
        rw [if_neg]
        rw [← hgi]; exact c97
      · by_cases q2 : j < i
        · rw [if_pos q2, if_pos (by omega)]
        · rw [if_neg q2, if_neg (by omega)]
    · have hin : i = same.length := by omega
      subst hin
      have hl : l = same.map (mrg F (x, y)) := by
        refine List.ext_getElem (by rw [List.length_map]; exact hl7) fun j h1 h2 => ?_
        rw [← gdE h1, hg7 j (by omega), if_pos (by omega), List.getElem_map]
        congr 1
        unfold at_
        rw [Int.toNat_natCast, gdE (by omega)]
      subst hl
      have hc := hnx.cand
      refine ⟨mrg F (x, y), rfl, ⟨(m6.trans (Ext.mod eB)).trans m7, ho7, hd_mrg hF hcx.1 hcy.1 hc.lt (by rw [hcx.2, hcy.2]) hc.h1, fun c hcl hcr => ?_, fun F' g => hgr F' (.step F F' (x, y) hnx g)⟩, nHd_mrg hc.m2 hc.h1 hc.h2 hc.lt⟩
      have := hun c hcl hcr
      rw [← this]
      unfold mrg
      rw [if_neg]
      intro q
      have h1 := hF.comp c hcl
      rw [q] at h1
      exact hcr (by rw [← h1]; exact hcy.2)
end Go.Proofs.Ytglaigeellpikaa
