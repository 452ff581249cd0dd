/- Cluster: the reference: Valid, valid, record, between. -/
import Derived.Test.YtglaigeellpikaaXP10
namespace Go.Proofs.Ytglaigeellpikaa
open Go.Vc

theorem rrecord_spec (n i : Int) (w : World) : RetsP Try.prog 43 #[.int .i64 n, .int .i64 i] w (.bool (decide (0 ≤ i) && decide (i < n))) := by
  refine enter (args := [_, _]) Try.func43 rfl Try.ntmps43 (by kernel_rfl) rfl ?_
  refine V.seq (V.region (VL.op (R.asB rfl) (VL.nil (V.seq (V.region (VL.op (R.mvI rfl) (VL.op (R.geq rfl rfl) (VL.op (R.mvB rfl) (VL.andP rfl rfl (fun g1_2 => VL.op (R.mvI rfl) (VL.gT rfl rfl (VL.op (R.mvI rfl) (VL.gT rfl rfl (VL.op (R.lss rfl rfl) (VL.op (R.pickTB rfl rfl) (VL.op (R.asB rfl) (VL.nil (V.ret (fret1 (v := .bool _) rfl rfl rfl (⟨?_, (Mod.refl _ _)⟩))))))))))) (fun g1_2 => VL.gF rfl rfl (VL.gF rfl rfl (VL.op (R.pickFB rfl rfl) (VL.op (R.asB rfl) (VL.nil (V.ret (fret1 (v := .bool _) rfl rfl rfl (⟨?_, (Mod.refl _ _)⟩)))))))))))))))))
  all_goals first | (simp_all; done) | (simp_all; intros; omega)
theorem rValid_spec (a : Option Addr) (ca : Nat) (l : List Int) (w : World) (hm : l.length ≤ 1000000) (hS : IntSl w a l) :
    RetsP Try.prog 36 #[.slice a l.length ca] w (.bool (validB l)) := by
  refine enter (args := [_]) Try.func36 rfl Try.ntmps36 (by kernel_rfl) rfl ?_
  refine V.seq (V.region (VL.op (R.asB rfl) (VL.nil (V.seq (V.seq (V.region (VL.op (R.mvS rfl) (VL.op (R.lenS Try.runUnderlying23 rfl) (VL.op (R.gtr rfl rfl) (VL.nil (V.condP rfl (fun c6 => V.seq (V.region (VL.op (R.asB rfl) (VL.nil (V.ret (fret1 (v := .bool _) rfl rfl rfl (⟨?_, (Mod.refl _ _)⟩))))))) (fun c6 => V.skip (V.seq (V.seq (?_)))))))))))))))
  · have : validB l = false := by unfold validB; rw [decide_eq_false (by omega)]; simp
    rw [this]
  refine V.region (VL.op (R.asI rfl) (VL.nil (V.block (?_))))
  refine V.loop [0, 3] (fun k : Nat => [.slice a l.length ca, .int .i64 (k : Nat)]) (fun k w' => k ≤ l.length ∧ (∀ i, i < k → okAt l i = true) ∧ Ext w w') (fun k => l.length - k) 0 rfl ⟨Nat.zero_le _, fun i h => absurd h (Nat.not_lt_zero _), Mod.refl _ _⟩ ?_
  rintro ρ k w1 ⟨hk, hi, e⟩
  refine V.seq (V.seq (V.region (VL.op (R.mvI rfl) (VL.op (R.mvS rfl) (VL.op (R.lenS Try.runUnderlying23 rfl) (VL.op (R.lss rfl rfl) (VL.nil (V.condP rfl (fun c10 => V.skip (V.seq (V.block (V.seq (V.regionQCut mixed 27 (by kernel_rfl) rfl (fun w' => Ext _ w') (Ext.drawn _) [13, 14, 15, 16, 17, 18, 19, 20, 21, 22, 23, 24, 25, 26, 27, 28, 29, 30, 31, 32, 33, 34, 35, 36, 37, 38, 39] 39 (.bool (!okAt l k)) rfl (VQ.op (fun wq eq => R.mvS rfl) (VQ.op (fun wq eq => R.mvI rfl) (VQ.op (fun wq eq => R.ixS Try.runUnderlying23 Try.sizeOf3 rfl rfl (by omega) (by omega) ((hS).some (i := k) (by omega))) (VQ.op (fun wq eq => R.ld1 Try.isAgg3 rfl (((((hS).ext (e.trans eq)).row (i := k) (by omega)).cell (i := 0) rfl))) (VQ.op (fun wq eq => R.lss rfl rfl) (VQ.op (fun wq eq => R.mvB rfl) (VQ.orP rfl rfl (fun g6_5 => VQ.op (fun wq eq => R.mvS rfl) (VQ.gT rfl rfl (VQ.op (fun wq eq => R.mvI rfl) (VQ.gT rfl rfl (VQ.op (fun wq eq => R.ixS Try.runUnderlying23 Try.sizeOf3 rfl rfl (by omega) (by omega) ((hS).some (i := k) (by omega))) (VQ.gT rfl rfl (VQ.op (fun wq eq => R.ld1 Try.isAgg3 rfl (((((hS).ext (e.trans eq)).row (i := k) (by omega)).cell (i := 0) rfl))) (VQ.gT rfl rfl (VQ.op (fun wq eq => R.mvI rfl) (VQ.gT rfl rfl (VQ.op (fun wq eq => R.gtr rfl rfl) (VQ.op (fun wq eq => R.pickFB rfl rfl) (VQ.op (fun wq eq => R.mvB rfl) (VQ.orP rfl rfl (fun g6_13 => VQ.op (fun wq eq => R.mvS rfl) (VQ.gT rfl rfl (VQ.op (fun wq eq => R.mvS rfl) (VQ.gT rfl rfl (VQ.op (fun wq eq => R.mvI rfl) (VQ.gT rfl rfl (VQ.op (fun wq eq => R.ixS Try.runUnderlying23 Try.sizeOf3 rfl rfl (by omega) (by omega) ((hS).some (i := k) (by omega))) (VQ.gT rfl rfl (VQ.op (fun wq eq => R.ld1 Try.isAgg3 rfl (((((hS).ext (e.trans eq)).row (i := k) (by omega)).cell (i := 0) rfl))) (VQ.gT rfl rfl (VQ.op (fun wq eq => R.ixS Try.runUnderlying23 Try.sizeOf3 rfl rfl (by omega) (by omega) ((hS).some (i := (l.getD k default).toNat) (by omega))) (VQ.gT rfl rfl (VQ.op (fun wq eq => R.ld1 Try.isAgg3 rfl (((((hS).ext (e.trans eq)).row (i := (l.getD k default).toNat) (by omega)).cell (i := 0) rfl))) (VQ.gT rfl rfl (VQ.op (fun wq eq => R.mvS rfl) (VQ.gT rfl rfl (VQ.op (fun wq eq => R.mvI rfl) (VQ.gT rfl rfl (VQ.op (fun wq eq => R.ixS Try.runUnderlying23 Try.sizeOf3 rfl rfl (by omega) (by omega) ((hS).some (i := k) (by omega))) (VQ.gT rfl rfl (VQ.op (fun wq eq => R.ld1 Try.isAgg3 rfl (((((hS).ext (e.trans eq)).row (i := k) (by omega)).cell (i := 0) rfl))) (VQ.gT rfl rfl (VQ.op (fun wq eq => R.neq rfl rfl) (VQ.op (fun wq eq => R.pickFB rfl rfl) (VQ.nil (cutB rfl ?_)))))))))))))))))))))))))) (fun g6_13 => VQ.gF rfl rfl (VQ.gF rfl rfl (VQ.gF rfl rfl (VQ.gF rfl rfl (VQ.gF rfl rfl (VQ.gF rfl rfl (VQ.gF rfl rfl (VQ.gF rfl rfl (VQ.gF rfl rfl (VQ.gF rfl rfl (VQ.gF rfl rfl (VQ.op (fun wq eq => R.pickTB rfl rfl) (VQ.nil (cutB rfl ?_)))))))))))))))))))))))))))) (fun g6_5 => VQ.gF rfl rfl (VQ.gF rfl rfl (VQ.gF rfl rfl (VQ.gF rfl rfl (VQ.gF rfl rfl (VQ.op (fun wq eq => R.pickTB rfl rfl) (VQ.op (fun wq eq => R.mvB rfl) (VQ.gF rfl rfl (VQ.gF rfl rfl (VQ.gF rfl rfl (VQ.gF rfl rfl (VQ.gF rfl rfl (VQ.gF rfl rfl (VQ.gF rfl rfl (VQ.gF rfl rfl (VQ.gF rfl rfl (VQ.gF rfl rfl (VQ.gF rfl rfl (VQ.gF rfl rfl (VQ.op (fun wq eq => R.pickTB rfl rfl) (VQ.nil (cutB rfl ?_))))))))))))))))))))))))))))) (fun rg6 w6c e6c => V.cond rfl (fun c39 => V.seq (V.region (VL.op (R.asB rfl) (VL.nil (V.ret (fret1 (v := .bool _) rfl rfl rfl (⟨?_, (e.trans e6c)⟩))))))) (fun c39 => V.skip (V.region (VL.op (R.mvI rfl) (VL.op (R.add rfl rfl (by omega) (by omega)) (VL.op (R.asI rfl) (VL.nil (⟨k + 1, rfl, ⟨by omega, ?_, (e.trans e6c)⟩, by omega⟩))))))))))))) (fun c10 => V.exit (V.seq (?_)))))))))))
  · cases ho : okAt l k with
    | true => exact decide_eq_false fun h => h (okAt_iff.1 ho).2.2
    | false => exact decide_eq_true fun h => by rw [okAt_iff.2 ⟨by omega, by omega, h⟩] at ho; cases ho
  · rw [show okAt l k = false from Bool.eq_false_iff.2 fun h => by have := (okAt_iff.1 h).2.1; omega]; rfl
  · rw [show okAt l k = false from Bool.eq_false_iff.2 fun h => by have := (okAt_iff.1 h).1; omega]; rfl
  · rw [validB_at (i := k) (by omega) (by simpa using c39)]
  · intro i hik
    by_cases h : i = k
    · subst h; simpa using c39
    · exact hi i (by omega)
  · have hv := validB_all (l := l) fun i hi' => hi i (by omega)
    refine V.region (VL.op (R.asB rfl) (VL.nil (V.ret (fret1 (v := .bool _) rfl rfl rfl (⟨?_, e.trans (Mod.refl _ _)⟩)))))
    rw [hv, decide_eq_true (by omega)]
theorem linkB_at {n : Int} {l : List Ed} {i : Nat} (hi : i < l.length) (h : edB n (l.getD i default) = false) : linkB n l = false := by
  unfold linkB
  rw [show l.all (edB n) = false from List.all_eq_false.2 ⟨_, getD_mem hi, by rw [h]; decide⟩, Bool.and_false]
set_option maxHeartbeats 1000000 in
theorem rvalid_spec (n : Int) (a : Option Addr) (ca : Nat) (l : List Ed) (w : World) (hm : l.length ≤ 1000000) (hS : EdSl w a l) :
    RetsP Try.prog 37 #[.int .i64 n, .slice a l.length ca] w (.bool (linkB n l)) := by
  refine enter (args := [_, _]) Try.func37 rfl Try.ntmps37 (by kernel_rfl) rfl ?_
  refine V.seq (V.region (VL.op (R.asB rfl) (VL.nil (V.seq (V.seq (V.region (VL.op (R.mvS rfl) (VL.op (R.lenS Try.runUnderlying22 rfl) (VL.op (R.gtr rfl rfl) (VL.nil (V.condP rfl (fun c8 => V.seq (V.region (VL.op (R.asB rfl) (VL.nil (V.ret (fret1 (v := .bool _) rfl rfl rfl (⟨?_, (Mod.refl _ _)⟩))))))) (fun c8 => V.skip (V.seq (V.seq (?_)))))))))))))))
  · have : linkB n l = false := by unfold linkB; rw [decide_eq_false (by omega)]; simp
    rw [this]
  refine V.region (VL.op (R.asI rfl) (VL.nil (V.block (?_))))
  refine V.loop [0, 1, 5] (fun k : Nat => [.int .i64 n, .slice a l.length ca, .int .i64 (k : Nat)]) (fun k w' => k ≤ l.length ∧ (∀ i, i < k → edB n (l.getD i default) = true) ∧ Ext w w') (fun k => l.length - k) 0 rfl ⟨Nat.zero_le _, fun i h => absurd h (Nat.not_lt_zero _), Mod.refl _ _⟩ ?_
  rintro ρ k w1 ⟨hk, hi, e⟩
  refine V.seq (V.seq (V.region (VL.op (R.mvI rfl) (VL.op (R.mvS rfl) (VL.op (R.lenS Try.runUnderlying22 rfl) (VL.op (R.lss rfl rfl) (VL.nil (V.condP rfl (fun c12 => V.skip (V.seq (V.block (V.seq (V.regionQCut mixed 47 (by kernel_rfl) rfl (fun w' => Ext _ w') (Ext.drawn _) [15, 16, 17, 18, 19, 20, 21, 22, 23, 24, 25, 26, 27, 28, 29, 30, 31, 32, 33, 34, 35, 36, 37, 38, 39, 40, 41, 42, 43, 44, 45, 46, 47, 48, 49, 50, 51, 52, 53, 54, 55, 56, 57, 58, 59, 60, 61] 61 (.bool (!edB n (l.getD k default))) rfl (VQ.op (fun wq eq => R.mvI rfl) (VQ.op (fun wq eq => R.mvS rfl) (VQ.op (fun wq eq => R.mvI rfl) (VQ.op (fun wq eq => R.ixS Try.runUnderlying22 Try.sizeOf40 rfl rfl (by omega) (by omega) ((hS).some (i := k) (by omega))) (VQ.op (fun wq eq => R.fld' (o := 0) Try.runUnderlying40 rfl rfl Try.sizeOf3 rfl rfl) (VQ.op (fun wq eq => R.ld1 Try.isAgg3 rfl (((((hS).ext (e.trans eq)).row (i := k) (by omega)).cell (i := 0) rfl))) (VQ.callP (fun _ _ h k => Mod.trans h k) Try.call43 rfl (fun wq eq => rrecord_spec n (l.getD k default).a _) (VQ.op (fun wq eq => R.not rfl) (VQ.op (fun wq eq => R.mvB rfl) (VQ.or rfl rfl (fun g6_8 => VQ.op (fun wq eq => R.mvI rfl) (VQ.gT rfl rfl (VQ.op (fun wq eq => R.mvS rfl) (VQ.gT rfl rfl (VQ.op (fun wq eq => R.mvI rfl) (VQ.gT rfl rfl (VQ.op (fun wq eq => R.ixS Try.runUnderlying22 Try.sizeOf40 rfl rfl (by omega) (by omega) ((hS).some (i := k) (by omega))) (VQ.gT rfl rfl (VQ.op (fun wq eq => R.fld' (o := 1) Try.runUnderlying40 rfl rfl Try.sizeOf3 rfl rfl) (VQ.gT rfl rfl (VQ.op (fun wq eq => R.ld1 Try.isAgg3 rfl (((((hS).ext (e.trans eq)).row (i := k) (by omega)).cell (i := 1) rfl))) (VQ.gT rfl rfl (VQ.callP (fun _ _ h k => Mod.trans h k) Try.call43 rfl (fun wq eq => rrecord_spec n (l.getD k default).b _) (VQ.gT rfl rfl (VQ.op (fun wq eq => R.not rfl) (VQ.op (fun wq eq => R.pickFB rfl rfl) (VQ.op (fun wq eq => R.mvB rfl) (VQ.or rfl rfl (fun g6_18 => VQ.op (fun wq eq => R.mvS rfl) (VQ.gT rfl rfl (VQ.op (fun wq eq => R.mvI rfl) (VQ.gT rfl rfl (VQ.op (fun wq eq => R.ixS Try.runUnderlying22 Try.sizeOf40 rfl rfl (by omega) (by omega) ((hS).some (i := k) (by omega))) (VQ.gT rfl rfl (VQ.op (fun wq eq => R.fld' (o := 0) Try.runUnderlying40 rfl rfl Try.sizeOf3 rfl rfl) (VQ.gT rfl rfl (VQ.op (fun wq eq => R.ld1 Try.isAgg3 rfl (((((hS).ext (e.trans eq)).row (i := k) (by omega)).cell (i := 0) rfl))) (VQ.gT rfl rfl (VQ.op (fun wq eq => R.mvS rfl) (VQ.gT rfl rfl (VQ.op (fun wq eq => R.mvI rfl) (VQ.gT rfl rfl (VQ.op (fun wq eq => R.ixS Try.runUnderlying22 Try.sizeOf40 rfl rfl (by omega) (by omega) ((hS).some (i := k) (by omega))) (VQ.gT rfl rfl (VQ.op (fun wq eq => R.fld' (o := 1) Try.runUnderlying40 rfl rfl Try.sizeOf3 rfl rfl) (VQ.gT rfl rfl (VQ.op (fun wq eq => R.ld1 Try.isAgg3 rfl (((((hS).ext (e.trans eq)).row (i := k) (by omega)).cell (i := 1) rfl))) (VQ.gT rfl rfl (VQ.op (fun wq eq => R.eql rfl rfl) (VQ.op (fun wq eq => R.pickFB rfl rfl) (VQ.op (fun wq eq => R.mvB rfl) (VQ.orP rfl rfl (fun g6_31 => VQ.op (fun wq eq => R.mvS rfl) (VQ.gT rfl rfl (VQ.op (fun wq eq => R.mvI rfl) (VQ.gT rfl rfl (VQ.op (fun wq eq => R.ixS Try.runUnderlying22 Try.sizeOf40 rfl rfl (by omega) (by omega) ((hS).some (i := k) (by omega))) (VQ.gT rfl rfl (VQ.op (fun wq eq => R.fld' (o := 2) Try.runUnderlying40 rfl rfl Try.sizeOf3 rfl rfl) (VQ.gT rfl rfl (VQ.op (fun wq eq => R.ld1 Try.isAgg3 rfl (((((hS).ext (e.trans eq)).row (i := k) (by omega)).cell (i := 2) rfl))) (VQ.gT rfl rfl (VQ.op (fun wq eq => R.lss rfl rfl) (VQ.op (fun wq eq => R.pickFB rfl rfl) (VQ.op (fun wq eq => R.mvB rfl) (VQ.orP rfl rfl (fun g6_39 => VQ.op (fun wq eq => R.mvS rfl) (VQ.gT rfl rfl (VQ.op (fun wq eq => R.mvI rfl) (VQ.gT rfl rfl (VQ.op (fun wq eq => R.ixS Try.runUnderlying22 Try.sizeOf40 rfl rfl (by omega) (by omega) ((hS).some (i := k) (by omega))) (VQ.gT rfl rfl (VQ.op (fun wq eq => R.fld' (o := 2) Try.runUnderlying40 rfl rfl Try.sizeOf3 rfl rfl) (VQ.gT rfl rfl (VQ.op (fun wq eq => R.ld1 Try.isAgg3 rfl (((((hS).ext (e.trans eq)).row (i := k) (by omega)).cell (i := 2) rfl))) (VQ.gT rfl rfl (VQ.op (fun wq eq => R.gtr rfl rfl) (VQ.op (fun wq eq => R.pickFB rfl rfl) (VQ.nil (cutB rfl ?_)))))))))))))) (fun g6_39 => VQ.gF rfl rfl (VQ.gF rfl rfl (VQ.gF rfl rfl (VQ.gF rfl rfl (VQ.gF rfl rfl (VQ.op (fun wq eq => R.pickTB rfl rfl) (VQ.nil (cutB rfl ?_)))))))))))))))))))))) (fun g6_31 => VQ.gF rfl rfl (VQ.gF rfl rfl (VQ.gF rfl rfl (VQ.gF rfl rfl (VQ.gF rfl rfl (VQ.op (fun wq eq => R.pickTB rfl rfl) (VQ.op (fun wq eq => R.mvB rfl) (VQ.gF rfl rfl (VQ.gF rfl rfl (VQ.gF rfl rfl (VQ.gF rfl rfl (VQ.gF rfl rfl (VQ.gF rfl rfl (VQ.op (fun wq eq => R.pickTB rfl rfl) (VQ.nil (cutB rfl ?_)))))))))))))))))))))))))))))))))))))))) (fun g6_18 => VQ.gF rfl rfl (VQ.gF rfl rfl (VQ.gF rfl rfl (VQ.gF rfl rfl (VQ.gF rfl rfl (VQ.gF rfl rfl (VQ.gF rfl rfl (VQ.gF rfl rfl (VQ.gF rfl rfl (VQ.gF rfl rfl (VQ.op (fun wq eq => R.pickTB rfl rfl) (VQ.op (fun wq eq => R.mvB rfl) (VQ.gF rfl rfl (VQ.gF rfl rfl (VQ.gF rfl rfl (VQ.gF rfl rfl (VQ.gF rfl rfl (VQ.gF rfl rfl (VQ.op (fun wq eq => R.pickTB rfl rfl) (VQ.op (fun wq eq => R.mvB rfl) (VQ.gF rfl rfl (VQ.gF rfl rfl (VQ.gF rfl rfl (VQ.gF rfl rfl (VQ.gF rfl rfl (VQ.gF rfl rfl (VQ.op (fun wq eq => R.pickTB rfl rfl) (VQ.nil (cutB rfl ?_))))))))))))))))))))))))))))))))))))))))))))))) (fun g6_8 => VQ.gF rfl rfl (VQ.gF rfl rfl (VQ.gF rfl rfl (VQ.gF rfl rfl (VQ.gF rfl rfl (VQ.gF rfl rfl (VQ.gF rfl rfl (VQ.op (fun wq eq => R.pickTB rfl rfl) (VQ.op (fun wq eq => R.mvB rfl) (VQ.gF rfl rfl (VQ.gF rfl rfl (VQ.gF rfl rfl (VQ.gF rfl rfl (VQ.gF rfl rfl (VQ.gF rfl rfl (VQ.gF rfl rfl (VQ.gF rfl rfl (VQ.gF rfl rfl (VQ.gF rfl rfl (VQ.gF rfl rfl (VQ.op (fun wq eq => R.pickTB rfl rfl) (VQ.op (fun wq eq => R.mvB rfl) (VQ.gF rfl rfl (VQ.gF rfl rfl (VQ.gF rfl rfl (VQ.gF rfl rfl (VQ.gF rfl rfl (VQ.gF rfl rfl (VQ.op (fun wq eq => R.pickTB rfl rfl) (VQ.op (fun wq eq => R.mvB rfl) (VQ.gF rfl rfl (VQ.gF rfl rfl (VQ.gF rfl rfl (VQ.gF rfl rfl (VQ.gF rfl rfl (VQ.gF rfl rfl (VQ.op (fun wq eq => R.pickTB rfl rfl) (VQ.nil (cutB rfl ?_))))))))))))))))))))))))))))))))))))))))))))))))) (fun rg6 w6c e6c => V.cond rfl (fun c61 => V.seq (V.region (VL.op (R.asB rfl) (VL.nil (V.ret (fret1 (v := .bool _) rfl rfl rfl (⟨?_, (e.trans e6c)⟩))))))) (fun c61 => V.skip (V.region (VL.op (R.mvI rfl) (VL.op (R.add rfl rfl (by omega) (by omega)) (VL.op (R.asI rfl) (VL.nil (⟨k + 1, rfl, ⟨by omega, ?_, (e.trans e6c)⟩, by omega⟩))))))))))))) (fun c12 => V.exit (V.seq (?_)))))))))))
  iterate 5
    · have hb : ∀ x : Bool, (edB n (l.getD k default) = true ↔ x = false) → x = !edB n (l.getD k default) := fun x h => by cases x <;> cases hh : edB n (l.getD k default) <;> simp_all
      refine hb _ ?_
      rw [edB_iff]
      simp only [Bool.not_eq_false', Bool.not_eq_true', Bool.and_eq_true, Bool.and_eq_false_iff, decide_eq_true_eq, decide_eq_false_iff_not, Bool.true_eq_false, iff_false] at *
      omega
  · rw [linkB_at (i := k) (by omega) (by simpa using c61)]
  · intro i hik
    by_cases h : i = k
    · subst h; simpa using c61
    · exact hi i (by omega)
  · refine V.region (VL.op (R.asB rfl) (VL.nil (V.ret (fret1 (v := .bool _) rfl rfl rfl (⟨?_, e.trans (Mod.refl _ _)⟩)))))
    have : l.all (edB n) = true := List.all_eq_true.2 fun x hx => by
      obtain ⟨i, hi', rfl⟩ := List.getElem_of_mem hx
      rw [← gdE hi']; exact hi i (by omega)
    unfold linkB
    rw [this, decide_eq_true (by omega)]; rfl
/-- The weight between two clusters, by marks. -/
def btT (mk : List Int) (a b : Int) (e : Ed) : Prop := (at_ mk e.a = a ∧ at_ mk e.b = b) ∨ (at_ mk e.a = b ∧ at_ mk e.b = a)
instance (mk : List Int) (a b : Int) (e : Ed) : Decidable (btT mk a b e) := by unfold btT; infer_instance
def btE (mk : List Int) (edges : List Ed) (a b : Int) : Int := sm (edges.map fun e => if btT mk a b e then e.w else 0)
theorem btE_succ {mk : List Int} {edges : List Ed} {a b : Int} {k : Nat} (h : k < edges.length) : btE mk (edges.take (k + 1)) a b = btE mk (edges.take k) a b + if btT mk a b (edges.getD k default) then (edges.getD k default).w else 0 := by
  unfold btE
  rw [List.take_succ_eq_append_getElem h, List.map_append, sm_app, gdE h]
  show _ + ((if btT mk a b edges[k] then edges[k].w else 0) + 0) = _
  omega
set_option maxHeartbeats 1000000 in
theorem between_spec (ea ma : Option Addr) (ec mc : Nat) (edges : List Ed) (mk : List Int) (a b : Int) (w : World) (hm : edges.length ≤ 1000) (hl : linkB mk.length edges = true) (hS : EdSl w ea edges) (hM : IntSl w ma mk) :
    RetsP Try.prog 59 #[.slice ea edges.length ec, .slice ma mk.length mc, .int .i64 a, .int .i64 b] w (.int .i64 (btE mk edges a b)) := by
  refine enter (args := [_, _, _, _]) Try.func59 rfl Try.ntmps59 (by kernel_rfl) rfl ?_
  refine V.seq (V.region (VL.op (R.asI rfl) (VL.nil (V.seq (V.region (VL.op (R.asI rfl) (VL.nil (V.seq (V.seq (V.region (VL.op (R.asI rfl) (VL.nil (V.block (?_))))))))))))))
  refine V.loop [0, 1, 2, 3, 9, 10] (fun k : Nat => [.slice ea edges.length ec, .slice ma mk.length mc, .int .i64 a, .int .i64 b, .int .i64 (btE mk (edges.take k) a b), .int .i64 (k : Nat)])
    (fun k w' => k ≤ edges.length ∧ Ext w w' ∧ -(1000000000 * (k : Int)) ≤ btE mk (edges.take k) a b ∧ btE mk (edges.take k) a b ≤ 1000000000 * (k : Int)) (fun k => edges.length - k) 0 rfl ⟨Nat.zero_le _, Mod.refl _ _, Int.le_refl _, Int.le_refl _⟩ ?_
  rintro ρ k w1 ⟨hk, e, hb1, hb2⟩
  have hed : k < edges.length → 0 ≤ (edges.getD k default).a ∧ 0 ≤ (edges.getD k default).b ∧ (edges.getD k default).a < mk.length ∧ (edges.getD k default).b < mk.length ∧ (edges.getD k default).a ≠ (edges.getD k default).b ∧ -1000000000 ≤ (edges.getD k default).w ∧ (edges.getD k default).w ≤ 1000000000 := fun h => (linkB_iff.1 hl).2 _ (getD_mem h)
  refine V.seq (V.seq (V.region (VL.op (R.mvI rfl) (VL.op (R.mvS rfl) (VL.op (R.lenS Try.runUnderlying22 rfl) (VL.op (R.lss rfl rfl) (VL.nil (V.condP rfl (fun c16 => V.skip (V.seq (V.block (V.seq (V.region (VL.op (R.mvS rfl) (VL.op (R.mvS rfl) (VL.op (R.mvI rfl) (VL.op (R.ixS Try.runUnderlying22 Try.sizeOf40 rfl rfl (by have := hed; omega) (by have := hed; omega) ((hS).some (i := k) (by have := hed; omega))) (VL.op (R.fld' (o := 0) Try.runUnderlying40 rfl rfl Try.sizeOf3 rfl rfl) (VL.op (R.ld1 Try.isAgg3 rfl (((((hS).ext e).row (i := k) (by have := hed; omega)).cell (i := 0) rfl))) (VL.op (R.ixS Try.runUnderlying23 Try.sizeOf3 rfl rfl (by have := hed; omega) (by have := hed; omega) ((hM).some (i := (edges.getD k default).a.toNat) (by have := hed; omega))) (VL.op (R.ld1 Try.isAgg3 rfl (((((hM).ext e).row (i := (edges.getD k default).a.toNat) (by have := hed; omega)).cell (i := 0) rfl))) (VL.op (R.asI rfl) (VL.nil (V.seq (V.region (VL.op (R.mvS rfl) (VL.op (R.mvS rfl) (VL.op (R.mvI rfl) (VL.op (R.ixS Try.runUnderlying22 Try.sizeOf40 rfl rfl (by have := hed; omega) (by have := hed; omega) ((hS).some (i := k) (by have := hed; omega))) (VL.op (R.fld' (o := 1) Try.runUnderlying40 rfl rfl Try.sizeOf3 rfl rfl) (VL.op (R.ld1 Try.isAgg3 rfl (((((hS).ext e).row (i := k) (by have := hed; omega)).cell (i := 1) rfl))) (VL.op (R.ixS Try.runUnderlying23 Try.sizeOf3 rfl rfl (by have := hed; omega) (by have := hed; omega) ((hM).some (i := (edges.getD k default).b.toNat) (by have := hed; omega))) (VL.op (R.ld1 Try.isAgg3 rfl (((((hM).ext e).row (i := (edges.getD k default).b.toNat) (by have := hed; omega)).cell (i := 0) rfl))) (VL.op (R.asI rfl) (VL.nil (V.seq (V.regionCut [35, 36, 37, 38, 39, 40, 41, 42, 43, 44, 45, 46, 47, 48, 49, 50, 51, 52] 52 (.bool (decide (btT mk a b (edges.getD k default)))) (fun w' => Ext _ w') rfl (VL.op (R.mvI rfl) (VL.op (R.mvI rfl) (VL.op (R.eql rfl rfl) (VL.op (R.mvB rfl) (VL.andP rfl rfl (fun g7_3 => VL.op (R.mvI rfl) (VL.gT rfl rfl (VL.op (R.mvI rfl) (VL.gT rfl rfl (VL.op (R.eql rfl rfl) (VL.op (R.pickTB rfl rfl) (VL.op (R.mvB rfl) (VL.orP rfl rfl (fun g7_8 => VL.op (R.mvI rfl) (VL.gT rfl rfl (VL.op (R.mvI rfl) (VL.gT rfl rfl (VL.op (R.eql rfl rfl) (VL.gT rfl rfl (VL.op (R.mvB rfl) (VL.andP rfl rfl (fun g7_12 => VL.op (R.mvI rfl) (VL.gT rfl rfl (VL.op (R.mvI rfl) (VL.gT rfl rfl (VL.op (R.eql rfl rfl) (VL.gT rfl rfl (VL.op (R.pickTB rfl rfl) (VL.op (R.pickFB rfl rfl) (VL.nil ⟨rfl, cutB rfl ?_, Mod.refl _ _⟩))))))))) (fun g7_12 => VL.gF rfl rfl (VL.gF rfl rfl (VL.gT rfl rfl (VL.op (R.pickFB rfl rfl) (VL.op (R.pickFB rfl rfl) (VL.nil ⟨rfl, cutB rfl ?_, Mod.refl _ _⟩)))))))))))))) (fun g7_8 => VL.gF rfl rfl (VL.gF rfl rfl (VL.gF rfl rfl (VL.gU rfl rfl (VL.gU rfl rfl (VL.gU rfl rfl (VL.gF rfl rfl (VL.op (R.pickTB rfl rfl) (VL.nil ⟨rfl, cutB rfl ?_, Mod.refl _ _⟩))))))))))))))))) (fun g7_3 => VL.gF rfl rfl (VL.gF rfl rfl (VL.op (R.pickFB rfl rfl) (VL.op (R.mvB rfl) (VL.gT rfl rfl (VL.op (R.mvI rfl) (VL.gT rfl rfl (VL.op (R.mvI rfl) (VL.gT rfl rfl (VL.op (R.eql rfl rfl) (VL.gT rfl rfl (VL.op (R.mvB rfl) (VL.andP rfl rfl (fun g7_12 => VL.op (R.mvI rfl) (VL.gT rfl rfl (VL.op (R.mvI rfl) (VL.gT rfl rfl (VL.op (R.eql rfl rfl) (VL.gT rfl rfl (VL.op (R.pickTB rfl rfl) (VL.op (R.pickFB rfl rfl) (VL.nil ⟨rfl, cutB rfl ?_, Mod.refl _ _⟩))))))))) (fun g7_12 => VL.gF rfl rfl (VL.gF rfl rfl (VL.gT rfl rfl (VL.op (R.pickFB rfl rfl) (VL.op (R.pickFB rfl rfl) (VL.nil ⟨rfl, cutB rfl ?_, Mod.refl _ _⟩)))))))))))))))))))))))) (fun rg7 w7c e7c => V.condP rfl (fun c52 => V.region (VL.op (R.mvI rfl) (VL.op (R.mvS rfl) (VL.op (R.mvI rfl) (VL.op (R.ixS Try.runUnderlying22 Try.sizeOf40 rfl rfl (by have := hed; omega) (by have := hed; omega) ((hS).some (i := k) (by have := hed; omega))) (VL.op (R.fld' (o := 2) Try.runUnderlying40 rfl rfl Try.sizeOf3 rfl rfl) (VL.op (R.ld1 Try.isAgg3 rfl (((((hS).ext (e.trans e7c)).row (i := k) (by have := hed; omega)).cell (i := 2) rfl))) (VL.op (R.add rfl rfl (by have := hed; omega) (by have := hed; omega)) (VL.op (R.asI rfl) (VL.nil (V.region (VL.op (R.mvI rfl) (VL.op (R.add rfl rfl (by omega) (by omega)) (VL.op (R.asI rfl) (VL.nil (?_)))))))))))))))) (fun c52 => V.skip (V.region (VL.op (R.mvI rfl) (VL.op (R.add rfl rfl (by omega) (by omega)) (VL.op (R.asI rfl) (VL.nil (?_))))))))))))))))))))))))))))))))))))) (fun c16 => V.exit (V.seq (?_)))))))))))
  iterate 5 first | exact decide_eq_decide.2 (by unfold btT at_; omega) | exact (decide_eq_false (by unfold btT at_; omega)).symm | exact (decide_eq_true (by unfold btT at_; omega)).symm
  · have h := hed (by omega)
    have hs := btE_succ (mk := mk) (a := a) (b := b) (edges := edges) (k := k) (by omega)
    rw [if_pos c52] at hs
    exact ⟨k + 1, by rw [hs]; rfl, ⟨by omega, e.trans e7c, by rw [hs]; omega, by rw [hs]; omega⟩, by omega⟩
  · have h := hed (by omega)
    have hs := btE_succ (mk := mk) (a := a) (b := b) (edges := edges) (k := k) (by omega)
    rw [if_neg c52, Int.add_zero] at hs
    exact ⟨k + 1, by rw [hs]; rfl, ⟨by omega, e.trans e7c, by rw [hs]; omega, by rw [hs]; omega⟩, by omega⟩
  · have hkl : k = edges.length := by omega
    subst hkl
    refine V.region (VL.op (R.mvI rfl) (VL.op (R.asI rfl) (VL.nil (V.ret (fret1 (v := .int _ _) rfl rfl rfl (⟨?_, e.trans (Mod.refl _ _)⟩))))))
    rw [List.take_length]
end Go.Proofs.Ytglaigeellpikaa

/- Cluster: the reference's marks: plainly. No program. -/
namespace Go.Proofs.Ytglaigeellpikaa
open Go.Vc

/-- Two records of classes that are joined. -/
def posP (same : List Int) (edges : List Ed) (x y : Nat) : Prop := x ≠ y ∧ 0 < btE same edges (x : Int) (y : Int)
theorem btT_comm {mk : List Int} {a b : Int} {e : Ed} : btT mk a b e ↔ btT mk b a e := ⟨fun h => h.symm, fun h => h.symm⟩
theorem btE_comm (mk : List Int) (edges : List Ed) (a b : Int) : btE mk edges a b = btE mk edges b a := by
  unfold btE
  refine sm_congr _ _ fun e _ => ?_
  by_cases h : btT mk a b e
  · rw [if_pos h, if_pos (btT_comm.1 h)]
  · rw [if_neg h, if_neg fun q => h (btT_comm.2 q)]
theorem btE_wt (same : List Int) (edges : List Ed) {a b : Int} (h : a < b) : btE same edges a b = wtG same edges a b := by
  unfold wtG
  rw [gW_val]
  unfold btE
  refine sm_congr _ _ fun e _ => ?_
  have : btT same a b e ↔ ofP same e a b := by
    unfold btT ofP
    rw [ord_eq h]
    constructor
    · intro q; exact ⟨by omega, q⟩
    · intro q; exact q.2
  by_cases q : btT same a b e
  · rw [if_pos q, if_pos (this.1 q)]
  · rw [if_neg q, if_neg fun z => q (this.2 z)]
theorem posP_join {same : List Int} {edges : List Ed} {other : List (Int × Int)} (k : OkG same edges other) {x y : Nat} (h : posP same edges x y) : rG same edges x = rG same edges y := by
  obtain ⟨hne, hp⟩ := h
  rcases Nat.lt_or_gt_of_ne hne with e | e
  · rw [btE_wt same edges (by omega)] at hp
    have := pos_join k hp
    simpa using this
  · rw [btE_comm, btE_wt same edges (by omega)] at hp
    have := pos_join k hp
    simpa using this.symm
def J0 (same : List Int) : List (Nat × Nat) := (List.range same.length).map fun i => (i, (same.getD i default).toNat)
theorem J0_is {same : List Int} (hv : ∀ i, i < same.length → 0 ≤ same.getD i default ∧ same.getD i default ≤ i ∧ same.getD (same.getD i default).toNat default = same.getD i default) : IsComp same.length (J0 same) fun i => (same.getD i default).toNat := by
  refine ⟨fun i hi => by have := hv i hi; omega, fun i hi => by rw [(hv i hi).2.2], fun p hp => ?_, fun f hf i hi => ?_⟩
  · obtain ⟨i, hi, rfl⟩ := List.mem_map.1 hp
    dsimp only
    rw [(hv i (List.mem_range.1 hi)).2.2]
  · exact (hf _ (List.mem_map.2 ⟨i, List.mem_range.2 hi, rfl⟩)).symm
/-- The divisions while records are joined. -/
structure MkJ (same : List Int) (edges : List Ed) (P : List (Nat × Nat)) (r : Nat → Nat) : Prop where
  is : IsComp same.length (J0 same ++ P) r
  lt : ∀ p ∈ P, p.1 < same.length ∧ p.2 < same.length
  pos : ∀ p ∈ P, posP same edges p.1 p.2
theorem J0_lt {same : List Int} (hv : ∀ i, i < same.length → 0 ≤ same.getD i default ∧ same.getD i default ≤ i ∧ same.getD (same.getD i default).toNat default = same.getD i default) : ∀ p ∈ J0 same, p.1 < same.length ∧ p.2 < same.length := fun p hp => by
  obtain ⟨i, hi, rfl⟩ := List.mem_map.1 hp
  have hi := List.mem_range.1 hi
  have := hv i hi
  dsimp only; omega
theorem MkJ.step {same : List Int} {edges : List Ed} {P : List (Nat × Nat)} {r : Nat → Nat} (hv : ∀ i, i < same.length → 0 ≤ same.getD i default ∧ same.getD i default ≤ i ∧ same.getD (same.getD i default).toNat default = same.getD i default) (h : MkJ same edges P r) {x y : Nat} (hx : x < same.length) (hy : y < same.length) (hp : posP same edges x y) : MkJ same edges (P ++ [(x, y)]) (joinR r x y) := by
  refine ⟨?_, fun p hpm => ?_, fun p hpm => ?_⟩
  · rw [← List.append_assoc]
    exact h.is.step hx hy fun p hp => (List.mem_append.1 hp).elim (J0_lt hv p) (h.lt p)
  · rcases List.mem_append.1 hpm with h1 | h1
    · exact h.lt p h1
    · rw [List.mem_singleton.1 h1]; exact ⟨hx, hy⟩
  · rcases List.mem_append.1 hpm with h1 | h1
    · exact h.pos p h1
    · rw [List.mem_singleton.1 h1]; exact hp
/-- When no edge joins any more, the division is that into components. -/
theorem MkJ.done {same : List Int} {edges : List Ed} {other : List (Int × Int)} (k : OkG same edges other) {P : List (Nat × Nat)} {r : Nat → Nat} (h : MkJ same edges P r) (hd : ∀ e ∈ edges, r (at_ same e.a).toNat = r (at_ same e.b).toNat ∨ btE same edges (at_ same e.a) (at_ same e.b) ≤ 0) : ∀ i, i < same.length → r i = rG same edges i := by
  refine h.is.unique (cmpR_is k.v k.ok) (fun p hp => ?_) fun p hp => ?_
  · rcases List.mem_append.1 hp with hp | hp
    · obtain ⟨i, hi, rfl⟩ := List.mem_map.1 hp
      exact (cmpR_is k.v k.ok).join _ (jC_mem.2 (.inl ⟨i, List.mem_range.1 hi, rfl⟩))
    · exact posP_join k (h.pos p hp)
  · rcases (jC_wt same edges).1 hp with ⟨i, hi, rfl⟩ | ⟨a, b, hab, rfl⟩
    · exact h.is.join _ (List.mem_append_left _ (List.mem_map.2 ⟨i, List.mem_range.2 hi, rfl⟩))
    · dsimp only
      have hw := hab
      unfold wtG at hw
      rw [gW_val] at hw
      have : ∃ e ∈ edges, ofP same e a b := Classical.byContradiction fun hn => by
        rw [sm_zero _ fun e he => if_neg fun q => hn ⟨e, he, q⟩] at hw
        omega
      obtain ⟨e, he, ho⟩ := this
      have hor : (at_ same e.a = a ∧ at_ same e.b = b) ∨ (at_ same e.a = b ∧ at_ same e.b = a) := by
        have := ho.2
        unfold ordF at this; rw [Prod.mk.injEq] at this; omega
      have hlt : a < b := by
        have h1 := ho.1
        have h2 := ho.2
        unfold ordF at h2; rw [Prod.mk.injEq] at h2; omega
      have hb := btE_wt same edges hlt
      rcases hd e he with h1 | h1
      · rcases hor with ⟨q1, q2⟩ | ⟨q1, q2⟩
        · rw [q1, q2] at h1; exact h1
        · rw [q1, q2] at h1; exact h1.symm
      · rcases hor with ⟨q1, q2⟩ | ⟨q1, q2⟩
        · rw [q1, q2] at h1; omega
        · rw [q1, q2, btE_comm] at h1; omega
/-- How many there are. -/
def nK (r : Nat → Nat) (n : Nat) : Nat := ((List.range n).filter fun i => decide (r i = i)).length
theorem nK_join {J : List (Nat × Nat)} {r : Nat → Nat} {n : Nat} (h : IsComp n J r) {x y : Nat} (hx : x < n) (hy : y < n) (hne : r x ≠ r y) : nK (joinR r x y) n < nK r n := by
  have hm : ∀ z, z < n → r z < n := fun z hz => by have := h.le z hz; omega
  have hmax : r (max (r x) (r y)) = max (r x) (r y) ∧ max (r x) (r y) < n := by
    rcases Nat.le_total (r x) (r y) with hh | hh
    · rw [Nat.max_eq_right hh]; exact ⟨h.idem y hy, hm y hy⟩
    · rw [Nat.max_eq_left hh]; exact ⟨h.idem x hx, hm x hx⟩
  have hmin : r (min (r x) (r y)) = min (r x) (r y) := by
    rcases Nat.le_total (r x) (r y) with hh | hh
    · rw [Nat.min_eq_left hh]; exact h.idem x hx
    · rw [Nat.min_eq_right hh]; exact h.idem y hy
  have key : (max (r x) (r y) :: (List.range n).filter fun i => decide (joinR r x y i = i)).length ≤ ((List.range n).filter fun i => decide (r i = i)).length := by
    refine nodup_leC ?_ fun i hi => ?_
    · refine List.nodup_cons.2 ⟨fun hin => ?_, List.Nodup.sublist List.filter_sublist List.nodup_range⟩
      have := of_decide_eq_true (List.mem_filter.1 hin).2
      unfold joinR at this
      rw [hmax.1, if_pos rfl] at this
      omega
    · rcases List.mem_cons.1 hi with e | hi
      · rw [e]; exact List.mem_filter.2 ⟨List.mem_range.2 hmax.2, decide_eq_true hmax.1⟩
      · obtain ⟨h1, h2⟩ := List.mem_filter.1 hi
        have h2 := of_decide_eq_true h2
        refine List.mem_filter.2 ⟨h1, decide_eq_true ?_⟩
        unfold joinR at h2
        split at h2
        · rename_i hr
          rw [← h2, hmin] at hr
          omega
        · exact h2
  unfold nK
  simp only [List.length_cons] at key
  omega
def mkL (r : Nat → Nat) (n : Nat) : List Int := (List.range n).map fun i => ((r i : Nat) : Int)
theorem mkL_len (r : Nat → Nat) (n : Nat) : (mkL r n).length = n := by unfold mkL; rw [List.length_map, List.length_range]
theorem mkL_get {r : Nat → Nat} {n i : Nat} (h : i < n) : (mkL r n).getD i default = ((r i : Nat) : Int) := by
  rw [gdE (by rw [mkL_len]; exact h)]
  unfold mkL
  simp
theorem mkL_set {r : Nat → Nat} {n k v : Nat} : (mkL r n).set k ((v : Nat) : Int) = mkL (fun i => if i = k then v else r i) n := by
  refine List.ext_getElem (by rw [List.length_set, mkL_len, mkL_len]) fun i h1 h2 => ?_
  rw [List.getElem_set]
  by_cases e : k = i
  · subst e; simp [mkL]
  · simp [mkL, e, show ¬ i = k from fun q => e q.symm]
theorem mkL_congr {r s : Nat → Nat} {n : Nat} (h : ∀ i, i < n → r i = s i) : mkL r n = mkL s n := by
  unfold mkL
  exact List.map_congr_left fun i hi => by rw [h i (List.mem_range.1 hi)]
end Go.Proofs.Ytglaigeellpikaa

/- Cluster: the reference's marks: the walk. -/
namespace Go.Proofs.Ytglaigeellpikaa
open Go.Vc

set_option maxRecDepth 100000 in
set_option maxHeartbeats 8000000 in
theorem marks_spec (ea sa : Option Addr) (ec cs : Nat) (edges : List Ed) (same : List Int) (other : List (Int × Int)) (w : World) (k_ : OkG same edges other) (hm : edges.length ≤ 1000) (hms : same.length ≤ 1000) (hsx : sa = none → cs = 0) (hS : EdSl w ea edges) (hI : IntSl w sa same) :
    RetsX Try.prog 39 #[.slice ea edges.length ec, .slice sa same.length cs] w (fun x : Option Addr × Nat => .slice x.1 same.length x.2) (fun x w' => OwnT encI 1 3 w.heap.size w' x.1 x.2 (mkL (rG same edges) same.length)) := by
  refine enter (args := [_, _]) Try.func39 rfl Try.ntmps39 (by kernel_rfl) rfl ?_
  have hv := k_.v
  have hsm : same = mkL (fun i => (same.getD i default).toNat) same.length := by
    refine List.ext_getElem (mkL_len _ _).symm fun i h1 h2 => ?_
    rw [← gdE h2, mkL_get h1, gdE h1]
    have := hv i h1
    rw [gdE h1] at this
    omega
  refine V.seq (V.region (VL.op (R.asS rfl) (VL.nil (V.seq (V.region (VL.buildSl Try.runUnderlying23 Try.sizeOf3 Try.zeroValue3 rfl rfl rfl fun b2 w2 hb2 e2 hX2 => VL.op (R.mvS rfl) (VL.appendT el23 (fun _ => rfl) rfl (rfl) ((OwnT.of0 encI 1 hX2 (Nat.le_of_eq (Eq.symm hb2)))) rfl (rfl) ((hI.ext e2)) (hsx) (by simp; omega) (by simp [maxLen]; omega) e2.size (Nat.zero_add _) fun a5 c5 w5 ho5 m5 hf5 => VL.op (R.asS rfl) (VL.nil (V.seq (V.seq (?_)))))))))))
  have E5 : Ext w w5 := e2.ownA m5 fun k hk => by have := aBlk_some hk; omega
  have ho5 : OwnT encI 1 3 w.heap.size w5 a5 c5 same := ho5
  refine V.region (VL.op (R.asB rfl) (VL.nil (V.block (?_))))
  refine V.loop [0, 1, 5, 6] (fun x : (Nat → Nat) × List (Nat × Nat) × Bool => [.slice ea edges.length ec, .slice sa same.length cs, .slice a5 same.length c5, .bool x.2.2])
    (fun x w' => Vc.Mod (aBlk a5) w5 w' ∧ OwnT encI 1 3 w.heap.size w' a5 c5 (mkL x.1 same.length) ∧ MkJ same edges x.2.1 x.1 ∧ (x.2.2 = false → ∀ e ∈ edges, x.1 (at_ same e.a).toNat = x.1 (at_ same e.b).toNat ∨ btE same edges (at_ same e.a) (at_ same e.b) ≤ 0)) (fun x => 2 * nK x.1 same.length + if x.2.2 = true then 1 else 0) (fun i => (same.getD i default).toNat, [], true) rfl
    ⟨Mod.refl _ _, by rw [← hsm]; exact ho5, ⟨by rw [List.append_nil]; exact J0_is hv, fun p hp => (by cases hp), fun p hp => (by cases hp)⟩, fun h => by cases h⟩ ?_
  rintro ρ ⟨r, P, ag⟩ w6 ⟨m6, ho6, hJ, hag⟩
  dsimp only at m6 ho6 hJ hag ⊢
  cases ag with
  | false =>
    have E6 : Ext w w6 := E5.ownA m6 fun k hk => ho5.ge k hk
    refine V.seq (V.seq (V.region (VL.op (R.mvB rfl) (VL.nil (V.cond rfl (fun c16 => V.skip (V.block (V.seq (V.region (VL.op (R.asB rfl) (VL.nil (V.seq (V.region (VL.op (R.asI rfl) (VL.nil (V.block (?_)))))))))))) (fun c16 => V.exit (V.seq (?_))))))))
    · contradiction
    · have hd := hJ.done k_ (hag rfl)
      refine V.region (VL.op (R.mvS rfl) (VL.op (R.asS rfl) (VL.nil (V.ret (fret1 (v := .slice _ _ _) rfl rfl rfl (⟨(a5, c5), rfl, by rw [← mkL_congr hd]; exact ho6, E6⟩))))))
  | true =>
    refine V.seq (V.seq (V.region (VL.op (R.mvB rfl) (VL.nil (V.cond rfl (fun c16 => V.skip (V.block (V.seq (V.region (VL.op (R.asB rfl) (VL.nil (V.seq (V.region (VL.op (R.asI rfl) (VL.nil (V.block (?_)))))))))))) (fun c16 => V.exit (V.seq (V.region (VL.op (R.mvS rfl) (VL.op (R.asS rfl) (VL.nil (V.ret (fret1 (v := .slice _ _ _) rfl rfl rfl (?_))))))))))))))
    · refine V.loop [0, 1, 5, 6, 7] (fun x : Nat × (Nat → Nat) × List (Nat × Nat) × Bool => [.slice ea edges.length ec, .slice sa same.length cs, .slice a5 same.length c5, .bool x.2.2.2, .int .i64 (x.1 : Nat)])
        (fun x w' => x.1 ≤ edges.length ∧ Vc.Mod (aBlk a5) w5 w' ∧ OwnT encI 1 3 w.heap.size w' a5 c5 (mkL x.2.1 same.length) ∧ MkJ same edges x.2.2.1 x.2.1 ∧ nK x.2.1 same.length ≤ nK r same.length ∧ (x.2.2.2 = true → nK x.2.1 same.length < nK r same.length) ∧ (x.2.2.2 = false → ∀ i, i < x.1 → x.2.1 (at_ same (edges.getD i default).a).toNat = x.2.1 (at_ same (edges.getD i default).b).toNat ∨ btE same edges (at_ same (edges.getD i default).a) (at_ same (edges.getD i default).b) ≤ 0)) (fun x => edges.length - x.1) (0, r, P, false) rfl
        ⟨Nat.zero_le _, m6, ho6, hJ, Nat.le_refl _, fun h => (by cases h), fun _ i h => absurd h (Nat.not_lt_zero _)⟩ ?_
      rintro ρ ⟨k, r', P', ag'⟩ w7 ⟨hk, m7, ho7, hJ7, hn7, hn7', hag7⟩
      dsimp only at hk m7 ho7 hJ7 hn7 hn7' hag7 ⊢
      have E7 : Ext w w7 := E5.ownA m7 fun k hk => ho5.ge k hk
      have hS7 := hS.ext E7
      have hI7 := hI.ext E7
      obtain ⟨ed, hed⟩ : ∃ ed, ed = edges.getD k default := ⟨_, rfl⟩
      have hel : k < edges.length → 0 ≤ (edges.getD k default).a ∧ 0 ≤ (edges.getD k default).b ∧ (edges.getD k default).a < same.length ∧ (edges.getD k default).b < same.length := fun h => k_.l _ (getD_mem h)
      refine V.seq (V.seq (V.region (VL.op (R.mvI rfl) (VL.op (R.mvS rfl) (VL.op (R.lenS Try.runUnderlying22 rfl) (VL.op (R.lss rfl rfl) (VL.nil (V.condP rfl (fun c20 => V.skip (V.seq (V.block (V.seq (V.region (VL.op (R.mvS rfl) (VL.op (R.mvS rfl) (VL.op (R.mvI rfl) (VL.op (R.ixS Try.runUnderlying22 Try.sizeOf40 rfl rfl (by have := hel; omega) (by have := hel; omega) ((hS7).some (i := k) (by have := hel; omega))) (VL.op (R.fld' (o := 0) Try.runUnderlying40 rfl rfl Try.sizeOf3 rfl rfl) (VL.op (R.ld1 Try.isAgg3 rfl (((((hS7).ext (Mod.refl Vc.nob w7)).row (i := k) (by have := hel; omega)).cell (i := 0) rfl))) (VL.op (R.ixS Try.runUnderlying23 Try.sizeOf3 rfl rfl (by have := hel; omega) (by have := hel; omega) ((hI7).some (i := (edges.getD k default).a.toNat) (by have := hel; omega))) (VL.op (R.ld1 Try.isAgg3 rfl (((((hI7).ext (Mod.refl Vc.nob w7)).row (i := (edges.getD k default).a.toNat) (by have := hel; omega)).cell (i := 0) rfl))) (VL.op (R.asI rfl) (VL.nil (V.seq (V.region (VL.op (R.mvS rfl) (VL.op (R.mvS rfl) (VL.op (R.mvI rfl) (VL.op (R.ixS Try.runUnderlying22 Try.sizeOf40 rfl rfl (by have := hel; omega) (by have := hel; omega) ((hS7).some (i := k) (by have := hel; omega))) (VL.op (R.fld' (o := 1) Try.runUnderlying40 rfl rfl Try.sizeOf3 rfl rfl) (VL.op (R.ld1 Try.isAgg3 rfl (((((hS7).ext (Mod.refl Vc.nob w7)).row (i := k) (by have := hel; omega)).cell (i := 1) rfl))) (VL.op (R.ixS Try.runUnderlying23 Try.sizeOf3 rfl rfl (by have := hel; omega) (by have := hel; omega) ((hI7).some (i := (edges.getD k default).b.toNat) (by have := hel; omega))) (VL.op (R.ld1 Try.isAgg3 rfl (((((hI7).ext (Mod.refl Vc.nob w7)).row (i := (edges.getD k default).b.toNat) (by have := hel; omega)).cell (i := 0) rfl))) (VL.op (R.asI rfl) (VL.nil (V.seq (V.seq (?_)))))))))))))))))))))))))))))) (fun c20 => V.exit (?_))))))))))
      · have hkl : k < edges.length := by omega
        obtain ⟨b1, b2, b3, b4⟩ := hel hkl
        have c1 := cl_at k_ b1 b3
        have c2 := cl_at k_ b2 b4
        obtain ⟨X, hX⟩ : ∃ X : Nat, same.getD (edges.getD k default).a.toNat default = (X : Int) := ⟨(at_ same (edges.getD k default).a).toNat, by have := c1.1.1; unfold at_ at this ⊢; omega⟩
        obtain ⟨Y, hY⟩ : ∃ Y : Nat, same.getD (edges.getD k default).b.toNat default = (Y : Int) := ⟨(at_ same (edges.getD k default).b).toNat, by have := c2.1.1; unfold at_ at this ⊢; omega⟩
        have hXl : X < same.length := by have := c1.1.2.1; unfold at_ at this; omega
        have hYl : Y < same.length := by have := c2.1.2.1; unfold at_ at this; omega
        rw [hX, hY]
        have hgX : (mkL r' same.length).getD X default = ((r' X : Nat) : Int) := mkL_get hXl
        have hgY : (mkL r' same.length).getD Y default = ((r' Y : Nat) : Int) := mkL_get hYl
        have hml := mkL_len r' same.length
        refine V.regionQCut mixed 17 (by kernel_rfl) rfl (fun w' => Ext _ w') (Ext.drawn _) [39, 40, 41, 42, 43, 44, 45, 46, 47, 48, 49, 50, 51, 52, 53, 54, 55] 55 (.bool (decide (r' X = r' Y) || decide (btE same edges (X : Int) (Y : Int) ≤ 0))) rfl (VQ.op (fun wq eq => R.mvS rfl) (VQ.op (fun wq eq => R.mvI rfl) (VQ.op (fun wq eq => R.ixS Try.runUnderlying23 Try.sizeOf3 rfl rfl (by omega) (by omega) ((ho7.sl).some (i := X) (by omega))) (VQ.op (fun wq eq => R.ld1 Try.isAgg3 rfl (((((ho7.sl).ext ((Mod.refl Vc.nob w7).trans eq)).row (i := X) (by omega)).cell (i := 0) rfl))) (VQ.op (fun wq eq => R.mvS rfl) (VQ.op (fun wq eq => R.mvI rfl) (VQ.op (fun wq eq => R.ixS Try.runUnderlying23 Try.sizeOf3 rfl rfl (by omega) (by omega) ((ho7.sl).some (i := Y) (by omega))) (VQ.op (fun wq eq => R.ld1 Try.isAgg3 rfl (((((ho7.sl).ext ((Mod.refl Vc.nob w7).trans eq)).row (i := Y) (by omega)).cell (i := 0) rfl))) (VQ.op (fun wq eq => R.eql rfl rfl) (VQ.op (fun wq eq => R.mvB rfl) (VQ.orP rfl rfl (fun g10_9 => VQ.op (fun wq eq => R.mvS rfl) (VQ.gT rfl rfl (VQ.op (fun wq eq => R.mvS rfl) (VQ.gT rfl rfl (VQ.op (fun wq eq => R.mvI rfl) (VQ.gT rfl rfl (VQ.op (fun wq eq => R.mvI rfl) (VQ.gT rfl rfl (VQ.callP (fun _ _ h k => Mod.trans h k) Try.call59 rfl (fun wq eq => between_spec ea sa ec cs edges same (X : Int) (Y : Int) _ hm k_.lk (hS7.ext eq) (hI7.ext eq)) (VQ.gT rfl rfl (VQ.op (fun wq eq => R.leq rfl rfl) (VQ.op (fun wq eq => R.pickFB rfl rfl) (VQ.nil (cutB rfl ?_)))))))))))))) (fun g10_9 => VQ.gF rfl rfl (VQ.gF rfl rfl (VQ.gF rfl rfl (VQ.gF rfl rfl (VQ.gF rfl rfl (VQ.op (fun wq eq => R.pickTB rfl rfl) (VQ.nil (cutB rfl ?_))))))))))))))))))) (fun rg10 w10c e10c => V.cond rfl (fun c55 => V.exit (V.region (VL.op (R.mvI rfl) (VL.op (R.add rfl rfl (by omega) (by omega)) (VL.op (R.asI rfl) (VL.nil (?_))))))) (fun c55 => V.skip (V.seq (V.regionQ mixed 8 (by kernel_rfl) rfl (fun w' => Ext _ w') (Ext.drawn _) (VQ.op (fun wq eq => R.mvS rfl) (VQ.op (fun wq eq => R.mvI rfl) (VQ.op (fun wq eq => R.ixS Try.runUnderlying23 Try.sizeOf3 rfl rfl (by omega) (by omega) ((ho7.sl).some (i := X) (by omega))) (VQ.op (fun wq eq => R.ld1 Try.isAgg3 rfl (((((ho7.sl).ext (((Mod.refl Vc.nob w7).trans e10c).trans eq)).row (i := X) (by omega)).cell (i := 0) rfl))) (VQ.op (fun wq eq => R.mvS rfl) (VQ.op (fun wq eq => R.mvI rfl) (VQ.op (fun wq eq => R.ixS Try.runUnderlying23 Try.sizeOf3 rfl rfl (by omega) (by omega) ((ho7.sl).some (i := Y) (by omega))) (VQ.op (fun wq eq => R.ld1 Try.isAgg3 rfl (((((ho7.sl).ext (((Mod.refl Vc.nob w7).trans e10c).trans eq)).row (i := Y) (by omega)).cell (i := 0) rfl))) (VQ.nil fun w11q e11q => VL.op (R.min rfl rfl) (VL.op (R.asI rfl) (VL.nil (V.seq (V.regionQ mixed 8 (by kernel_rfl) rfl (fun w' => Ext _ w') (Ext.drawn _) (VQ.op (fun wq eq => R.mvS rfl) (VQ.op (fun wq eq => R.mvI rfl) (VQ.op (fun wq eq => R.ixS Try.runUnderlying23 Try.sizeOf3 rfl rfl (by omega) (by omega) ((ho7.sl).some (i := X) (by omega))) (VQ.op (fun wq eq => R.ld1 Try.isAgg3 rfl (((((ho7.sl).ext ((((Mod.refl Vc.nob w7).trans e10c).trans e11q).trans eq)).row (i := X) (by omega)).cell (i := 0) rfl))) (VQ.op (fun wq eq => R.mvS rfl) (VQ.op (fun wq eq => R.mvI rfl) (VQ.op (fun wq eq => R.ixS Try.runUnderlying23 Try.sizeOf3 rfl rfl (by omega) (by omega) ((ho7.sl).some (i := Y) (by omega))) (VQ.op (fun wq eq => R.ld1 Try.isAgg3 rfl (((((ho7.sl).ext ((((Mod.refl Vc.nob w7).trans e10c).trans e11q).trans eq)).row (i := Y) (by omega)).cell (i := 0) rfl))) (VQ.nil fun w12q e12q => VL.op (R.max rfl rfl) (VL.op (R.asI rfl) (VL.nil (V.seq (V.seq (V.region (VL.op (R.asI rfl) (VL.nil (V.block (?_)))))))))))))))))))))))))))))))))))
        · rw [show decide (r' X = r' Y) = false from decide_eq_false fun h => g10_9 (by rw [hgX, hgY, h]), Bool.false_or]
        · rw [decide_eq_true (by rw [hgX, hgY] at g10_9; omega)]; rfl
        · refine ⟨(k + 1, r', P', ag'), rfl, ⟨by dsimp only; omega, m7.trans (Ext.mod e10c), ho7.ext e10c, hJ7, hn7, hn7', fun h i hi => ?_⟩, by dsimp only; omega⟩
          dsimp only at hi h ⊢
          by_cases e : i = k
          · have h1 : at_ same (edges.getD k default).a = (X : Int) := hX
            have h2 : at_ same (edges.getD k default).b = (Y : Int) := hY
            rw [e, h1, h2, Int.toNat_natCast, Int.toNat_natCast]
            rcases Bool.or_eq_true _ _ ▸ c55 with q | q
            · exact .inl (of_decide_eq_true q)
            · exact .inr (of_decide_eq_true q)
          · exact hag7 h i (by omega)
        · rw [Bool.or_eq_false_iff, decide_eq_false_iff_not, decide_eq_false_iff_not] at c55
          have hne : X ≠ Y := fun e => c55.1 (by rw [e])
          have hpos : posP same edges X Y := ⟨hne, by omega⟩
          have hlo : min ((mkL r' same.length).getD X default) ((mkL r' same.length).getD Y default) = ((min (r' X) (r' Y) : Nat) : Int) := by rw [hgX, hgY]; omega
          have hhi : max ((mkL r' same.length).getD X default) ((mkL r' same.length).getD Y default) = ((max (r' X) (r' Y) : Nat) : Int) := by rw [hgX, hgY]; omega
          have E12 := e10c.trans (e11q.trans e12q)
          have ho12 := ho7.ext E12
          refine V.loop [0, 1, 5, 7, 10, 11, 12] (fun j : Nat => [.slice ea edges.length ec, .slice sa same.length cs, .slice a5 same.length c5, .int .i64 (k : Nat), .int .i64 (min ((mkL r' same.length).getD X default) ((mkL r' same.length).getD Y default)), .int .i64 (max ((mkL r' same.length).getD X default) ((mkL r' same.length).getD Y default)), .int .i64 (j : Nat)])
            (fun j w' => j ≤ same.length ∧ Vc.Mod (aBlk a5) w12q w' ∧ OwnT encI 1 3 w.heap.size w' a5 c5 (mkL (fun i => if i < j then joinR r' X Y i else r' i) same.length)) (fun j => same.length - j) 0 rfl ⟨Nat.zero_le _, Mod.refl _ _, by rw [mkL_congr (s := r') fun i _ => by rw [if_neg (Nat.not_lt_zero _)]]; exact ho12⟩ ?_
          rintro ρ j w8 ⟨hj, m8, ho8⟩
          have hl8 := mkL_len (fun i => if i < j then joinR r' X Y i else r' i) same.length
          have hg8 : j < same.length → (mkL (fun i => if i < j then joinR r' X Y i else r' i) same.length).getD j default = ((r' j : Nat) : Int) := fun h => by rw [mkL_get h, if_neg (Nat.lt_irrefl _)]
          refine V.seq (V.seq (V.region (VL.op (R.mvI rfl) (VL.op (R.mvS rfl) (VL.op (R.lenS Try.runUnderlying23 rfl) (VL.op (R.lss rfl rfl) (VL.nil (V.condP rfl (fun c77 => V.skip (V.seq (V.block (V.seq (V.region (VL.op (R.mvS rfl) (VL.op (R.mvI rfl) (VL.op (R.ixS Try.runUnderlying23 Try.sizeOf3 rfl rfl (by omega) (by omega) ((ho8.sl).some (i := j) (by omega))) (VL.op (R.ld1 Try.isAgg3 rfl (((((ho8.sl).ext (Mod.refl Vc.nob w8)).row (i := j) (by omega)).cell (i := 0) rfl))) (VL.op (R.mvI rfl) (VL.op (R.eql rfl rfl) (VL.nil (V.condP rfl (fun c85 => V.region (VL.op (R.mvS rfl) (VL.op (R.mvI rfl) (VL.op (R.mvI rfl) (VL.op (R.ixS Try.runUnderlying23 Try.sizeOf3 rfl rfl (by omega) (by omega) ((ho8.sl).some (i := j) (by omega))) (VL.ownSt eltI (v := .int _ _) Try.sizeOf3 (ho8) j 0 (min ((mkL r' same.length).getD X default) ((mkL r' same.length).getD Y default)) rfl rfl (by omega) rfl rfl rfl rfl rfl fun w9 ho9 m9 hs9 => VL.nil (V.region (VL.op (R.mvI rfl) (VL.op (R.add rfl rfl (by omega) (by omega)) (VL.op (R.asI rfl) (VL.nil (?_)))))))))))) (fun c85 => V.skip (V.region (VL.op (R.mvI rfl) (VL.op (R.add rfl rfl (by omega) (by omega)) (VL.op (R.asI rfl) (VL.nil (?_)))))))))))))))))))) (fun c77 => V.exit (V.region (VL.op (R.asB rfl) (VL.nil (V.region (VL.op (R.mvI rfl) (VL.op (R.add rfl rfl (by omega) (by omega)) (VL.op (R.asI rfl) (VL.nil (?_))))))))))))))))))
          · have hjr : r' j = max (r' X) (r' Y) := by
              have := hg8 (by omega)
              have c85 : (mkL (fun i => if i < j then joinR r' X Y i else r' i) same.length).getD j default = max ((mkL r' same.length).getD X default) ((mkL r' same.length).getD Y default) := c85
              rw [this, hhi] at c85
              omega
            refine ⟨j + 1, rfl, ⟨by omega, m8.trans m9, ?_⟩, by omega⟩
            rw [hlo, mkL_set] at ho9
            rw [mkL_congr (s := fun i => if i = j then min (r' X) (r' Y) else if i < j then joinR r' X Y i else r' i) fun i hi => ?_]
            · exact ho9
            · by_cases e : i = j
              · rw [if_pos e, if_pos (by omega), e]; unfold joinR; rw [if_pos hjr]
              · rw [if_neg e]
                by_cases h : i < j
                · rw [if_pos h, if_pos (by omega)]
                · rw [if_neg h, if_neg (by omega)]
          · have hjr : r' j ≠ max (r' X) (r' Y) := fun h => by
              have := hg8 (by omega)
              have c85 : ¬ (mkL (fun i => if i < j then joinR r' X Y i else r' i) same.length).getD j default = max ((mkL r' same.length).getD X default) ((mkL r' same.length).getD Y default) := c85
              rw [this, hhi] at c85
              exact c85 (by rw [h])
            refine ⟨j + 1, rfl, ⟨by omega, m8, ?_⟩, by omega⟩
            rw [mkL_congr (s := fun i => if i < j then joinR r' X Y i else r' i) fun i hi => ?_]
            · exact ho8
            · by_cases e : i = j
              · rw [e, if_pos (Nat.lt_succ_self _), if_neg (Nat.lt_irrefl _)]; unfold joinR; rw [if_neg hjr]
              · by_cases h : i < j
                · rw [if_pos h, if_pos (by omega)]
                · rw [if_neg h, if_neg (by omega)]
          · have hjl : j = same.length := by omega
            subst hjl
            have hlt := nK_join hJ7.is hXl hYl c55.1
            refine ⟨(k + 1, joinR r' X Y, P' ++ [(X, Y)], true), rfl, ⟨by dsimp only; omega, (m7.trans (Ext.mod E12)).trans m8, ?_, hJ7.step hv hXl hYl hpos, by dsimp only; omega, fun _ => by dsimp only; omega, fun h => by cases h⟩, by dsimp only; omega⟩
            dsimp only
            rw [mkL_congr (r := joinR r' X Y) (s := fun i => if i < same.length then joinR r' X Y i else r' i) fun i hi => by rw [if_pos hi]]
            exact ho8
      · have hkl : k = edges.length := by omega
        subst hkl
        refine ⟨(r', P', ag'), rfl, ⟨m7, ho7, hJ7, fun h e he => ?_⟩, ?_⟩
        · obtain ⟨i, hi, rfl⟩ := List.getElem_of_mem he
          rw [← gdE hi]; exact hag7 h i hi
        · dsimp only
          cases ag' with
          | false => rw [if_neg (by decide), if_pos rfl]; omega
          | true => rw [if_pos rfl]; have := hn7' rfl; omega
    · contradiction
end Go.Proofs.Ytglaigeellpikaa

/- Cluster: the reference's groups, Components, Classes. -/
namespace Go.Proofs.Ytglaigeellpikaa
open Go.Vc

theorem getD_push (z : List Sl) (s : Sl) (i : Nat) : (z ++ [s]).getD i default = if i = z.length then s else z.getD i default := by
  rcases Nat.lt_trichotomy i z.length with h | h | h
  · rw [if_neg (by omega)]; simp [List.getD, List.getElem?_append_left h]
  · rw [if_pos h, h]; simp [List.getD]
  · rw [if_neg (by omega)]
    simp [List.getD, List.getElem?_eq_none (show z.length ≤ i by omega), List.getElem?_eq_none (show (z ++ [s]).length ≤ i by simp; omega)]
theorem GLs.push {B : Nat} {w w' : World} {a a' : Option Addr} {c c' : Nat} {z : List Sl} {s : Sl} (h : GLs B w a c z) (hs : OwnT encI 1 3 B w s.a s.cap s.l) (h1 : Sep a s.a) (h2 : ∀ i, Sep (z.getD i default).a s.a) (ho : OwnT encSlL 1 23 B w' a' c' (z ++ [s])) (m : Vc.Mod (aBlk a) w w') (hf : ∀ k, aBlk a' k → aBlk a k ∨ w.heap.size ≤ k) : GLs B w' a' c' (z ++ [s]) := by
  refine ⟨ho, fun i => ?_, fun i => ?_, fun i j hij => ?_⟩
  · rw [getD_push]
    by_cases e : i = z.length
    · rw [if_pos e]; exact hs.mod m fun k q1 q2 => h1 k q2 q1
    · rw [if_neg e]; exact (h.each i).mod m fun k q1 q2 => h.out i k q2 q1
  · rw [getD_push]
    by_cases e : i = z.length
    · rw [if_pos e]; exact h1.grown hf hs.lt
    · rw [if_neg e]; exact (h.out i).grown hf (h.each i).lt
  · rw [getD_push, getD_push]
    by_cases e : i = z.length
    · rw [if_pos e, if_neg (by omega)]; exact (h2 j).symm
    · rw [if_neg e]
      by_cases e2 : j = z.length
      · rw [if_pos e2]; exact h2 i
      · rw [if_neg e2]; exact h.sep i j hij
theorem memsK_low {r : Nat → Nat} {n i : Nat} (hle : ∀ k, k < n → r k ≤ k) (hi : i ≤ n) : memsK r i i = [] := List.eq_nil_iff_forall_not_mem.2 fun x hx => by
  obtain ⟨k, hk, hr, _⟩ := memsK_mem.1 hx
  have := hle k (by omega)
  omega
set_option maxRecDepth 100000 in
set_option maxHeartbeats 8000000 in
theorem groups_spec (a : Option Addr) (ca n : Nat) (r : Nat → Nat) (w : World) (hn : n ≤ 1000) (hle : ∀ i, i < n → r i ≤ i) (hS : IntSl w a (mkL r n)) :
    RetsX Try.prog 46 #[.slice a n ca] w (fun z : List Sl × Option Addr × Nat => .slice z.2.1 z.1.length z.2.2) (fun z w' => vals z.1 = grpsK r n ∧ GLs w.heap.size w' z.2.1 z.2.2 z.1) := by
  refine enter (args := [_]) Try.func46 rfl Try.ntmps46 (by kernel_rfl) rfl ?_
  have hml := mkL_len r n
  refine V.seq (V.region (VL.op (R.asS rfl) (VL.nil (V.seq (V.region (VL.op (R.asS rfl) (VL.nil (V.seq (V.seq (V.region (VL.op (R.asI rfl) (VL.nil (V.block (?_))))))))))))))
  refine V.loop [0, 3, 4] (fun x : Nat × List Sl × Option Addr × Nat => [.slice a n ca, .slice x.2.2.1 x.2.1.length x.2.2.2, .int .i64 (x.1 : Nat)])
    (fun x w' => x.1 ≤ n ∧ Ext w w' ∧ GLs w.heap.size w' x.2.2.1 x.2.2.2 x.2.1 ∧ vals x.2.1 = (hdsK r x.1).map (memsK r n)) (fun x => n - x.1) (0, [], none, 0) rfl ⟨Nat.zero_le _, Mod.refl _ _, GLs.nil _ _, rfl⟩ ?_
  rintro ρ ⟨i, z, a3, c3⟩ w1 ⟨hi, e1, hG, hz⟩
  dsimp only at hi e1 hG hz ⊢
  have hS1 := hS.ext e1
  have hzl : z.length ≤ 1000 := by
    have h1 : (vals z).length = z.length := List.length_map _
    rw [hz, List.length_map] at h1
    have := hdsK_len r i; omega
  refine V.seq (V.seq (V.region (VL.op (R.mvI rfl) (VL.op (R.mvS rfl) (VL.op (R.lenS Try.runUnderlying23 rfl) (VL.op (R.lss rfl rfl) (VL.nil (V.condP rfl (fun c10 => V.skip (V.seq (V.block (V.seq (V.seq (V.region (VL.op (R.mvS rfl) (VL.op (R.mvI rfl) (VL.op (R.ixS Try.runUnderlying23 Try.sizeOf3 rfl rfl (by omega) (by omega) ((hS1).some (i := i) (by omega))) (VL.op (R.ld1 Try.isAgg3 rfl (((((hS1).ext (Mod.refl Vc.nob w1)).row (i := i) (by omega)).cell (i := 0) rfl))) (VL.op (R.mvI rfl) (VL.op (R.neq rfl rfl) (VL.nil (V.condP rfl (fun c18 => V.exit (V.region (VL.op (R.mvI rfl) (VL.op (R.add rfl rfl (by omega) (by omega)) (VL.op (R.asI rfl) (VL.nil (?_))))))) (fun c18 => V.skip (V.seq (?_))))))))))))))))) (fun c10 => V.exit (V.seq (?_)))))))))))
  · have hil : i < n := by omega
    refine ⟨(i + 1, z, a3, c3), rfl, ⟨by dsimp only; omega, e1, hG, ?_⟩, by dsimp only; omega⟩
    dsimp only
    rw [mkL_get hil] at c18
    rw [hdsK_succ, if_neg (by omega), List.append_nil]; exact hz
  · have hil : i < n := by omega
    rw [mkL_get hil] at c18
    have hri : r i = i := by omega
    refine V.region (VL.op (R.asS rfl) (VL.nil (V.cut [0, 3, 4, 5] (fun x : Option Addr × Nat => [.slice a n ca, .slice a3 z.length c3, .int .i64 (i : Nat), .slice x.1 (memsK r n i).length x.2]) (fun x w' => Ext w1 w' ∧ OwnT encI 1 3 w1.heap.size w' x.1 x.2 (memsK r n i)) (V.seq (V.region (VL.op (R.mvI rfl) (VL.op (R.asI rfl) (VL.nil (V.block (?_))))))) (fun rgB2 xB2 wBB2 hBB2 => ?_))))
    · refine V.loop [0, 3, 4, 5, 6] (fun x : Nat × Option Addr × Nat => [.slice a n ca, .slice a3 z.length c3, .int .i64 (i : Nat), .slice x.2.1 (memsK r x.1 i).length x.2.2, .int .i64 (x.1 : Nat)])
        (fun x w' => i ≤ x.1 ∧ x.1 ≤ n ∧ Ext w1 w' ∧ OwnT encI 1 3 w1.heap.size w' x.2.1 x.2.2 (memsK r x.1 i)) (fun x => n - x.1) (i, none, 0) (by rw [memsK_low hle (by omega)]; rfl) ⟨Nat.le_refl _, by dsimp only; omega, Mod.refl _ _, by rw [memsK_low hle (by omega)]; exact OwnT.nil _ _ _ _ _⟩ ?_
      rintro ρ ⟨k, a5, c5⟩ w2 ⟨hk0, hk, e2, ho⟩
      dsimp only at hk0 hk e2 ho ⊢
      have hS2 := hS1.ext e2
      have hgl := memsK_len r k i
      refine V.seq (V.seq (V.region (VL.op (R.mvI rfl) (VL.op (R.mvS rfl) (VL.op (R.lenS Try.runUnderlying23 rfl) (VL.op (R.lss rfl rfl) (VL.nil (V.condP rfl (fun c23 => V.skip (V.seq (V.block (V.seq (V.region (VL.op (R.mvS rfl) (VL.op (R.mvI rfl) (VL.op (R.ixS Try.runUnderlying23 Try.sizeOf3 rfl rfl (by omega) (by omega) ((hS1).some (i := k) (by omega))) (VL.op (R.ld1 Try.isAgg3 rfl (((((hS1).ext e2).row (i := k) (by omega)).cell (i := 0) rfl))) (VL.op (R.mvI rfl) (VL.op (R.eql rfl rfl) (VL.nil (V.condP rfl (fun c31 => V.region (VL.op (R.mvS rfl) (VL.op (R.mvI rfl) (VL.append1 el23 Try.runUnderlying23 Try.sizeOf3 Try.zeroValue3 rfl (((k : Nat) : Int)) rfl rfl rfl ho rfl rfl rfl (by omega) (by unfold maxLen; omega) e2.size fun a9 c9 w9 vt9 ho9 m9 hf9 => VL.op (R.asS rfl) (VL.nil (V.region (VL.op (R.mvI rfl) (VL.op (R.add rfl rfl (by omega) (by omega)) (VL.op (R.asI rfl) (VL.nil (?_))))))))))) (fun c31 => V.skip (V.region (VL.op (R.mvI rfl) (VL.op (R.add rfl rfl (by omega) (by omega)) (VL.op (R.asI rfl) (VL.nil (?_)))))))))))))))))))) (fun c23 => V.exit (?_))))))))))
      · have hkn : k < n := by omega
        rw [mkL_get hkn] at c31
        have hs : memsK r (k + 1) i = memsK r k i ++ [((k : Nat) : Int)] := by rw [memsK_succ, if_pos (by omega)]
        refine ⟨(k + 1, a9, c9), by dsimp only; rw [hs, List.length_append]; rfl, ⟨by dsimp only; omega, by dsimp only; omega, e2.ownA m9 fun q hq => ho.ge q hq, by dsimp only; rw [hs]; exact ho9⟩, by dsimp only; omega⟩
      · have hkn : k < n := by omega
        rw [mkL_get hkn] at c31
        have hs : memsK r (k + 1) i = memsK r k i := by rw [memsK_succ, if_neg (by omega), List.append_nil]
        exact ⟨(k + 1, a5, c5), by dsimp only; rw [hs]; rfl, ⟨by dsimp only; omega, by dsimp only; omega, e2, by dsimp only; rw [hs]; exact ho⟩, by dsimp only; omega⟩
      · have hkn : k = n := by omega
        subst hkn
        exact ⟨(a5, c5), rfl, e2, ho⟩
    · obtain ⟨e2, ho⟩ := hBB2
      have hG2 := hG.ext e2
      have z1 := e1.size
      have hgl := memsK_len r n i
      refine V.region (VL.op (R.mvS rfl) (VL.op (R.mvS rfl) (VL.append1 el34 Try.runUnderlying34 Try.sizeOf23 Try.zeroValue23 rfl ((Sl.mk xB2.1 xB2.2 (memsK r n i))) rfl rfl rfl hG2.own rfl rfl rfl (by omega) (by unfold maxLen; omega) (Nat.le_trans e1.size e2.size) fun a9 c9 w9 vt9 ho9 m9 hf9 => VL.op (R.asS rfl) (VL.nil (V.region (VL.op (R.mvI rfl) (VL.op (R.add rfl rfl (by omega) (by omega)) (VL.op (R.asI rfl) (VL.nil (?_))))))))))
      have hsep1 : Sep a3 xB2.1 := fun q q1 q2 => by have := hG.own.lt q q1; have := ho.ge q q2; omega
      have hsep2 : ∀ j, Sep (z.getD j default).a xB2.1 := fun j q q1 q2 => by have := (hG.each j).lt q q1; have := ho.ge q q2; omega
      refine ⟨(i + 1, z ++ [⟨xB2.1, xB2.2, memsK r n i⟩], a9, c9), by dsimp only; rw [List.length_append]; rfl, ⟨by dsimp only; omega, (e1.trans e2).ownA m9 fun q hq => hG.own.ge q hq, hG2.push (ho.weaken z1) hsep1 hsep2 ho9 m9 hf9, ?_⟩, by dsimp only; omega⟩
      dsimp only
      rw [hdsK_succ, if_pos hri, List.map_append, ← hz]
      unfold vals
      rw [List.map_append]; rfl
  · have hil : i = n := by omega
    subst hil
    refine V.region (VL.op (R.mvS rfl) (VL.op (R.asS rfl) (VL.nil (V.ret (fret1 (v := .slice _ _ _) rfl rfl rfl (⟨(z, a3, c3), rfl, ⟨hz, hG⟩, e1⟩))))))
theorem rcomps_spec (a sa : Option Addr) (c cs : Nat) (edges : List Ed) (same : List Int) (w : World) (hm : edges.length ≤ 1000) (hms : same.length ≤ 1000) (hsx : sa = none → cs = 0) (hS : EdSl w a edges) (hI : IntSl w sa same) :
    RetsX Try.prog 21 #[.slice a edges.length c, .slice sa same.length cs] w (fun z : List Sl × Option Addr × Nat => .slice z.2.1 z.1.length z.2.2) (fun z w' => vals z.1 = compsF same edges ∧ GLs w.heap.size w' z.2.1 z.2.2 z.1) := by
  refine enter (args := [_, _]) Try.func21 rfl Try.ntmps21 (by kernel_rfl) rfl ?_
  refine V.seq (V.region (VL.op (R.asS rfl) (VL.nil (V.seq (V.seq (V.region (VL.op (R.mvS rfl) (VL.callP Try.call36 rfl (rValid_spec sa cs same _ (by omega) (hI.ext (Mod.refl _ _))) fun w1_1 e1_1 => VL.op (R.not rfl) (VL.op (R.mvB rfl) (VL.or rfl rfl (fun g1_3 => VL.op (R.mvS rfl) (VL.gT rfl rfl (VL.op (R.lenS Try.runUnderlying23 rfl) (VL.gT rfl rfl (VL.op (R.mvS rfl) (VL.gT rfl rfl (VL.callP Try.call37 rfl (rvalid_spec _ a c edges _ (by omega) (hS.ext e1_1)) fun w1_7 e1_7 => VL.gT rfl rfl (VL.op (R.not rfl) (VL.op (R.pickFB rfl rfl) (VL.nil (V.cond rfl (fun c14 => V.seq (V.region (VL.op (R.asS rfl) (VL.nil (V.ret (fret1 (v := .slice _ _ _) rfl rfl rfl (?_))))))) (fun c14 => V.skip (V.seq (?_)))))))))))))) (fun g1_3 => VL.gF rfl rfl (VL.gF rfl rfl (VL.gF rfl rfl (VL.gF rfl rfl (VL.op (R.pickTB rfl rfl) (VL.nil (V.condT rfl (V.seq (V.region (VL.op (R.asS rfl) (VL.nil (V.ret (fret1 (v := .slice _ _ _) rfl rfl rfl (?_))))))))))))))))))))))))
  · have : compsF same edges = [] := by unfold compsF; rw [if_neg (fun h => by rw [h.2] at c14; cases c14)]
    exact ⟨([], none, 0), rfl, ⟨this.symm, GLs.nil _ _⟩, e1_1.trans e1_7⟩
  · have v1 : validB same = true := by simpa using g1_3
    have v2 : linkB (same.length : Int) edges = true := by simpa using c14
    have k := okG (show okB same edges [] = true by unfold okB; rw [v1, v2]; rfl)
    have hci := cmpR_is k.v k.ok
    have E1 := e1_1.trans e1_7
    refine V.region (VL.op (R.mvS rfl) (VL.op (R.mvS rfl) (VL.callX Try.call39 rfl (marks_spec a sa c cs edges same [] _ k hm hms hsx (hS.ext E1) (hI.ext E1)) fun x w3 hx e3 => VL.callX Try.call46 rfl (groups_spec x.1 x.2 same.length (rG same edges) _ hms hci.le hx.sl) fun z w4 hz e4 => VL.op (R.asS rfl) (VL.nil (V.ret (fret1 (v := .slice _ _ _) rfl rfl rfl (?_)))))))
    have z1 := E1.size
    have z3 := e3.size
    refine ⟨z, rfl, ⟨?_, hz.2.weaken (by omega)⟩, E1.trans (e3.trans e4)⟩
    rw [hz.1]; unfold compsF; rw [if_pos ⟨v1, v2⟩]; rfl
  · have : compsF same edges = [] := by unfold compsF; rw [if_neg (fun h => by rw [h.1] at g1_3; cases g1_3)]
    exact ⟨([], none, 0), rfl, ⟨this.symm, GLs.nil _ _⟩, e1_1⟩
end Go.Proofs.Ytglaigeellpikaa

/- Cluster: Classes; ClusterLeast. -/
namespace Go.Proofs.Ytglaigeellpikaa
open Go.Vc

end Go.Proofs.Ytglaigeellpikaa

/- Cluster: the clustering costs no more than an allowed one. -/
namespace Go.Proofs.Ytglaigeellpikaa
open Go.Vc

end Go.Proofs.Ytglaigeellpikaa
