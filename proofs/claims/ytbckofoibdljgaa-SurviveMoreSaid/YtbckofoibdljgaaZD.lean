/- slices.SortFunc: the reversal and the partitions. -/
import Derived.Test.YtbckofoibdljgaaZC
namespace Go.Proofs.Ytbckofoibdljgaa
namespace SrtC
open Go.Vc Go.Sort
variable {α : Type} [Inhabited α]
section
variable {enc : α → List Value} {a : Option Addr} {w0 : World} {g : Nat} {cb : List Value} {cf : α → α → Int}

set_option maxHeartbeats 1000000 in
theorem reverse_spec (hC : CmpOk enc a w0 g cb cf) (cap n : Nat) (A B : Nat) (d : Array α) (w : World) (hs : Srt enc 8 w0 a d w) (hn : d.size = n) (hb : n ≤ 1152921504606846976) (hAB : A < B) (hB : B ≤ n) :
    RetsK Try.prog 49 #[.slice a n cap, .int .i64 A, .int .i64 B, .func (.func g) #[] cb.toArray] w (.tuple #[]) (Srt enc 8 w0 a (reverseRange d A B)) := by
  have elt := hC.elt
  refine enter (args := [_, _, _, _]) Try.func49 rfl Try.ntmps49 (by kernel_rfl) rfl ?_
  refine V.seq (V.region (VL.op (R.mvI rfl) (VL.op (R.asI rfl) (VL.nil (V.seq (V.region (VL.op (R.mvI rfl) (VL.op (R.subE (z := ((B - 1 : Nat) : Int)) rfl rfl (by omega) (by omega) (by omega)) (VL.op (R.asI rfl) (VL.nil (V.block (?_))))))))))))
  refine V.loop [0, 8, 9] (fun x : Nat × Nat × Array α => [.slice a n cap, .int .i64 x.1, .int .i64 x.2.1])
    (fun x w' => x.2.1 < n ∧ x.2.2.size = n ∧ reverseLoop x.1 x.2.1 x.2.2 = reverseRange d A B ∧ Srt enc 8 w0 a x.2.2 w') (fun x => x.2.1 - x.1) (A, B - 1, d) rfl ⟨by simp only; omega, hn, rfl, hs⟩ ?_
  rintro ρ ⟨i, j, d1⟩ w1 ⟨h1, h2, h3, hs1⟩
  dsimp only at h1 h2 h3 hs1 ⊢
  refine V.seq (V.seq (V.region (VL.op (R.mvI rfl) (VL.op (R.mvI rfl) (VL.op (R.lss rfl rfl) (VL.nil (V.condP rfl (fun c15 => V.skip (V.block (V.seq (V.regionW mixed 14 13 (by kernel_rfl) rfl (fun w' => Ext _ w') (fun w' => Srt enc 8 w0 a (d1.setIfInBounds (i) d1[j]!) w') (Ext.drawn _) (VW.op (fun wq eq => R.mvS rfl) (VW.op (fun wq eq => R.mvI rfl) (VW.op (fun wq eq => R.mvS rfl) (VW.op (fun wq eq => R.mvI rfl) (VW.op (fun wq eq => R.mvS rfl) (VW.op (fun wq eq => R.mvI rfl) (VW.op (fun wq eq => R.ixS Try.runUnderlying41 Try.sizeOf44 rfl rfl (by omega) (by omega) (hs1.ad)) (VW.op0 (fun wq eq => R.ldA Try.isAgg44 Try.sizeOf44 rfl rfl (((hs1.ext eq).row elt (i := j) (by omega) (by omega))) (elt.len _)) (VW.op (fun wq eq => R.mvS rfl) (VW.op (fun wq eq => R.mvI rfl) (VW.op (fun wq eq => R.ixS Try.runUnderlying41 Try.sizeOf44 rfl rfl (by omega) (by omega) (hs1.ad)) (VW.op0 (fun wq eq => R.ldA Try.isAgg44 Try.sizeOf44 rfl rfl (((hs1.ext eq).row elt (i := i) (by omega) (by omega))) (elt.len _)) (VW.op (fun wq eq => R.ixS Try.runUnderlying41 Try.sizeOf44 rfl rfl (by omega) (by omega) hs1.ad) (VW.wr0 (fun wq eq => R.storeSt elt Try.sizeOf44 (hs1.ext eq) rfl (i := i) (by omega) (by omega) rfl) (VW.nil fun w3 hs3 => VL.op (R.ixS Try.runUnderlying41 Try.sizeOf44 rfl rfl (by omega) (by omega) hs1.ad) (VL.storeSt elt Try.sizeOf44 hs3 rfl (i := j) (by omega) (by rw [Array.size_setIfInBounds]; exact (by omega)) rfl fun w4 hs4 => VL.nil (V.seq (V.region (VL.op (R.mvI rfl) (VL.op (R.add rfl rfl (by omega) (by omega)) (VL.op (R.asI rfl) (VL.nil (V.region (VL.op (R.mvI rfl) (VL.op (R.subE (z := ((j - 1 : Nat) : Int)) rfl rfl (by omega) (by omega) (by omega)) (VL.op (R.asI rfl) (VL.nil (⟨(i + 1, j - 1, swp d1 i j), rfl, ⟨by dsimp only; omega, ?_, ?_, hs4⟩, by dsimp only; omega⟩)))))))))))))))))))))))))))))))) (fun c15 => V.exit (fend0 rfl (⟨rfl, (hs1.ext (Mod.refl _ _)).to ?_⟩))))))))))
  · rw [sz_swp]; exact h2
  · rw [← h3, reverseLoop.eq_def i j, if_pos (by omega)]
  · rw [← h3, reverseLoop, if_neg (by omega)]

theorem up_step (p : α → Bool) (d : Array α) (j i : Nat) (h : (decide (i ≤ j) && p d[i]!) = true) : scanUp p d j i = scanUp p d j (i + 1) := by rw [scanUp, if_pos h]
theorem up_stop (p : α → Bool) (d : Array α) (j i : Nat) (h : (decide (i ≤ j) && p d[i]!) = false) : scanUp p d j i = i := by rw [scanUp, if_neg (by rw [h]; decide)]
theorem down_step (p : α → Bool) (d : Array α) (i j : Nat) (h0 : 1 ≤ i) (h : (decide (i ≤ j) && p d[j]!) = true) : scanDown p d i j = scanDown p d i (j - 1) := by
  cases j with
  | zero => simp at h; omega
  | succ j =>
    have h' : (decide (i ≤ j + 1) && p d[j + 1]!) = true := h
    rw [scanDown, if_pos h']; rfl
theorem down_stop (p : α → Bool) (d : Array α) (i j : Nat) (h : (decide (i ≤ j) && p d[j]!) = false) : scanDown p d i j = j := by
  cases j with
  | zero => rfl
  | succ j =>
    have h' : (decide (i ≤ j + 1) && p d[j + 1]!) = false := h
    rw [scanDown, if_neg (by rw [h']; decide)]
theorem le_and {A j : Nat} {b : Bool} (h : (decide (A ≤ j) && b) = true) : A ≤ j := by simp at h; exact h.1

set_option maxHeartbeats 1000000 in
theorem partEq_spec (hC : CmpOk enc a w0 g cb cf) (cap n : Nat) (A B : Nat) (pv : Nat) (d : Array α) (w : World) (hs : Srt enc 8 w0 a d w) (hn : d.size = n) (hb : n ≤ 1152921504606846976) (hAB : A < B) (hB : B ≤ n) (hp1 : A ≤ pv) (hp2 : pv < B) :
    RetsK Try.prog 51 #[.slice a n cap, .int .i64 A, .int .i64 B, .int .i64 pv, .func (.func g) #[] cb.toArray] w (.int .i64 (partitionEqual (ltf cf) d A B pv).1) (Srt enc 8 w0 a (partitionEqual (ltf cf) d A B pv).2) := by
  have elt := hC.elt
  refine enter (args := [_, _, _, _, _]) Try.func51 rfl Try.ntmps51 (by kernel_rfl) rfl ?_
  refine V.seq (V.region (VL.op (R.asI rfl) (VL.nil (V.seq (V.regionW mixed 14 13 (by kernel_rfl) rfl (fun w' => Ext _ w') (fun w' => Srt enc 8 w0 a (d.setIfInBounds (A) d[pv]!) w') (Ext.drawn _) (VW.op (fun wq eq => R.mvS rfl) (VW.op (fun wq eq => R.mvI rfl) (VW.op (fun wq eq => R.mvS rfl) (VW.op (fun wq eq => R.mvI rfl) (VW.op (fun wq eq => R.mvS rfl) (VW.op (fun wq eq => R.mvI rfl) (VW.op (fun wq eq => R.ixS Try.runUnderlying41 Try.sizeOf44 rfl rfl (by omega) (by omega) (hs.ad)) (VW.op0 (fun wq eq => R.ldA Try.isAgg44 Try.sizeOf44 rfl rfl (((hs.ext eq).row elt (i := pv) (by omega) (by omega))) (elt.len _)) (VW.op (fun wq eq => R.mvS rfl) (VW.op (fun wq eq => R.mvI rfl) (VW.op (fun wq eq => R.ixS Try.runUnderlying41 Try.sizeOf44 rfl rfl (by omega) (by omega) (hs.ad)) (VW.op0 (fun wq eq => R.ldA Try.isAgg44 Try.sizeOf44 rfl rfl (((hs.ext eq).row elt (i := A) (by omega) (by omega))) (elt.len _)) (VW.op (fun wq eq => R.ixS Try.runUnderlying41 Try.sizeOf44 rfl rfl (by omega) (by omega) hs.ad) (VW.wr0 (fun wq eq => R.storeSt elt Try.sizeOf44 (hs.ext eq) rfl (i := A) (by omega) (by omega) rfl) (VW.nil fun w3 hs3 => VL.op (R.ixS Try.runUnderlying41 Try.sizeOf44 rfl rfl (by omega) (by omega) hs.ad) (VL.storeSt elt Try.sizeOf44 hs3 rfl (i := pv) (by omega) (by rw [Array.size_setIfInBounds]; exact (by omega)) rfl fun w4 hs4 => VL.nil (V.seq (V.region (VL.op (R.mvI rfl) (VL.op (R.add rfl rfl (by omega) (by omega)) (VL.op (R.mvI rfl) (VL.op (R.subE (z := ((B - 1 : Nat) : Int)) rfl rfl (by omega) (by omega) (by omega)) (VL.op (R.asI rfl) (VL.op (R.asI rfl) (VL.nil (V.seq (V.block (?_)))))))))))))))))))))))))))))))))
  refine V.loop [0, 1, 4, 11, 12] (fun x : Nat × Nat × Array α => [.slice a n cap, .int .i64 A, .func (.func g) #[] cb.toArray, .int .i64 x.1, .int .i64 x.2.1])
    (fun x w' => A + 1 ≤ x.1 ∧ x.1 ≤ n ∧ x.2.1 < n ∧ x.2.2.size = n ∧ partEqLoop (ltf cf) A x.1 x.2.1 x.2.2 = partitionEqual (ltf cf) d A B pv ∧ Srt enc 8 w0 a x.2.2 w') (fun x => x.2.1 + 1 - x.1) (A + 1, B - 1, swp d A pv) rfl ⟨by simp, by simp only; omega, by simp only; omega, by simp only [sz_swp]; exact hn, rfl, hs4⟩ ?_
  rintro ρ ⟨i, j, d1⟩ w1 ⟨h1, h1n, h2, h3, h4, hs1⟩
  dsimp only at h1 h1n h2 h3 h4 hs1 ⊢
  obtain ⟨i2, hi2⟩ : ∃ i2, i2 = scanUp (fun x => !ltf cf d1[A]! x) d1 j i := ⟨_, rfl⟩
  obtain ⟨j2, hj2⟩ : ∃ j2, j2 = scanDown (fun x => ltf cf d1[A]! x) d1 i2 j := ⟨_, rfl⟩
  have q1 := scanUp_spec (fun x => !ltf cf d1[A]! x) d1 j _ i rfl
  have q2 := scanDown_spec (fun x => ltf cf d1[A]! x) d1 i2 j
  rw [← hi2] at q1
  rw [← hj2] at q2
  have q3 : j2 ≤ j := q2.1
  have q4 : i ≤ i2 := q1.1
  have q5 : i2 ≤ j + 1 ∨ i2 = i := by
    by_cases h : i ≤ j + 1
    · exact .inl (q1.2.1 h)
    · right; rw [hi2, up_stop]; simp; omega
  refine V.block (V.cut [0, 1, 4, 11, 12] (fun _ : Unit => [.slice a n cap, .int .i64 A, .func (.func g) #[] cb.toArray, .int .i64 i2, .int .i64 j]) (fun _ w' => (Srt enc 8 w0 a d1) w') (V.block (?_)) (fun rgB2 _ wBB2 hBB2 => V.cut [0, 1, 4, 11, 12] (fun _ : Unit => [.slice a n cap, .int .i64 A, .func (.func g) #[] cb.toArray, .int .i64 i2, .int .i64 j2]) (fun _ w' => (Srt enc 8 w0 a d1) w') (V.block (?_)) (fun rgB4 _ wBB4 hBB4 => V.seq (V.seq (V.region (VL.op (R.mvI rfl) (VL.op (R.mvI rfl) (VL.op (R.gtr rfl rfl) (VL.nil (V.condP rfl (fun c70 => V.exit (V.seq (V.region (VL.op (R.mvI rfl) (VL.op (R.asI rfl) (VL.nil (V.ret (fret1 (v := .int _ _) rfl rfl rfl (?_))))))))) (fun c70 => V.skip (V.seq (V.regionW mixed 14 13 (by kernel_rfl) rfl (fun w' => Ext _ w') (fun w' => Srt enc 8 w0 a (d1.setIfInBounds (i2) d1[j2]!) w') (Ext.drawn _) (VW.op (fun wq eq => R.mvS rfl) (VW.op (fun wq eq => R.mvI rfl) (VW.op (fun wq eq => R.mvS rfl) (VW.op (fun wq eq => R.mvI rfl) (VW.op (fun wq eq => R.mvS rfl) (VW.op (fun wq eq => R.mvI rfl) (VW.op (fun wq eq => R.ixS Try.runUnderlying41 Try.sizeOf44 rfl rfl (by omega) (by omega) (hBB4.ad)) (VW.op0 (fun wq eq => R.ldA Try.isAgg44 Try.sizeOf44 rfl rfl (((hBB4.ext eq).row elt (i := j2) (by omega) (by omega))) (elt.len _)) (VW.op (fun wq eq => R.mvS rfl) (VW.op (fun wq eq => R.mvI rfl) (VW.op (fun wq eq => R.ixS Try.runUnderlying41 Try.sizeOf44 rfl rfl (by omega) (by omega) (hBB4.ad)) (VW.op0 (fun wq eq => R.ldA Try.isAgg44 Try.sizeOf44 rfl rfl (((hBB4.ext eq).row elt (i := i2) (by omega) (by omega))) (elt.len _)) (VW.op (fun wq eq => R.ixS Try.runUnderlying41 Try.sizeOf44 rfl rfl (by omega) (by omega) hBB4.ad) (VW.wr0 (fun wq eq => R.storeSt elt Try.sizeOf44 (hBB4.ext eq) rfl (i := i2) (by omega) (by omega) rfl) (VW.nil fun w3 hs3 => VL.op (R.ixS Try.runUnderlying41 Try.sizeOf44 rfl rfl (by omega) (by omega) hBB4.ad) (VL.storeSt elt Try.sizeOf44 hs3 rfl (i := j2) (by omega) (by rw [Array.size_setIfInBounds]; exact (by omega)) rfl fun w4 hs4 => VL.nil (V.seq (V.region (VL.op (R.mvI rfl) (VL.op (R.add rfl rfl (by omega) (by omega)) (VL.op (R.asI rfl) (VL.nil (V.region (VL.op (R.mvI rfl) (VL.op (R.subE (z := ((j2 - 1 : Nat) : Int)) rfl rfl (by omega) (by omega) (by omega)) (VL.op (R.asI rfl) (VL.nil (⟨(i2 + 1, j2 - 1, swp d1 i2 j2), rfl, ⟨by dsimp only; omega, by dsimp only; omega, by dsimp only; omega, by dsimp only; rw [sz_swp]; exact h3, ?_, hs4⟩, by dsimp only; omega⟩)))))))))))))))))))))))))))))))))))))))))
  · refine V.loop [0, 1, 4, 11, 12] (fun x : Nat => [.slice a n cap, .int .i64 A, .func (.func g) #[] cb.toArray, .int .i64 x, .int .i64 j])
      (fun x w' => i ≤ x ∧ x ≤ i2 ∧ scanUp (fun x => !ltf cf d1[A]! x) d1 j x = i2 ∧ Srt enc 8 w0 a d1 w') (fun x => i2 - x) (i) rfl ⟨Nat.le_refl _, q4, hi2.symm, hs1⟩ ?_
    rintro ρ2 x w2 ⟨g1, g1b, g2, hs2⟩
    refine V.seq (V.seq (V.regionQCut mixed 17 (by kernel_rfl) rfl (fun w' => Ext _ w') (Ext.drawn _) [31, 32, 33, 34, 35, 36, 37, 38, 39, 40, 41, 42, 43, 44, 45, 46, 47] 47 (.bool (decide (x ≤ j) && (fun x => !ltf cf d1[A]! x) d1[x]!)) rfl (VQ.op (fun wq eq => R.mvI rfl) (VQ.op (fun wq eq => R.mvI rfl) (VQ.op (fun wq eq => R.leq rfl rfl) (VQ.op (fun wq eq => R.mvB rfl) (VQ.andP rfl rfl (fun g3_3 => VQ.op (fun wq eq => R.mvF rfl) (VQ.gT rfl rfl (VQ.op (fun wq eq => R.mvS rfl) (VQ.gT rfl rfl (VQ.op (fun wq eq => R.mvI rfl) (VQ.gT rfl rfl (VQ.op (fun wq eq => R.ixS Try.runUnderlying41 Try.sizeOf44 rfl rfl (by omega) (by omega) (hs2.ad)) (VQ.gT rfl rfl (VQ.op (fun wq eq => R.ldA Try.isAgg44 Try.sizeOf44 rfl rfl (((hs2.ext eq).row elt (i := A) (by omega) (by omega))) (elt.len _)) (VQ.gT rfl rfl (VQ.op (fun wq eq => R.mvS rfl) (VQ.gT rfl rfl (VQ.op (fun wq eq => R.mvI rfl) (VQ.gT rfl rfl (VQ.op (fun wq eq => R.ixS Try.runUnderlying41 Try.sizeOf44 rfl rfl (by omega) (by omega) (hs2.ad)) (VQ.gT rfl rfl (VQ.op (fun wq eq => R.ldA Try.isAgg44 Try.sizeOf44 rfl rfl (((hs2.ext eq).row elt (i := x) (by omega) (by omega))) (elt.len _)) (VQ.gT rfl rfl (VQ.callCP (fun _ _ h k => Mod.trans h k) rfl (hC.fn) rfl (fun wq eq => hC.spec wq (hs2.ext eq).m _ _) (VQ.gT rfl rfl (VQ.op (fun wq eq => R.lss rfl rfl) (VQ.gT rfl rfl (VQ.op (fun wq eq => R.notD rfl) (VQ.op (fun wq eq => R.pickTB rfl rfl) (VQ.nil (cutB rfl ?_)))))))))))))))))))))))))) (fun g3_3 => VQ.gF rfl rfl (VQ.gF rfl rfl (VQ.gF rfl rfl (VQ.gF rfl rfl (VQ.gF rfl rfl (VQ.gF rfl rfl (VQ.gF rfl rfl (VQ.gF rfl rfl (VQ.gF rfl rfl (VQ.gF rfl rfl (VQ.gF rfl rfl (VQ.op (fun wq eq => R.pickFB rfl rfl) (VQ.nil (cutB rfl ?_))))))))))))))))))) (fun rg3 w3c e3c => V.cond rfl (fun c47 => V.skip (V.block (V.region (VL.op (R.mvI rfl) (VL.op (R.add rfl rfl (by omega) (by omega)) (VL.op (R.asI rfl) (VL.nil (⟨x + 1, rfl, ⟨by omega, ?_, ?_, hs2.ext e3c⟩, ?_⟩)))))))) (fun c47 => V.exit (⟨(), ?_, ?_⟩)))))
    · have : x ≤ j := by omega
      simp [ltf, this] <;> (rw [Bool.eq_iff_iff]; simp)
    · have : ¬ x ≤ j := by omega
      simp [this]
    · have h := (scanUp_spec (fun x => !ltf cf d1[A]! x) d1 j _ (x + 1) rfl).1
      rw [← up_step _ _ _ _ c47, g2] at h
      exact h
    · rw [← up_step _ _ _ _ c47]; exact g2
    · have h := (scanUp_spec (fun x => !ltf cf d1[A]! x) d1 j _ (x + 1) rfl).1
      rw [← up_step _ _ _ _ c47, g2] at h
      omega
    · have : i2 = x := by rw [← g2, up_stop _ _ _ _ c47]
      rw [this]; rfl
    · exact hs2.ext e3c
  · refine V.loop [0, 1, 4, 11, 12] (fun y : Nat => [.slice a n cap, .int .i64 A, .func (.func g) #[] cb.toArray, .int .i64 i2, .int .i64 y])
      (fun y w' => y ≤ j ∧ scanDown (fun x => ltf cf d1[A]! x) d1 i2 y = j2 ∧ Srt enc 8 w0 a d1 w') (fun y => y) (j) rfl ⟨Nat.le_refl _, hj2.symm, hBB2⟩ ?_
    rintro ρ2 y w2 ⟨g1, g2, hs2⟩
    refine V.seq (V.seq (V.regionQCut mixed 16 (by kernel_rfl) rfl (fun w' => Ext _ w') (Ext.drawn _) [50, 51, 52, 53, 54, 55, 56, 57, 58, 59, 60, 61, 62, 63, 64, 65] 65 (.bool (decide (i2 ≤ y) && (fun x => ltf cf d1[A]! x) d1[y]!)) rfl (VQ.op (fun wq eq => R.mvI rfl) (VQ.op (fun wq eq => R.mvI rfl) (VQ.op (fun wq eq => R.leq rfl rfl) (VQ.op (fun wq eq => R.mvB rfl) (VQ.andP rfl rfl (fun g5_3 => VQ.op (fun wq eq => R.mvF rfl) (VQ.gT rfl rfl (VQ.op (fun wq eq => R.mvS rfl) (VQ.gT rfl rfl (VQ.op (fun wq eq => R.mvI rfl) (VQ.gT rfl rfl (VQ.op (fun wq eq => R.ixS Try.runUnderlying41 Try.sizeOf44 rfl rfl (by omega) (by omega) (hs2.ad)) (VQ.gT rfl rfl (VQ.op (fun wq eq => R.ldA Try.isAgg44 Try.sizeOf44 rfl rfl (((hs2.ext eq).row elt (i := A) (by omega) (by omega))) (elt.len _)) (VQ.gT rfl rfl (VQ.op (fun wq eq => R.mvS rfl) (VQ.gT rfl rfl (VQ.op (fun wq eq => R.mvI rfl) (VQ.gT rfl rfl (VQ.op (fun wq eq => R.ixS Try.runUnderlying41 Try.sizeOf44 rfl rfl (by omega) (by omega) (hs2.ad)) (VQ.gT rfl rfl (VQ.op (fun wq eq => R.ldA Try.isAgg44 Try.sizeOf44 rfl rfl (((hs2.ext eq).row elt (i := y) (by omega) (by omega))) (elt.len _)) (VQ.gT rfl rfl (VQ.callCP (fun _ _ h k => Mod.trans h k) rfl (hC.fn) rfl (fun wq eq => hC.spec wq (hs2.ext eq).m _ _) (VQ.gT rfl rfl (VQ.op (fun wq eq => R.lss rfl rfl) (VQ.op (fun wq eq => R.pickTB rfl rfl) (VQ.nil (cutB rfl ?_)))))))))))))))))))))))) (fun g5_3 => VQ.gF rfl rfl (VQ.gF rfl rfl (VQ.gF rfl rfl (VQ.gF rfl rfl (VQ.gF rfl rfl (VQ.gF rfl rfl (VQ.gF rfl rfl (VQ.gF rfl rfl (VQ.gF rfl rfl (VQ.gF rfl rfl (VQ.op (fun wq eq => R.pickFB rfl rfl) (VQ.nil (cutB rfl ?_)))))))))))))))))) (fun rg5 w5c e5c => V.cond rfl (fun c65 => V.skip (V.block (V.region (VL.op (R.mvI rfl) (VL.op (R.subE (z := ((y - 1 : Nat) : Int)) rfl rfl (by have := le_and c65; omega) (by have := le_and c65; omega) (by have := le_and c65; omega)) (VL.op (R.asI rfl) (VL.nil (⟨y - 1, rfl, ⟨by omega, ?_, hs2.ext e5c⟩, by have := le_and c65; omega⟩)))))))) (fun c65 => V.exit (⟨(), ?_, ?_⟩)))))
    · have : i2 ≤ y := by omega
      simp [ltf, this] <;> (rw [Bool.eq_iff_iff]; simp)
    · have : ¬ i2 ≤ y := by omega
      simp [this]
    · rw [← down_step _ _ _ _ (by omega) c65]; exact g2
    · have : j2 = y := by rw [← g2, down_stop _ _ _ _ c65]
      rw [this]; rfl
    · exact hs2.ext e5c
  · have e : partitionEqual (ltf cf) d A B pv = (i2, d1) := by rw [← h4, partEqLoop_eq, ← hi2, ← hj2, if_pos (by omega)]
    rw [e]; exact ⟨rfl, hBB4⟩
  · dsimp only
    rw [← h4, partEqLoop_eq (ltf cf) A i j, ← hi2, ← hj2, if_neg (by omega)]

set_option maxHeartbeats 2000000 in
theorem part_spec (hC : CmpOk enc a w0 g cb cf) (cap n : Nat) (A B : Nat) (pv : Nat) (d : Array α) (w : World) (hs : Srt enc 8 w0 a d w) (hn : d.size = n) (hb : n ≤ 1152921504606846976) (hAB : A < B) (hB : B ≤ n) (hp1 : A ≤ pv) (hp2 : pv < B) :
    RetsK Try.prog 52 #[.slice a n cap, .int .i64 A, .int .i64 B, .int .i64 pv, .func (.func g) #[] cb.toArray] w (.tuple #[.int .i64 (partition (ltf cf) d A B pv).1, .bool (partition (ltf cf) d A B pv).2.1]) (Srt enc 8 w0 a (partition (ltf cf) d A B pv).2.2) := by
  have elt := hC.elt
  obtain ⟨d1, hd1⟩ : ∃ d1, d1 = swp d A pv := ⟨_, rfl⟩
  obtain ⟨i2, hi2⟩ : ∃ i2, i2 = scanUp (fun x => ltf cf x d1[A]!) d1 (B - 1) (A + 1) := ⟨_, rfl⟩
  obtain ⟨j2, hj2⟩ : ∃ j2, j2 = scanDown (fun x => !ltf cf x d1[A]!) d1 i2 (B - 1) := ⟨_, rfl⟩
  have hz : d1.size = n := by rw [hd1, sz_swp]; exact hn
  have q1 := scanUp_spec (fun x => ltf cf x d1[A]!) d1 (B - 1) _ (A + 1) rfl
  have q2 := scanDown_spec (fun x => !ltf cf x d1[A]!) d1 i2 (B - 1)
  rw [← hi2] at q1
  rw [← hj2] at q2
  have q3 : j2 ≤ B - 1 := q2.1
  have q4 : A + 1 ≤ i2 := q1.1
  have q5 : i2 ≤ B - 1 + 1 := q1.2.1 (by omega)
  refine enter (args := [_, _, _, _, _]) Try.func52 rfl Try.ntmps52 (by kernel_rfl) rfl ?_
  refine V.seq (V.region (VL.op (R.asI rfl) (VL.op (R.asB rfl) (VL.nil (V.seq (V.regionW mixed 14 13 (by kernel_rfl) rfl (fun w' => Ext _ w') (fun w' => Srt enc 8 w0 a (d.setIfInBounds (A) d[pv]!) w') (Ext.drawn _) (VW.op (fun wq eq => R.mvS rfl) (VW.op (fun wq eq => R.mvI rfl) (VW.op (fun wq eq => R.mvS rfl) (VW.op (fun wq eq => R.mvI rfl) (VW.op (fun wq eq => R.mvS rfl) (VW.op (fun wq eq => R.mvI rfl) (VW.op (fun wq eq => R.ixS Try.runUnderlying41 Try.sizeOf44 rfl rfl (by omega) (by omega) (hs.ad)) (VW.op0 (fun wq eq => R.ldA Try.isAgg44 Try.sizeOf44 rfl rfl (((hs.ext eq).row elt (i := pv) (by omega) (by omega))) (elt.len _)) (VW.op (fun wq eq => R.mvS rfl) (VW.op (fun wq eq => R.mvI rfl) (VW.op (fun wq eq => R.ixS Try.runUnderlying41 Try.sizeOf44 rfl rfl (by omega) (by omega) (hs.ad)) (VW.op0 (fun wq eq => R.ldA Try.isAgg44 Try.sizeOf44 rfl rfl (((hs.ext eq).row elt (i := A) (by omega) (by omega))) (elt.len _)) (VW.op (fun wq eq => R.ixS Try.runUnderlying41 Try.sizeOf44 rfl rfl (by omega) (by omega) hs.ad) (VW.wr0 (fun wq eq => R.storeSt elt Try.sizeOf44 (hs.ext eq) rfl (i := A) (by omega) (by omega) rfl) (VW.nil fun w3 hs3 => VL.op (R.ixS Try.runUnderlying41 Try.sizeOf44 rfl rfl (by omega) (by omega) hs.ad) (VL.storeSt elt Try.sizeOf44 hs3 rfl (i := pv) (by omega) (by rw [Array.size_setIfInBounds]; exact (by omega)) rfl fun w4 hs4 => VL.nil (V.seq (V.region (VL.op (R.mvI rfl) (VL.op (R.add rfl rfl (by omega) (by omega)) (VL.op (R.mvI rfl) (VL.op (R.subE (z := ((B - 1 : Nat) : Int)) rfl rfl (by omega) (by omega) (by omega)) (VL.op (R.asI rfl) (VL.op (R.asI rfl) (VL.nil (V.cut [0, 1, 4, 12, 13] (fun _ : Unit => [.slice a n cap, .int .i64 A, .func (.func g) #[] cb.toArray, .int .i64 i2, .int .i64 (B - 1 : Nat)]) (fun _ w' => (Srt enc 8 w0 a d1) w') (V.block (?_)) (fun rgB0 _ wBB0 hBB0 => V.cut [0, 1, 4, 12, 13] (fun _ : Unit => [.slice a n cap, .int .i64 A, .func (.func g) #[] cb.toArray, .int .i64 i2, .int .i64 j2]) (fun _ w' => (Srt enc 8 w0 a d1) w') (V.block (?_)) (fun rgB2 _ wBB2 hBB2 => V.seq (V.seq (V.region (VL.op (R.mvI rfl) (VL.op (R.mvI rfl) (VL.op (R.gtr rfl rfl) (VL.nil (V.condP rfl (fun c71 => V.seq (V.regionW mixed 14 13 (by kernel_rfl) rfl (fun w' => Ext _ w') (fun w' => Srt enc 8 w0 a (d1.setIfInBounds (j2) d1[A]!) w') (Ext.drawn _) (VW.op (fun wq eq => R.mvS rfl) (VW.op (fun wq eq => R.mvI rfl) (VW.op (fun wq eq => R.mvS rfl) (VW.op (fun wq eq => R.mvI rfl) (VW.op (fun wq eq => R.mvS rfl) (VW.op (fun wq eq => R.mvI rfl) (VW.op (fun wq eq => R.ixS Try.runUnderlying41 Try.sizeOf44 rfl rfl (by omega) (by omega) (hBB2.ad)) (VW.op0 (fun wq eq => R.ldA Try.isAgg44 Try.sizeOf44 rfl rfl (((hBB2.ext eq).row elt (i := A) (by omega) (by omega))) (elt.len _)) (VW.op (fun wq eq => R.mvS rfl) (VW.op (fun wq eq => R.mvI rfl) (VW.op (fun wq eq => R.ixS Try.runUnderlying41 Try.sizeOf44 rfl rfl (by omega) (by omega) (hBB2.ad)) (VW.op0 (fun wq eq => R.ldA Try.isAgg44 Try.sizeOf44 rfl rfl (((hBB2.ext eq).row elt (i := j2) (by omega) (by omega))) (elt.len _)) (VW.op (fun wq eq => R.ixS Try.runUnderlying41 Try.sizeOf44 rfl rfl (by omega) (by omega) hBB2.ad) (VW.wr0 (fun wq eq => R.storeSt elt Try.sizeOf44 (hBB2.ext eq) rfl (i := j2) (by omega) (by omega) rfl) (VW.nil fun w5 hs5 => VL.op (R.ixS Try.runUnderlying41 Try.sizeOf44 rfl rfl (by omega) (by omega) hBB2.ad) (VL.storeSt elt Try.sizeOf44 hs5 rfl (i := A) (by omega) (by rw [Array.size_setIfInBounds]; exact (by omega)) rfl fun w6 hs6 => VL.nil (V.seq (V.region (VL.op (R.mvI rfl) (VL.op (R.asI rfl) (VL.op (R.asB rfl) (VL.nil (V.ret (fret2 (v := .int _ _) (x := .bool _) rfl rfl rfl rfl rfl (?_))))))))))))))))))))))))))) (fun c71 => V.skip (V.seq (V.regionW mixed 14 13 (by kernel_rfl) rfl (fun w' => Ext _ w') (fun w' => Srt enc 8 w0 a (d1.setIfInBounds (i2) d1[j2]!) w') (Ext.drawn _) (VW.op (fun wq eq => R.mvS rfl) (VW.op (fun wq eq => R.mvI rfl) (VW.op (fun wq eq => R.mvS rfl) (VW.op (fun wq eq => R.mvI rfl) (VW.op (fun wq eq => R.mvS rfl) (VW.op (fun wq eq => R.mvI rfl) (VW.op (fun wq eq => R.ixS Try.runUnderlying41 Try.sizeOf44 rfl rfl (by omega) (by omega) (hBB2.ad)) (VW.op0 (fun wq eq => R.ldA Try.isAgg44 Try.sizeOf44 rfl rfl (((hBB2.ext eq).row elt (i := j2) (by omega) (by omega))) (elt.len _)) (VW.op (fun wq eq => R.mvS rfl) (VW.op (fun wq eq => R.mvI rfl) (VW.op (fun wq eq => R.ixS Try.runUnderlying41 Try.sizeOf44 rfl rfl (by omega) (by omega) (hBB2.ad)) (VW.op0 (fun wq eq => R.ldA Try.isAgg44 Try.sizeOf44 rfl rfl (((hBB2.ext eq).row elt (i := i2) (by omega) (by omega))) (elt.len _)) (VW.op (fun wq eq => R.ixS Try.runUnderlying41 Try.sizeOf44 rfl rfl (by omega) (by omega) hBB2.ad) (VW.wr0 (fun wq eq => R.storeSt elt Try.sizeOf44 (hBB2.ext eq) rfl (i := i2) (by omega) (by omega) rfl) (VW.nil fun w7 hs7 => VL.op (R.ixS Try.runUnderlying41 Try.sizeOf44 rfl rfl (by omega) (by omega) hBB2.ad) (VL.storeSt elt Try.sizeOf44 hs7 rfl (i := j2) (by omega) (by rw [Array.size_setIfInBounds]; exact (by omega)) rfl fun w8 hs8 => VL.nil (V.seq (V.region (VL.op (R.mvI rfl) (VL.op (R.add rfl rfl (by omega) (by omega)) (VL.op (R.asI rfl) (VL.nil (V.seq (V.region (VL.op (R.mvI rfl) (VL.op (R.subE (z := ((j2 - 1 : Nat) : Int)) rfl rfl (by omega) (by omega) (by omega)) (VL.op (R.asI rfl) (VL.nil (V.cut [0, 1, 13] (fun j3 : Nat × Array α => [.slice a n cap, .int .i64 A, .int .i64 j3.1]) (fun j3 w' => partLoop (ltf cf) A (i2 + 1) (j2 - 1) (swp d1 i2 j2) = j3 ∧ j3.1 < n ∧ j3.2.size = n ∧ Srt enc 8 w0 a j3.2 w') (V.block (?_)) (fun rgB4 xB4 wBB4 hBB4 => V.seq (V.regionW mixed 14 13 (by kernel_rfl) rfl (fun w' => Ext _ w') (fun w' => Srt enc 8 w0 a (xB4.2.setIfInBounds (xB4.1) xB4.2[A]!) w') (Ext.drawn _) (VW.op (fun wq eq => R.mvS rfl) (VW.op (fun wq eq => R.mvI rfl) (VW.op (fun wq eq => R.mvS rfl) (VW.op (fun wq eq => R.mvI rfl) (VW.op (fun wq eq => R.mvS rfl) (VW.op (fun wq eq => R.mvI rfl) (VW.op (fun wq eq => R.ixS Try.runUnderlying41 Try.sizeOf44 rfl rfl (by have := hBB4.2.1 ; have := hBB4.2.2.1 ; omega) (by have := hBB4.2.1 ; have := hBB4.2.2.1 ; omega) (hBB4.2.2.2.ad)) (VW.op0 (fun wq eq => R.ldA Try.isAgg44 Try.sizeOf44 rfl rfl (((hBB4.2.2.2.ext eq).row elt (i := A) (by have := hBB4.2.1 ; have := hBB4.2.2.1 ; omega) (by have := hBB4.2.1 ; have := hBB4.2.2.1 ; omega))) (elt.len _)) (VW.op (fun wq eq => R.mvS rfl) (VW.op (fun wq eq => R.mvI rfl) (VW.op (fun wq eq => R.ixS Try.runUnderlying41 Try.sizeOf44 rfl rfl (by have := hBB4.2.1 ; have := hBB4.2.2.1 ; omega) (by have := hBB4.2.1 ; have := hBB4.2.2.1 ; omega) (hBB4.2.2.2.ad)) (VW.op0 (fun wq eq => R.ldA Try.isAgg44 Try.sizeOf44 rfl rfl (((hBB4.2.2.2.ext eq).row elt (i := xB4.1) (by have := hBB4.2.1 ; have := hBB4.2.2.1 ; omega) (by have := hBB4.2.1 ; have := hBB4.2.2.1 ; omega))) (elt.len _)) (VW.op (fun wq eq => R.ixS Try.runUnderlying41 Try.sizeOf44 rfl rfl (by have := hBB4.2.1 ; have := hBB4.2.2.1 ; omega) (by have := hBB4.2.1 ; have := hBB4.2.2.1 ; omega) hBB4.2.2.2.ad) (VW.wr0 (fun wq eq => R.storeSt elt Try.sizeOf44 (hBB4.2.2.2.ext eq) rfl (i := xB4.1) (by have := hBB4.2.1 ; have := hBB4.2.2.1 ; omega) (by have := hBB4.2.1 ; have := hBB4.2.2.1 ; omega) rfl) (VW.nil fun w9 hs9 => VL.op (R.ixS Try.runUnderlying41 Try.sizeOf44 rfl rfl (by have := hBB4.2.1 ; have := hBB4.2.2.1 ; omega) (by have := hBB4.2.1 ; have := hBB4.2.2.1 ; omega) hBB4.2.2.2.ad) (VL.storeSt elt Try.sizeOf44 hs9 rfl (i := A) (by have := hBB4.2.1 ; have := hBB4.2.2.1 ; omega) (by rw [Array.size_setIfInBounds]; exact (by have := hBB4.2.1 ; have := hBB4.2.2.1 ; omega)) rfl fun w10 hs10 => VL.nil (V.seq (V.region (VL.op (R.mvI rfl) (VL.op (R.asI rfl) (VL.op (R.asB rfl) (VL.nil (V.ret (fret2 (v := .int _ _) (x := .bool _) rfl rfl rfl rfl rfl (?_))))))))))))))))))))))))))))))))))))))))))))))))))))))))))))))))))))))))))))))))))))))))))))))))))))
  · refine V.loop [0, 1, 4, 12, 13] (fun x : Nat => [.slice a n cap, .int .i64 A, .func (.func g) #[] cb.toArray, .int .i64 x, .int .i64 (B - 1 : Nat)])
      (fun x w' => A + 1 ≤ x ∧ x ≤ i2 ∧ scanUp (fun x => ltf cf x d1[A]!) d1 (B - 1) x = i2 ∧ Srt enc 8 w0 a d1 w') (fun x => i2 - x) (A + 1) rfl ⟨Nat.le_refl _, q4, hi2.symm, (hs4.to hd1.symm)⟩ ?_
    rintro ρ2 x w2 ⟨g1, g1b, g2, hs2⟩
    refine V.seq (V.seq (V.regionQCut mixed 16 (by kernel_rfl) rfl (fun w' => Ext _ w') (Ext.drawn _) [32, 33, 34, 35, 36, 37, 38, 39, 40, 41, 42, 43, 44, 45, 46, 47] 47 (.bool (decide (x ≤ (B - 1)) && (fun x => ltf cf x d1[A]!) d1[x]!)) rfl (VQ.op (fun wq eq => R.mvI rfl) (VQ.op (fun wq eq => R.mvI rfl) (VQ.op (fun wq eq => R.leq rfl rfl) (VQ.op (fun wq eq => R.mvB rfl) (VQ.andP rfl rfl (fun g3_3 => VQ.op (fun wq eq => R.mvF rfl) (VQ.gT rfl rfl (VQ.op (fun wq eq => R.mvS rfl) (VQ.gT rfl rfl (VQ.op (fun wq eq => R.mvI rfl) (VQ.gT rfl rfl (VQ.op (fun wq eq => R.ixS Try.runUnderlying41 Try.sizeOf44 rfl rfl (by omega) (by omega) (hs2.ad)) (VQ.gT rfl rfl (VQ.op (fun wq eq => R.ldA Try.isAgg44 Try.sizeOf44 rfl rfl (((hs2.ext eq).row elt (i := x) (by omega) (by omega))) (elt.len _)) (VQ.gT rfl rfl (VQ.op (fun wq eq => R.mvS rfl) (VQ.gT rfl rfl (VQ.op (fun wq eq => R.mvI rfl) (VQ.gT rfl rfl (VQ.op (fun wq eq => R.ixS Try.runUnderlying41 Try.sizeOf44 rfl rfl (by omega) (by omega) (hs2.ad)) (VQ.gT rfl rfl (VQ.op (fun wq eq => R.ldA Try.isAgg44 Try.sizeOf44 rfl rfl (((hs2.ext eq).row elt (i := A) (by omega) (by omega))) (elt.len _)) (VQ.gT rfl rfl (VQ.callCP (fun _ _ h k => Mod.trans h k) rfl (hC.fn) rfl (fun wq eq => hC.spec wq (hs2.ext eq).m _ _) (VQ.gT rfl rfl (VQ.op (fun wq eq => R.lss rfl rfl) (VQ.op (fun wq eq => R.pickTB rfl rfl) (VQ.nil (cutB rfl ?_)))))))))))))))))))))))) (fun g3_3 => VQ.gF rfl rfl (VQ.gF rfl rfl (VQ.gF rfl rfl (VQ.gF rfl rfl (VQ.gF rfl rfl (VQ.gF rfl rfl (VQ.gF rfl rfl (VQ.gF rfl rfl (VQ.gF rfl rfl (VQ.gF rfl rfl (VQ.op (fun wq eq => R.pickFB rfl rfl) (VQ.nil (cutB rfl ?_)))))))))))))))))) (fun rg3 w3c e3c => V.cond rfl (fun c47 => V.skip (V.block (V.region (VL.op (R.mvI rfl) (VL.op (R.add rfl rfl (by omega) (by omega)) (VL.op (R.asI rfl) (VL.nil (⟨x + 1, rfl, ⟨by omega, ?_, ?_, hs2.ext e3c⟩, ?_⟩)))))))) (fun c47 => V.exit (⟨(), ?_, ?_⟩)))))
    · have : x ≤ (B - 1) := by omega
      simp [ltf, this] <;> (rw [Bool.eq_iff_iff]; simp)
    · have : ¬ x ≤ (B - 1) := by omega
      simp [this]
    · have h := (scanUp_spec (fun x => ltf cf x d1[A]!) d1 (B - 1) _ (x + 1) rfl).1
      rw [← up_step _ _ _ _ c47, g2] at h
      exact h
    · rw [← up_step _ _ _ _ c47]; exact g2
    · have h := (scanUp_spec (fun x => ltf cf x d1[A]!) d1 (B - 1) _ (x + 1) rfl).1
      rw [← up_step _ _ _ _ c47, g2] at h
      omega
    · have : i2 = x := by rw [← g2, up_stop _ _ _ _ c47]
      rw [this]; rfl
    · exact hs2.ext e3c
  · refine V.loop [0, 1, 4, 12, 13] (fun y : Nat => [.slice a n cap, .int .i64 A, .func (.func g) #[] cb.toArray, .int .i64 i2, .int .i64 y])
      (fun y w' => y ≤ (B - 1) ∧ scanDown (fun x => !ltf cf x d1[A]!) d1 i2 y = j2 ∧ Srt enc 8 w0 a d1 w') (fun y => y) ((B - 1)) rfl ⟨Nat.le_refl _, hj2.symm, hBB0⟩ ?_
    rintro ρ2 y w2 ⟨g1, g2, hs2⟩
    refine V.seq (V.seq (V.regionQCut mixed 17 (by kernel_rfl) rfl (fun w' => Ext _ w') (Ext.drawn _) [50, 51, 52, 53, 54, 55, 56, 57, 58, 59, 60, 61, 62, 63, 64, 65, 66] 66 (.bool (decide (i2 ≤ y) && (fun x => !ltf cf x d1[A]!) d1[y]!)) rfl (VQ.op (fun wq eq => R.mvI rfl) (VQ.op (fun wq eq => R.mvI rfl) (VQ.op (fun wq eq => R.leq rfl rfl) (VQ.op (fun wq eq => R.mvB rfl) (VQ.andP rfl rfl (fun g5_3 => VQ.op (fun wq eq => R.mvF rfl) (VQ.gT rfl rfl (VQ.op (fun wq eq => R.mvS rfl) (VQ.gT rfl rfl (VQ.op (fun wq eq => R.mvI rfl) (VQ.gT rfl rfl (VQ.op (fun wq eq => R.ixS Try.runUnderlying41 Try.sizeOf44 rfl rfl (by omega) (by omega) (hs2.ad)) (VQ.gT rfl rfl (VQ.op (fun wq eq => R.ldA Try.isAgg44 Try.sizeOf44 rfl rfl (((hs2.ext eq).row elt (i := y) (by omega) (by omega))) (elt.len _)) (VQ.gT rfl rfl (VQ.op (fun wq eq => R.mvS rfl) (VQ.gT rfl rfl (VQ.op (fun wq eq => R.mvI rfl) (VQ.gT rfl rfl (VQ.op (fun wq eq => R.ixS Try.runUnderlying41 Try.sizeOf44 rfl rfl (by omega) (by omega) (hs2.ad)) (VQ.gT rfl rfl (VQ.op (fun wq eq => R.ldA Try.isAgg44 Try.sizeOf44 rfl rfl (((hs2.ext eq).row elt (i := A) (by omega) (by omega))) (elt.len _)) (VQ.gT rfl rfl (VQ.callCP (fun _ _ h k => Mod.trans h k) rfl (hC.fn) rfl (fun wq eq => hC.spec wq (hs2.ext eq).m _ _) (VQ.gT rfl rfl (VQ.op (fun wq eq => R.lss rfl rfl) (VQ.gT rfl rfl (VQ.op (fun wq eq => R.notD rfl) (VQ.op (fun wq eq => R.pickTB rfl rfl) (VQ.nil (cutB rfl ?_)))))))))))))))))))))))))) (fun g5_3 => VQ.gF rfl rfl (VQ.gF rfl rfl (VQ.gF rfl rfl (VQ.gF rfl rfl (VQ.gF rfl rfl (VQ.gF rfl rfl (VQ.gF rfl rfl (VQ.gF rfl rfl (VQ.gF rfl rfl (VQ.gF rfl rfl (VQ.gF rfl rfl (VQ.op (fun wq eq => R.pickFB rfl rfl) (VQ.nil (cutB rfl ?_))))))))))))))))))) (fun rg5 w5c e5c => V.cond rfl (fun c66 => V.skip (V.block (V.region (VL.op (R.mvI rfl) (VL.op (R.subE (z := ((y - 1 : Nat) : Int)) rfl rfl (by have := le_and c66; omega) (by have := le_and c66; omega) (by have := le_and c66; omega)) (VL.op (R.asI rfl) (VL.nil (⟨y - 1, rfl, ⟨by omega, ?_, hs2.ext e5c⟩, by have := le_and c66; omega⟩)))))))) (fun c66 => V.exit (⟨(), ?_, ?_⟩)))))
    · have : i2 ≤ y := by omega
      simp [ltf, this] <;> (rw [Bool.eq_iff_iff]; simp)
    · have : ¬ i2 ≤ y := by omega
      simp [this]
    · rw [← down_step _ _ _ _ (by omega) c66]; exact g2
    · have : j2 = y := by rw [← g2, down_stop _ _ _ _ c66]
      rw [this]; rfl
    · exact hs2.ext e5c
  · have e : partition (ltf cf) d A B pv = (j2, true, swp d1 j2 A) := by
      unfold partition
      simp only [← hd1, ← hi2, ← hj2]
      rw [if_pos (by omega)]
    rw [e]; exact ⟨rfl, hs6⟩
  · refine V.loop [0, 1, 4, 12, 13] (fun x : Nat × Nat × Array α => [.slice a n cap, .int .i64 A, .func (.func g) #[] cb.toArray, .int .i64 x.1, .int .i64 x.2.1])
      (fun x w' => A + 1 ≤ x.1 ∧ x.1 ≤ n ∧ x.2.1 < n ∧ x.2.2.size = n ∧ partLoop (ltf cf) A x.1 x.2.1 x.2.2 = partLoop (ltf cf) A (i2 + 1) (j2 - 1) (swp d1 i2 j2) ∧ Srt enc 8 w0 a x.2.2 w') (fun x => x.2.1 + 1 - x.1) (i2 + 1, j2 - 1, swp d1 i2 j2) rfl ⟨by dsimp only; omega, by dsimp only; omega, by dsimp only; omega, by simp only [sz_swp]; exact hz, rfl, hs8⟩ ?_
    clear q1 q2
    rintro ρ ⟨i, j, d2⟩ w1 ⟨h1, h1n, h2, h3, h4, hs1⟩
    dsimp only at h1 h1n h2 h3 h4 hs1 ⊢
    obtain ⟨i3, hi3⟩ : ∃ i3, i3 = scanUp (fun x => ltf cf x d2[A]!) d2 j i := ⟨_, rfl⟩
    obtain ⟨j3, hj3⟩ : ∃ j3, j3 = scanDown (fun x => !ltf cf x d2[A]!) d2 i3 j := ⟨_, rfl⟩
    have q1 := scanUp_spec (fun x => ltf cf x d2[A]!) d2 j _ i rfl
    have q2 := scanDown_spec (fun x => !ltf cf x d2[A]!) d2 i3 j
    rw [← hi3] at q1
    rw [← hj3] at q2
    have r3 : j3 ≤ j := q2.1
    have r4 : i ≤ i3 := q1.1
    have r5 : i3 ≤ j + 1 ∨ i3 = i := by
      by_cases h : i ≤ j + 1
      · exact .inl (q1.2.1 h)
      · right; rw [hi3, up_stop]; simp; omega
    refine V.block (V.cut [0, 1, 4, 12, 13] (fun _ : Unit => [.slice a n cap, .int .i64 A, .func (.func g) #[] cb.toArray, .int .i64 i3, .int .i64 j]) (fun _ w' => (Srt enc 8 w0 a d2) w') (V.block (?_)) (fun rgB6 _ wBB6 hBB6 => V.cut [0, 1, 4, 12, 13] (fun _ : Unit => [.slice a n cap, .int .i64 A, .func (.func g) #[] cb.toArray, .int .i64 i3, .int .i64 j3]) (fun _ w' => (Srt enc 8 w0 a d2) w') (V.block (?_)) (fun rgB8 _ wBB8 hBB8 => V.seq (V.seq (V.region (VL.op (R.mvI rfl) (VL.op (R.mvI rfl) (VL.op (R.gtr rfl rfl) (VL.nil (V.condP rfl (fun c144 => V.exit (?_)) (fun c144 => V.skip (V.seq (V.regionW mixed 14 13 (by kernel_rfl) rfl (fun w' => Ext _ w') (fun w' => Srt enc 8 w0 a (d2.setIfInBounds (i3) d2[j3]!) w') (Ext.drawn _) (VW.op (fun wq eq => R.mvS rfl) (VW.op (fun wq eq => R.mvI rfl) (VW.op (fun wq eq => R.mvS rfl) (VW.op (fun wq eq => R.mvI rfl) (VW.op (fun wq eq => R.mvS rfl) (VW.op (fun wq eq => R.mvI rfl) (VW.op (fun wq eq => R.ixS Try.runUnderlying41 Try.sizeOf44 rfl rfl (by omega) (by omega) (hBB8.ad)) (VW.op0 (fun wq eq => R.ldA Try.isAgg44 Try.sizeOf44 rfl rfl (((hBB8.ext eq).row elt (i := j3) (by omega) (by omega))) (elt.len _)) (VW.op (fun wq eq => R.mvS rfl) (VW.op (fun wq eq => R.mvI rfl) (VW.op (fun wq eq => R.ixS Try.runUnderlying41 Try.sizeOf44 rfl rfl (by omega) (by omega) (hBB8.ad)) (VW.op0 (fun wq eq => R.ldA Try.isAgg44 Try.sizeOf44 rfl rfl (((hBB8.ext eq).row elt (i := i3) (by omega) (by omega))) (elt.len _)) (VW.op (fun wq eq => R.ixS Try.runUnderlying41 Try.sizeOf44 rfl rfl (by omega) (by omega) hBB8.ad) (VW.wr0 (fun wq eq => R.storeSt elt Try.sizeOf44 (hBB8.ext eq) rfl (i := i3) (by omega) (by omega) rfl) (VW.nil fun wa hsa => VL.op (R.ixS Try.runUnderlying41 Try.sizeOf44 rfl rfl (by omega) (by omega) hBB8.ad) (VL.storeSt elt Try.sizeOf44 hsa rfl (i := j3) (by omega) (by rw [Array.size_setIfInBounds]; exact (by omega)) rfl fun wb hsb => VL.nil (V.seq (V.region (VL.op (R.mvI rfl) (VL.op (R.add rfl rfl (by omega) (by omega)) (VL.op (R.asI rfl) (VL.nil (V.region (VL.op (R.mvI rfl) (VL.op (R.subE (z := ((j3 - 1 : Nat) : Int)) rfl rfl (by omega) (by omega) (by omega)) (VL.op (R.asI rfl) (VL.nil (⟨(i3 + 1, j3 - 1, swp d2 i3 j3), rfl, ⟨by dsimp only; omega, by dsimp only; omega, by dsimp only; omega, by dsimp only; rw [sz_swp]; exact h3, ?_, hsb⟩, by dsimp only; omega⟩)))))))))))))))))))))))))))))))))))))))))
    · refine V.loop [0, 1, 4, 12, 13] (fun x : Nat => [.slice a n cap, .int .i64 A, .func (.func g) #[] cb.toArray, .int .i64 x, .int .i64 j])
        (fun x w' => i ≤ x ∧ x ≤ i3 ∧ scanUp (fun x => ltf cf x d2[A]!) d2 j x = i3 ∧ Srt enc 8 w0 a d2 w') (fun x => i3 - x) (i) rfl ⟨Nat.le_refl _, r4, hi3.symm, hs1⟩ ?_
      rintro ρ2 x w2 ⟨g1, g1b, g2, hs2⟩
      refine V.seq (V.seq (V.regionQCut mixed 16 (by kernel_rfl) rfl (fun w' => Ext _ w') (Ext.drawn _) [105, 106, 107, 108, 109, 110, 111, 112, 113, 114, 115, 116, 117, 118, 119, 120] 120 (.bool (decide (x ≤ j) && (fun x => ltf cf x d2[A]!) d2[x]!)) rfl (VQ.op (fun wq eq => R.mvI rfl) (VQ.op (fun wq eq => R.mvI rfl) (VQ.op (fun wq eq => R.leq rfl rfl) (VQ.op (fun wq eq => R.mvB rfl) (VQ.andP rfl rfl (fun g13_3 => VQ.op (fun wq eq => R.mvF rfl) (VQ.gT rfl rfl (VQ.op (fun wq eq => R.mvS rfl) (VQ.gT rfl rfl (VQ.op (fun wq eq => R.mvI rfl) (VQ.gT rfl rfl (VQ.op (fun wq eq => R.ixS Try.runUnderlying41 Try.sizeOf44 rfl rfl (by omega) (by omega) (hs2.ad)) (VQ.gT rfl rfl (VQ.op (fun wq eq => R.ldA Try.isAgg44 Try.sizeOf44 rfl rfl (((hs2.ext eq).row elt (i := x) (by omega) (by omega))) (elt.len _)) (VQ.gT rfl rfl (VQ.op (fun wq eq => R.mvS rfl) (VQ.gT rfl rfl (VQ.op (fun wq eq => R.mvI rfl) (VQ.gT rfl rfl (VQ.op (fun wq eq => R.ixS Try.runUnderlying41 Try.sizeOf44 rfl rfl (by omega) (by omega) (hs2.ad)) (VQ.gT rfl rfl (VQ.op (fun wq eq => R.ldA Try.isAgg44 Try.sizeOf44 rfl rfl (((hs2.ext eq).row elt (i := A) (by omega) (by omega))) (elt.len _)) (VQ.gT rfl rfl (VQ.callCP (fun _ _ h k => Mod.trans h k) rfl (hC.fn) rfl (fun wq eq => hC.spec wq (hs2.ext eq).m _ _) (VQ.gT rfl rfl (VQ.op (fun wq eq => R.lss rfl rfl) (VQ.op (fun wq eq => R.pickTB rfl rfl) (VQ.nil (cutB rfl ?_)))))))))))))))))))))))) (fun g13_3 => VQ.gF rfl rfl (VQ.gF rfl rfl (VQ.gF rfl rfl (VQ.gF rfl rfl (VQ.gF rfl rfl (VQ.gF rfl rfl (VQ.gF rfl rfl (VQ.gF rfl rfl (VQ.gF rfl rfl (VQ.gF rfl rfl (VQ.op (fun wq eq => R.pickFB rfl rfl) (VQ.nil (cutB rfl ?_)))))))))))))))))) (fun rg13 w13c e13c => V.cond rfl (fun c120 => V.skip (V.block (V.region (VL.op (R.mvI rfl) (VL.op (R.add rfl rfl (by omega) (by omega)) (VL.op (R.asI rfl) (VL.nil (⟨x + 1, rfl, ⟨by omega, ?_, ?_, hs2.ext e13c⟩, ?_⟩)))))))) (fun c120 => V.exit (⟨(), ?_, ?_⟩)))))
      · have : x ≤ j := by omega
        simp [ltf, this] <;> (rw [Bool.eq_iff_iff]; simp)
      · have : ¬ x ≤ j := by omega
        simp [this]
      · have h := (scanUp_spec (fun x => ltf cf x d2[A]!) d2 j _ (x + 1) rfl).1
        rw [← up_step _ _ _ _ c120, g2] at h
        exact h
      · rw [← up_step _ _ _ _ c120]; exact g2
      · have h := (scanUp_spec (fun x => ltf cf x d2[A]!) d2 j _ (x + 1) rfl).1
        rw [← up_step _ _ _ _ c120, g2] at h
        omega
      · have : i3 = x := by rw [← g2, up_stop _ _ _ _ c120]
        rw [this]; rfl
      · exact hs2.ext e13c
    · refine V.loop [0, 1, 4, 12, 13] (fun y : Nat => [.slice a n cap, .int .i64 A, .func (.func g) #[] cb.toArray, .int .i64 i3, .int .i64 y])
        (fun y w' => y ≤ j ∧ scanDown (fun x => !ltf cf x d2[A]!) d2 i3 y = j3 ∧ Srt enc 8 w0 a d2 w') (fun y => y) (j) rfl ⟨Nat.le_refl _, hj3.symm, hBB6⟩ ?_
      rintro ρ2 y w2 ⟨g1, g2, hs2⟩
      refine V.seq (V.seq (V.regionQCut mixed 17 (by kernel_rfl) rfl (fun w' => Ext _ w') (Ext.drawn _) [123, 124, 125, 126, 127, 128, 129, 130, 131, 132, 133, 134, 135, 136, 137, 138, 139] 139 (.bool (decide (i3 ≤ y) && (fun x => !ltf cf x d2[A]!) d2[y]!)) rfl (VQ.op (fun wq eq => R.mvI rfl) (VQ.op (fun wq eq => R.mvI rfl) (VQ.op (fun wq eq => R.leq rfl rfl) (VQ.op (fun wq eq => R.mvB rfl) (VQ.andP rfl rfl (fun g15_3 => VQ.op (fun wq eq => R.mvF rfl) (VQ.gT rfl rfl (VQ.op (fun wq eq => R.mvS rfl) (VQ.gT rfl rfl (VQ.op (fun wq eq => R.mvI rfl) (VQ.gT rfl rfl (VQ.op (fun wq eq => R.ixS Try.runUnderlying41 Try.sizeOf44 rfl rfl (by omega) (by omega) (hs2.ad)) (VQ.gT rfl rfl (VQ.op (fun wq eq => R.ldA Try.isAgg44 Try.sizeOf44 rfl rfl (((hs2.ext eq).row elt (i := y) (by omega) (by omega))) (elt.len _)) (VQ.gT rfl rfl (VQ.op (fun wq eq => R.mvS rfl) (VQ.gT rfl rfl (VQ.op (fun wq eq => R.mvI rfl) (VQ.gT rfl rfl (VQ.op (fun wq eq => R.ixS Try.runUnderlying41 Try.sizeOf44 rfl rfl (by omega) (by omega) (hs2.ad)) (VQ.gT rfl rfl (VQ.op (fun wq eq => R.ldA Try.isAgg44 Try.sizeOf44 rfl rfl (((hs2.ext eq).row elt (i := A) (by omega) (by omega))) (elt.len _)) (VQ.gT rfl rfl (VQ.callCP (fun _ _ h k => Mod.trans h k) rfl (hC.fn) rfl (fun wq eq => hC.spec wq (hs2.ext eq).m _ _) (VQ.gT rfl rfl (VQ.op (fun wq eq => R.lss rfl rfl) (VQ.gT rfl rfl (VQ.op (fun wq eq => R.notD rfl) (VQ.op (fun wq eq => R.pickTB rfl rfl) (VQ.nil (cutB rfl ?_)))))))))))))))))))))))))) (fun g15_3 => VQ.gF rfl rfl (VQ.gF rfl rfl (VQ.gF rfl rfl (VQ.gF rfl rfl (VQ.gF rfl rfl (VQ.gF rfl rfl (VQ.gF rfl rfl (VQ.gF rfl rfl (VQ.gF rfl rfl (VQ.gF rfl rfl (VQ.gF rfl rfl (VQ.op (fun wq eq => R.pickFB rfl rfl) (VQ.nil (cutB rfl ?_))))))))))))))))))) (fun rg15 w15c e15c => V.cond rfl (fun c139 => V.skip (V.block (V.region (VL.op (R.mvI rfl) (VL.op (R.subE (z := ((y - 1 : Nat) : Int)) rfl rfl (by have := le_and c139; omega) (by have := le_and c139; omega) (by have := le_and c139; omega)) (VL.op (R.asI rfl) (VL.nil (⟨y - 1, rfl, ⟨by omega, ?_, hs2.ext e15c⟩, by have := le_and c139; omega⟩)))))))) (fun c139 => V.exit (⟨(), ?_, ?_⟩)))))
      · have : i3 ≤ y := by omega
        simp [ltf, this] <;> (rw [Bool.eq_iff_iff]; simp)
      · have : ¬ i3 ≤ y := by omega
        simp [this]
      · rw [← down_step _ _ _ _ (by omega) c139]; exact g2
      · have : j3 = y := by rw [← g2, down_stop _ _ _ _ c139]
        rw [this]; rfl
      · exact hs2.ext e15c
    · refine ⟨(j3, d2), rfl, ?_, by dsimp only; omega, h3, hBB8⟩
      rw [← h4, partLoop_eq, ← hi3, ← hj3, if_pos (by omega)]
    · dsimp only
      rw [← h4, partLoop_eq (ltf cf) A i j, ← hi3, ← hj3, if_neg (by omega)]
  · have e : partition (ltf cf) d A B pv = (xB4.1, false, swp xB4.2 xB4.1 A) := by
      unfold partition
      simp only [← hd1, ← hi2, ← hj2]
      rw [if_neg (by omega), hBB4.1]
    rw [e]; exact ⟨rfl, hs10⟩
end
end SrtC
end Go.Proofs.Ytbckofoibdljgaa
