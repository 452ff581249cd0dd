/- slices.SortFunc: the insertion sort. -/
import Derived.Test.YtbckofoibdljgaaS9
import Derived.Test.YtbckofoibdljgaaVcSort
namespace Go.Proofs.Ytbckofoibdljgaa
namespace SrtC
open Go.Vc Go.Sort

variable {α : Type} [Inhabited α]
/-- What is asked of the comparing function. -/
structure CmpOk (enc : α → List Value) (a : Option Addr) (w0 : World) (g : Nat) (cb : List Value) (cf : α → α → Int) : Prop where
  elt : Elt enc 8
  fn : IsFn Try.prog g
  spec : ∀ w, Mod (aBlk a) w0 w → ∀ x y, RetsP Try.prog g (([] : List Value) ++ [Value.agg (enc x).toArray, Value.agg (enc y).toArray] ++ cb).toArray w (.int .i64 (cf x y))
theorem lt_and {A j : Nat} {b : Bool} (h : (decide (A < j) && b) = true) : A < j := by simp at h; exact h.1
def ltf (cf : α → α → Int) (x y : α) : Bool := decide (cf x y < 0)
theorem sz_swp (d : Array α) (i j : Nat) : (swp d i j).size = d.size := by unfold swp; simp

section
variable {enc : α → List Value} {a : Option Addr} {w0 : World} {g : Nat} {cb : List Value} {cf : α → α → Int}

theorem insOuter_stop (lt : α → α → Bool) (A B i : Nat) (d : Array α) (h : ¬ i < B) : insOuter lt A B i d = d := by rw [insOuter, if_neg h]
theorem insOuter_step (lt : α → α → Bool) (A B i : Nat) (d : Array α) (h : i < B) : insOuter lt A B i d = insOuter lt A B (i + 1) (insInner lt A i d) := by rw [insOuter, if_pos h]
theorem insInner_size (lt : α → α → Bool) (A : Nat) : ∀ (j : Nat) (d : Array α), (insInner lt A j d).size = d.size
  | 0, d => rfl
  | j + 1, d => by
    rw [insInner]
    split
    · rw [insInner_size lt A j]; exact sz_swp _ _ _
    · rfl
theorem insInner_stop (lt : α → α → Bool) (A j : Nat) (d : Array α) (h : (decide (A < j) && lt d[j]! d[j - 1]!) = false) : insInner lt A j d = d := by
  cases j with
  | zero => rfl
  | succ j =>
    have h' : (decide (j + 1 > A) && lt d[j + 1]! d[j]!) = false := h
    rw [insInner, h']
    rfl
theorem insInner_step (lt : α → α → Bool) (A j : Nat) (d : Array α) (h : (decide (A < j) && lt d[j]! d[j - 1]!) = true) : insInner lt A j d = insInner lt A (j - 1) (swp d j (j - 1)) := by
  cases j with
  | zero => simp at h
  | succ j =>
    have h' : (decide (j + 1 > A) && lt d[j + 1]! d[j]!) = true := h
    rw [insInner, h']
    rfl

set_option maxHeartbeats 1000000 in
theorem ins_spec (hC : CmpOk enc a w0 g cb cf) (cap A B n : Nat) (d : Array α) (w : World) (hs : Srt enc 8 w0 a d w) (hn : d.size = n) (hb : n ≤ 4611686018427387904) (hAB : A ≤ B) (hB : B ≤ n) :
    RetsK Try.prog 45 #[.slice a n cap, .int .i64 A, .int .i64 B, .func (.func g) #[] cb.toArray] w (.tuple #[]) (Srt enc 8 w0 a (insertionSort (ltf cf) d A B)) := by
  have elt := hC.elt
  refine enter (args := [_, _, _, _]) Try.func45 rfl Try.ntmps45 (by kernel_rfl) rfl ?_
  refine V.seq (V.region (VL.op (R.mvI rfl) (VL.op (R.add rfl rfl (by omega) (by omega)) (VL.op (R.asI rfl) (VL.nil (V.block (?_)))))))
  refine V.loop [0, 1, 2, 3, 8] (fun x : Nat × Array α => [.slice a n cap, .int .i64 A, .int .i64 B, .func (.func g) #[] cb.toArray, .int .i64 x.1])
    (fun x w' => A + 1 ≤ x.1 ∧ x.1 ≤ B + 1 ∧ x.2.size = n ∧ insOuter (ltf cf) A B x.1 x.2 = insertionSort (ltf cf) d A B ∧ Srt enc 8 w0 a x.2 w') (fun x => B + 1 - x.1) (A + 1, d) rfl ⟨by simp, by simp; omega, hn, rfl, hs⟩ ?_
  rintro ρ ⟨i, d1⟩ w1 ⟨h1, h2, h3, h4, hs1⟩
  dsimp only at h1 h2 h3 h4 hs1 ⊢
  refine V.seq (V.seq (V.region (VL.op (R.mvI rfl) (VL.op (R.mvI rfl) (VL.op (R.lss rfl rfl) (VL.nil (V.condP rfl (fun c14 => V.skip (V.cut [0, 1, 2, 3, 8] (fun _ : Unit => [.slice a n cap, .int .i64 A, .int .i64 B, .func (.func g) #[] cb.toArray, .int .i64 i]) (fun _ w' => (Srt enc 8 w0 a (insInner (ltf cf) A i d1)) w') (V.block (V.seq (V.region (VL.op (R.mvI rfl) (VL.op (R.asI rfl) (VL.nil (V.block (?_)))))))) (fun rgB1 _ wBB1 hBB1 => V.region (VL.op (R.mvI rfl) (VL.op (R.add rfl rfl (by omega) (by omega)) (VL.op (R.asI rfl) (VL.nil (⟨(i + 1, insInner (ltf cf) A i d1), rfl, ⟨by omega, by omega, ?_, ?_, hBB1⟩, by omega⟩)))))))) (fun c14 => V.exit (fend0 rfl (⟨?_, ?_⟩))))))))))
  · refine V.loop [0, 1, 2, 3, 8, 9] (fun x : Nat × Array α => [.slice a n cap, .int .i64 A, .int .i64 B, .func (.func g) #[] cb.toArray, .int .i64 i, .int .i64 x.1])
      (fun x w' => A ≤ x.1 ∧ x.1 ≤ i ∧ x.2.size = n ∧ insInner (ltf cf) A x.1 x.2 = insInner (ltf cf) A i d1 ∧ Srt enc 8 w0 a x.2 w') (fun x => x.1) (i, d1) rfl ⟨by simp; omega, by simp, h3, rfl, hs1⟩ ?_
    rintro ρ2 ⟨j, d2⟩ w2 ⟨g1, g2, g3, g4, hs2⟩
    dsimp only at g1 g2 g3 g4 hs2 ⊢
    refine V.seq (V.seq (V.regionQCut mixed 17 (by kernel_rfl) rfl (fun w' => Ext _ w') (Ext.drawn _) [18, 19, 20, 21, 22, 23, 24, 25, 26, 27, 28, 29, 30, 31, 32, 33, 34] 34 (.bool (decide (A < j) && ltf cf d2[j]! d2[j - 1]!)) rfl (VQ.op (fun wq eq => R.mvI rfl) (VQ.op (fun wq eq => R.mvI rfl) (VQ.op (fun wq eq => R.gtr rfl rfl) (VQ.op (fun wq eq => R.mvB rfl) (VQ.andP rfl rfl (fun g4_3 => VQ.op (fun wq eq => R.mvF rfl) (VQ.gT rfl rfl (VQ.op (fun wq eq => R.mvS rfl) (VQ.gT rfl rfl (VQ.op (fun wq eq => R.mvI rfl) (VQ.gT rfl rfl (VQ.op (fun wq eq => R.ixS Try.runUnderlying41 Try.sizeOf44 rfl rfl (by omega) (by omega) (hs2.ad)) (VQ.gT rfl rfl (VQ.op (fun wq eq => R.ldA Try.isAgg44 Try.sizeOf44 rfl rfl (((hs2.ext eq).row elt (i := j) (by omega) (by omega))) (elt.len _)) (VQ.gT rfl rfl (VQ.op (fun wq eq => R.mvS rfl) (VQ.gT rfl rfl (VQ.op (fun wq eq => R.mvI rfl) (VQ.gT rfl rfl (VQ.op (fun wq eq => R.sub rfl rfl (by omega) (by omega)) (VQ.gT rfl rfl (VQ.op (fun wq eq => R.ixS Try.runUnderlying41 Try.sizeOf44 rfl rfl (by omega) (by omega) (hs2.ad)) (VQ.gT rfl rfl (VQ.op (fun wq eq => R.ldA Try.isAgg44 Try.sizeOf44 rfl rfl (((hs2.ext eq).row elt (i := j - 1) (by omega) (by omega))) (elt.len _)) (VQ.gT rfl rfl (VQ.callCP (fun _ _ h k => Mod.trans h k) rfl (hC.fn) rfl (fun wq eq => hC.spec wq (hs2.ext eq).m d2[j]! d2[j - 1]!) (VQ.gT rfl rfl (VQ.op (fun wq eq => R.lss rfl rfl) (VQ.op (fun wq eq => R.pickTB rfl rfl) (VQ.nil (cutB rfl ?_)))))))))))))))))))))))))) (fun g4_3 => VQ.gF rfl rfl (VQ.gF rfl rfl (VQ.gF rfl rfl (VQ.gF rfl rfl (VQ.gF rfl rfl (VQ.gF rfl rfl (VQ.gF rfl rfl (VQ.gF rfl rfl (VQ.gF rfl rfl (VQ.gF rfl rfl (VQ.gF rfl rfl (VQ.op (fun wq eq => R.pickFB rfl rfl) (VQ.nil (cutB rfl ?_))))))))))))))))))) (fun rg4 w4c e4c => V.cond rfl (fun c34 => V.skip (V.seq (V.block (V.regionW mixed 16 15 (by kernel_rfl) rfl (fun w' => Ext _ w') (fun w' => Srt enc 8 w0 a (d2.setIfInBounds j d2[j - 1]!) w') (Ext.drawn _) (VW.op (fun wq eq => R.mvS rfl) (VW.op (fun wq eq => R.mvI rfl) (VW.op (fun wq eq => R.mvS rfl) (VW.op (fun wq eq => R.mvI rfl) (VW.op (fun wq eq => R.sub rfl rfl (by omega) (by omega)) (VW.op (fun wq eq => R.mvS rfl) (VW.op (fun wq eq => R.mvI rfl) (VW.op (fun wq eq => R.sub rfl rfl (by omega) (by omega)) (VW.op (fun wq eq => R.ixS Try.runUnderlying41 Try.sizeOf44 rfl rfl (by have := lt_and c34; omega) (by have := lt_and c34; omega) (hs2.ad)) (VW.op0 (fun wq eq => R.ldA Try.isAgg44 Try.sizeOf44 rfl rfl (((hs2.ext (e4c.trans eq)).row elt (i := j - 1) (by have := lt_and c34; omega) (by have := lt_and c34; omega))) (elt.len _)) (VW.op (fun wq eq => R.mvS rfl) (VW.op (fun wq eq => R.mvI rfl) (VW.op (fun wq eq => R.ixS Try.runUnderlying41 Try.sizeOf44 rfl rfl (by omega) (by omega) (hs2.ad)) (VW.op0 (fun wq eq => R.ldA Try.isAgg44 Try.sizeOf44 rfl rfl (((hs2.ext (e4c.trans eq)).row elt (i := j) (by omega) (by omega))) (elt.len _)) (VW.op (fun wq eq => R.ixS Try.runUnderlying41 Try.sizeOf44 rfl rfl (by omega) (by omega) hs2.ad) (VW.wr0 (fun wq eq => R.storeSt elt Try.sizeOf44 (hs2.ext (e4c.trans eq)) rfl (i := j) (by omega) (by omega) rfl) (VW.nil fun w3 hs3 => VL.op (R.ixS Try.runUnderlying41 Try.sizeOf44 rfl rfl (by have := lt_and c34; omega) (by have := lt_and c34; omega) hs2.ad) (VL.storeSt elt Try.sizeOf44 hs3 rfl (i := j - 1) (by have := lt_and c34; omega) (by simp; omega) rfl fun w4 hs4 => VL.nil (V.region (VL.op (R.mvI rfl) (VL.op (R.sub rfl rfl (by omega) (by omega)) (VL.op (R.asI rfl) (VL.nil (⟨(j - 1, swp d2 j (j - 1)), ?_, ⟨(by have := lt_and c34; omega), (by have := lt_and c34; omega), ?_, ?_, hs4⟩, (by have := lt_and c34; omega)⟩)))))))))))))))))))))))))))) (fun c34 => V.exit (⟨(), rfl, ?_⟩)))))
    · have : A < j := by omega
      simp [ltf, this]
    · have : ¬ A < j := by omega
      simp [this]
    · have : ((j - 1 : Nat) : Int) = j - 1 := by have := lt_and c34; omega
      rw [this]; rfl
    · rw [sz_swp]; exact g3
    · rw [← insInner_step _ _ _ _ c34]; exact g4
    · rw [← g4, insInner_stop _ _ _ _ c34]; exact hs2.ext e4c
  · rw [insInner_size]; exact h3
  · rw [← insOuter_step _ _ _ _ _ (by omega)]; exact h4
  · rfl
  · rw [← h4, insOuter_stop _ _ _ _ _ (by omega)]; exact hs1
end
end SrtC
end Go.Proofs.Ytbckofoibdljgaa
