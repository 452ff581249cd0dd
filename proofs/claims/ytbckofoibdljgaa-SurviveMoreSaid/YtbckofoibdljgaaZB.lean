/- slices.SortFunc: the heap. -/
import Derived.Test.YtbckofoibdljgaaZA
namespace Go.Proofs.Ytbckofoibdljgaa
namespace SrtC
open Go.Vc Go.Sort
variable {α : Type} [Inhabited α]
section
variable {enc : α → List Value} {a : Option Addr} {w0 : World} {g : Nat} {cb : List Value} {cf : α → α → Int}

def chB (lt : α → α → Bool) (hi first r : Nat) (d : Array α) : Bool := decide (2 * r + 2 < hi) && lt d[first + (2 * r + 1)]! d[first + (2 * r + 1) + 1]!
def chF (lt : α → α → Bool) (hi first r : Nat) (d : Array α) : Nat := if chB lt hi first r d = true then 2 * r + 2 else 2 * r + 1
theorem chF_le (lt : α → α → Bool) (hi first r : Nat) (d : Array α) (h : 2 * r + 1 < hi) : chF lt hi first r d < hi ∧ r < chF lt hi first r d := by
  unfold chF chB
  split
  · rename_i h; simp at h; omega
  · omega
theorem sift_end (lt : α → α → Bool) (hi first r : Nat) (d : Array α) (h : hi ≤ 2 * r + 1) : siftDown lt hi first r d = d := by
  rw [siftDown, dif_pos h]
theorem sift_stop (lt : α → α → Bool) (hi first r : Nat) (d : Array α) (h : lt d[first + r]! d[first + chF lt hi first r d]! = false) : siftDown lt hi first r d = d := by
  rw [siftDown]
  split
  · rfl
  · unfold chF chB at h
    split
    · rename_i h1
      rw [if_pos h1] at h
      rw [h]; rfl
    · rename_i h1
      rw [if_neg h1] at h
      rw [h]; rfl
theorem sift_step (lt : α → α → Bool) (hi first r : Nat) (d : Array α) (h0 : 2 * r + 1 < hi) (h : lt d[first + r]! d[first + chF lt hi first r d]! = true) :
    siftDown lt hi first r d = siftDown lt hi first (chF lt hi first r d) (swp d (first + r) (first + chF lt hi first r d)) := by
  rw [siftDown]
  rw [dif_neg (by omega)]
  have hle := (chF_le lt hi first r d h0).1
  unfold chF chB at h hle ⊢
  by_cases h1 : (decide (2 * r + 2 < hi) && lt d[first + (2 * r + 1)]! d[first + (2 * r + 1) + 1]!) = true
  · rw [if_pos h1] at h hle ⊢
    have h1' : (decide (2 * r + 1 + 1 < hi) && lt d[first + (2 * r + 1)]! d[first + (2 * r + 1) + 1]!) = true := h1
    rw [if_pos h1', h, dif_pos hle]; rfl
  · rw [if_neg h1] at h hle ⊢
    have h1' : ¬ (decide (2 * r + 1 + 1 < hi) && lt d[first + (2 * r + 1)]! d[first + (2 * r + 1) + 1]!) = true := h1
    rw [if_neg h1', h]; rfl

set_option maxHeartbeats 1000000 in
theorem sift_spec (hC : CmpOk enc a w0 g cb cf) (cap lo hi first n : Nat) (d : Array α) (w : World) (hs : Srt enc 8 w0 a d w) (hn : d.size = n) (hb : n ≤ 1152921504606846976) (hlo : lo ≤ hi) (hf : first + hi ≤ n) :
    RetsK Try.prog 56 #[.slice a n cap, .int .i64 lo, .int .i64 hi, .int .i64 first, .func (.func g) #[] cb.toArray] w (.tuple #[]) (Srt enc 8 w0 a (siftDown (ltf cf) hi first lo d)) := by
  have elt := hC.elt
  refine enter (args := [_, _, _, _, _]) Try.func56 rfl Try.ntmps56 (by kernel_rfl) rfl ?_
  refine V.seq (V.region (VL.op (R.mvI rfl) (VL.op (R.asI rfl) (VL.nil (V.block (?_))))))
  refine V.loop [0, 2, 3, 4, 10] (fun x : Nat × Array α => [.slice a n cap, .int .i64 hi, .int .i64 first, .func (.func g) #[] cb.toArray, .int .i64 x.1])
    (fun x w' => x.1 ≤ hi ∧ x.2.size = n ∧ siftDown (ltf cf) hi first x.1 x.2 = siftDown (ltf cf) hi first lo d ∧ Srt enc 8 w0 a x.2 w') (fun x => hi - x.1) (lo, d) rfl ⟨hlo, hn, rfl, hs⟩ ?_
  rintro ρ ⟨r, d1⟩ w1 ⟨h1, h2, h3, hs1⟩
  dsimp only at h1 h2 h3 hs1 ⊢
  refine V.block (V.seq (V.region (VL.op (R.mvI rfl) (VL.op (R.mul rfl rfl (by omega) (by omega)) (VL.op (R.add rfl rfl (by omega) (by omega)) (VL.op (R.asI rfl) (VL.nil (V.seq (V.seq (V.region (VL.op (R.mvI rfl) (VL.op (R.mvI rfl) (VL.op (R.geq rfl rfl) (VL.nil (V.condP rfl (fun c18 => V.exit (fend0 rfl (⟨rfl, (hs1.ext (Mod.refl _ _)).to ?_⟩))) (fun c18 => V.skip (V.cut [0, 2, 3, 4, 10, 11] (fun _ : Unit => [.slice a n cap, .int .i64 hi, .int .i64 first, .func (.func g) #[] cb.toArray, .int .i64 r, .int .i64 (chF (ltf cf) hi first r d1)]) (fun _ w' => Ext _ w' ∧ (r < chF (ltf cf) hi first r d1 ∧ chF (ltf cf) hi first r d1 < hi)) (V.seq (V.regionQCut mixed 22 (by kernel_rfl) rfl (fun w' => Ext _ w') (Ext.drawn _) [19, 20, 21, 22, 23, 24, 25, 26, 27, 28, 29, 30, 31, 32, 33, 34, 35, 36, 37, 38, 39, 40] 40 (.bool (chB (ltf cf) hi first r d1)) rfl (VQ.op (fun wq eq => R.mvI rfl) (VQ.op (fun wq eq => R.add rfl rfl (by omega) (by omega)) (VQ.op (fun wq eq => R.mvI rfl) (VQ.op (fun wq eq => R.lss rfl rfl) (VQ.op (fun wq eq => R.mvB rfl) (VQ.andP rfl rfl (fun g3_4 => VQ.op (fun wq eq => R.mvF rfl) (VQ.gT rfl rfl (VQ.op (fun wq eq => R.mvS rfl) (VQ.gT rfl rfl (VQ.op (fun wq eq => R.mvI rfl) (VQ.gT rfl rfl (VQ.op (fun wq eq => R.mvI rfl) (VQ.gT rfl rfl (VQ.op (fun wq eq => R.add rfl rfl (by omega) (by omega)) (VQ.gT rfl rfl (VQ.op (fun wq eq => R.ixS Try.runUnderlying41 Try.sizeOf44 rfl rfl (by omega) (by omega) (hs1.ad)) (VQ.gT rfl rfl (VQ.op (fun wq eq => R.ldA Try.isAgg44 Try.sizeOf44 rfl rfl (((hs1.ext eq).row elt (i := first + (2 * r + 1)) (by omega) (by omega))) (elt.len _)) (VQ.gT rfl rfl (VQ.op (fun wq eq => R.mvS rfl) (VQ.gT rfl rfl (VQ.op (fun wq eq => R.mvI rfl) (VQ.gT rfl rfl (VQ.op (fun wq eq => R.mvI rfl) (VQ.gT rfl rfl (VQ.op (fun wq eq => R.add rfl rfl (by omega) (by omega)) (VQ.gT rfl rfl (VQ.op (fun wq eq => R.add rfl rfl (by omega) (by omega)) (VQ.gT rfl rfl (VQ.op (fun wq eq => R.ixS Try.runUnderlying41 Try.sizeOf44 rfl rfl (by omega) (by omega) (hs1.ad)) (VQ.gT rfl rfl (VQ.op (fun wq eq => R.ldA Try.isAgg44 Try.sizeOf44 rfl rfl (((hs1.ext eq).row elt (i := first + (2 * r + 1) + 1) (by omega) (by omega))) (elt.len _)) (VQ.gT rfl rfl (VQ.callCP (fun _ _ h k => Mod.trans h k) rfl (hC.fn) rfl (fun wq eq => hC.spec wq (hs1.ext eq).m _ _) (VQ.gT rfl rfl (VQ.op (fun wq eq => R.lss rfl rfl) (VQ.op (fun wq eq => R.pickTB rfl rfl) (VQ.nil (cutB rfl ?_)))))))))))))))))))))))))))))))))) (fun g3_4 => VQ.gF rfl rfl (VQ.gF rfl rfl (VQ.gF rfl rfl (VQ.gF rfl rfl (VQ.gF rfl rfl (VQ.gF rfl rfl (VQ.gF rfl rfl (VQ.gF rfl rfl (VQ.gF rfl rfl (VQ.gF rfl rfl (VQ.gF rfl rfl (VQ.gF rfl rfl (VQ.gF rfl rfl (VQ.gF rfl rfl (VQ.gF rfl rfl (VQ.op (fun wq eq => R.pickFB rfl rfl) (VQ.nil (cutB rfl ?_)))))))))))))))))))))))) (fun rg3 w3c e3c => V.cond rfl (fun c40 => V.region (VL.op (R.mvI rfl) (VL.op (R.add rfl rfl (by omega) (by omega)) (VL.op (R.asI rfl) (VL.nil (⟨(), ?_, ⟨e3c, ?_⟩⟩)))))) (fun c40 => V.skip (⟨(), ?_, ⟨e3c, ?_⟩⟩))))) (fun rgC40 _ wBC40 ⟨eBC40, hBC40⟩ => V.seq (V.seq (V.regionQCut mixed 16 (by kernel_rfl) rfl (fun w' => Ext _ w') (Ext.drawn _) [43, 44, 45, 46, 47, 48, 49, 50, 51, 52, 53, 54, 55, 56, 57, 58] 58 (.bool (!ltf cf d1[first + r]! d1[first + chF (ltf cf) hi first r d1]!)) rfl (VQ.op (fun wq eq => R.mvF rfl) (VQ.op (fun wq eq => R.mvS rfl) (VQ.op (fun wq eq => R.mvI rfl) (VQ.op (fun wq eq => R.mvI rfl) (VQ.op (fun wq eq => R.add rfl rfl (by omega) (by omega)) (VQ.op (fun wq eq => R.ixS Try.runUnderlying41 Try.sizeOf44 rfl rfl (by omega) (by omega) (hs1.ad)) (VQ.op (fun wq eq => R.ldA Try.isAgg44 Try.sizeOf44 rfl rfl (((hs1.ext (eBC40.trans eq)).row elt (i := first + r) (by omega) (by omega))) (elt.len _)) (VQ.op (fun wq eq => R.mvS rfl) (VQ.op (fun wq eq => R.mvI rfl) (VQ.op (fun wq eq => R.mvI rfl) (VQ.op (fun wq eq => R.add rfl rfl (by omega) (by omega)) (VQ.op (fun wq eq => R.ixS Try.runUnderlying41 Try.sizeOf44 rfl rfl (by omega) (by omega) (hs1.ad)) (VQ.op (fun wq eq => R.ldA Try.isAgg44 Try.sizeOf44 rfl rfl (((hs1.ext (eBC40.trans eq)).row elt (i := first + chF (ltf cf) hi first r d1) (by omega) (by omega))) (elt.len _)) (VQ.callCP (fun _ _ h k => Mod.trans h k) rfl (hC.fn) rfl (fun wq eq => hC.spec wq (hs1.ext (eBC40.trans eq)).m _ _) (VQ.op (fun wq eq => R.lss rfl rfl) (VQ.op (fun wq eq => R.notD rfl) (VQ.nil (cutB rfl ?_)))))))))))))))))) (fun rg5 w5c e5c => V.cond rfl (fun c58 => V.ret (fret0 rfl (⟨rfl, (hs1.ext (eBC40.trans e5c)).to ?_⟩))) (fun c58 => V.skip (V.seq (V.regionW mixed 22 21 (by kernel_rfl) rfl (fun w' => Ext _ w') (fun w' => Srt enc 8 w0 a (d1.setIfInBounds (first + r) d1[first + chF (ltf cf) hi first r d1]!) w') (Ext.drawn _) (VW.op (fun wq eq => R.mvS rfl) (VW.op (fun wq eq => R.mvI rfl) (VW.op (fun wq eq => R.mvI rfl) (VW.op (fun wq eq => R.add rfl rfl (by omega) (by omega)) (VW.op (fun wq eq => R.mvS rfl) (VW.op (fun wq eq => R.mvI rfl) (VW.op (fun wq eq => R.mvI rfl) (VW.op (fun wq eq => R.add rfl rfl (by omega) (by omega)) (VW.op (fun wq eq => R.mvS rfl) (VW.op (fun wq eq => R.mvI rfl) (VW.op (fun wq eq => R.mvI rfl) (VW.op (fun wq eq => R.add rfl rfl (by omega) (by omega)) (VW.op (fun wq eq => R.ixS Try.runUnderlying41 Try.sizeOf44 rfl rfl (by omega) (by omega) (hs1.ad)) (VW.op0 (fun wq eq => R.ldA Try.isAgg44 Try.sizeOf44 rfl rfl (((hs1.ext ((eBC40.trans e5c).trans eq)).row elt (i := first + chF (ltf cf) hi first r d1) (by omega) (by omega))) (elt.len _)) (VW.op (fun wq eq => R.mvS rfl) (VW.op (fun wq eq => R.mvI rfl) (VW.op (fun wq eq => R.mvI rfl) (VW.op (fun wq eq => R.add rfl rfl (by omega) (by omega)) (VW.op (fun wq eq => R.ixS Try.runUnderlying41 Try.sizeOf44 rfl rfl (by omega) (by omega) (hs1.ad)) (VW.op0 (fun wq eq => R.ldA Try.isAgg44 Try.sizeOf44 rfl rfl (((hs1.ext ((eBC40.trans e5c).trans eq)).row elt (i := first + r) (by omega) (by omega))) (elt.len _)) (VW.op (fun wq eq => R.ixS Try.runUnderlying41 Try.sizeOf44 rfl rfl (by omega) (by omega) hs1.ad) (VW.wr0 (fun wq eq => R.storeSt elt Try.sizeOf44 (hs1.ext ((eBC40.trans e5c).trans eq)) rfl (i := first + r) (by omega) (by omega) rfl) (VW.nil fun w3 hs3 => VL.op (R.ixS Try.runUnderlying41 Try.sizeOf44 rfl rfl (by omega) (by omega) hs1.ad) (VL.storeSt elt Try.sizeOf44 hs3 rfl (i := first + chF (ltf cf) hi first r d1) (by omega) (by simp; omega) rfl fun w4 hs4 => VL.nil (V.region (VL.op (R.mvI rfl) (VL.op (R.asI rfl) (VL.nil (⟨(chF (ltf cf) hi first r d1, swp d1 (first + r) (first + chF (ltf cf) hi first r d1)), rfl, ⟨by omega, ?_, ?_, hs4⟩, by omega⟩)))))))))))))))))))))))))))))))))))))))))))))))))))))
  · rw [← h3, sift_end _ _ _ _ _ (by omega)]
  · have : 2 * r + 2 < hi := by omega
    simp [chB, ltf, this]
  · have : ¬ 2 * r + 2 < hi := by omega
    simp [chB, this]
  · have e : chF (ltf cf) hi first r d1 = 2 * r + 2 := by unfold chF; rw [if_pos c40]
    have e2 : ((chF (ltf cf) hi first r d1 : Nat) : Int) = 2 * (r : Int) + 1 + 1 := by rw [e]; omega
    rw [e2]; rfl
  · have := chF_le (ltf cf) hi first r d1 (by omega)
    omega
  · have e : chF (ltf cf) hi first r d1 = 2 * r + 1 := by unfold chF; rw [if_neg (by rw [c40]; decide)]
    have e2 : ((chF (ltf cf) hi first r d1 : Nat) : Int) = 2 * (r : Int) + 1 := by rw [e]; omega
    rw [e2]; rfl
  · have := chF_le (ltf cf) hi first r d1 (by omega)
    omega
  · by_cases hc : cf d1[first + r]! d1[first + chF (ltf cf) hi first r d1]! < 0
    · simp [ltf, hc]
    · simp [ltf, hc]
  · rw [← h3, sift_stop _ _ _ _ _ (by simpa using c58)]
  · rw [sz_swp]; exact h2
  · rw [← sift_step _ _ _ _ _ (by omega) (by simpa using c58)]; exact h3

theorem sift_specI (hC : CmpOk enc a w0 g cb cf) (cap lo hi first n : Nat) {x y z : Int} (hx : x = lo) (hy : y = hi) (hz : z = first) (d : Array α) (w : World) (hs : Srt enc 8 w0 a d w) (hn : d.size = n) (hb : n ≤ 1152921504606846976) (hlo : lo ≤ hi) (hf : first + hi ≤ n) :
    RetsK Try.prog 56 #[.slice a n cap, .int .i64 x, .int .i64 y, .int .i64 z, .func (.func g) #[] cb.toArray] w (.tuple #[]) (Srt enc 8 w0 a (siftDown (ltf cf) hi first lo d)) := by
  subst hx; subst hy; subst hz
  exact sift_spec hC cap lo hi first n d w hs hn hb hlo hf
theorem sift_size (lt : α → α → Bool) (hi first : Nat) : ∀ (n r : Nat) (d : Array α), hi - r ≤ n → (siftDown lt hi first r d).size = d.size := by
  intro n
  induction n with
  | zero => intro r d h; rw [sift_end _ _ _ _ _ (by omega)]
  | succ n ih =>
    intro r d h
    by_cases h0 : 2 * r + 1 < hi
    · have hle := chF_le lt hi first r d h0
      cases hc : lt d[first + r]! d[first + chF lt hi first r d]! with
      | true => rw [sift_step _ _ _ _ _ h0 hc, ih _ _ (by omega), sz_swp]
      | false => rw [sift_stop _ _ _ _ _ hc]
    · rw [sift_end _ _ _ _ _ (by omega)]

set_option maxHeartbeats 1000000 in
theorem heap_spec (hC : CmpOk enc a w0 g cb cf) (cap A B n : Nat) (d : Array α) (w : World) (hs : Srt enc 8 w0 a d w) (hn : d.size = n) (hb : n ≤ 1152921504606846976) (hAB : A < B) (hB : B ≤ n) :
    RetsK Try.prog 46 #[.slice a n cap, .int .i64 A, .int .i64 B, .func (.func g) #[] cb.toArray] w (.tuple #[]) (Srt enc 8 w0 a (heapSort (ltf cf) d A B)) := by
  have elt := hC.elt
  refine enter (args := [_, _, _, _]) Try.func46 rfl Try.ntmps46 (by kernel_rfl) rfl ?_
  refine V.seq (V.region (VL.op (R.mvI rfl) (VL.op (R.asI rfl) (VL.nil (V.seq (V.region (VL.op (R.asI rfl) (VL.nil (V.seq (V.region (VL.op (R.mvI rfl) (VL.op (R.mvI rfl) (VL.op (R.sub rfl rfl (by omega) (by omega)) (VL.op (R.asI rfl) (VL.nil (V.cut [0, 3, 8, 9, 10] (fun _ : Unit => [.slice a n cap, .func (.func g) #[] cb.toArray, .int .i64 A, .int .i64 0, .int .i64 ((B : Int) - A)]) (fun _ w' => (fun w' => ∃ d1 : Array α, d1.size = n ∧ heapPop (ltf cf) A (B - A) d1 = heapSort (ltf cf) d A B ∧ Srt enc 8 w0 a d1 w') w') (V.seq (V.region (VL.op (R.mvI rfl) (VL.op (R.sub rfl rfl (by omega) (by omega)) (VL.op (R.quo rfl rfl (by omega) (by omega) (by omega)) (VL.op (R.asI rfl) (VL.nil (V.block (?_))))))))) (fun rgB0 _ wBB0 hBB0 => V.seq (V.region (VL.op (R.mvI rfl) (VL.op (R.sub rfl rfl (by omega) (by omega)) (VL.op (R.asI rfl) (VL.nil (V.block (?_))))))))))))))))))))))))
  · have e : ((B : Int) - A - 1) / 2 = (((B - A - 1) / 2 + 1 : Nat) : Int) - 1 := by omega
    refine V.loop [0, 3, 8, 9, 10, 11] (fun x : Nat × Array α => [.slice a n cap, .func (.func g) #[] cb.toArray, .int .i64 A, .int .i64 0, .int .i64 ((B : Int) - A), .int .i64 ((x.1 : Int) - 1)])
      (fun x w' => x.1 ≤ B - A ∧ x.2.size = n ∧ heapBuild (ltf cf) (B - A) A x.1 x.2 = heapBuild (ltf cf) (B - A) A ((B - A - 1) / 2 + 1) d ∧ Srt enc 8 w0 a x.2 w') (fun x => x.1) ((B - A - 1) / 2 + 1, d)
      (congrArg (fun z : Int => [Value.slice a n cap, .func (.func g) #[] cb.toArray, .int .i64 A, .int .i64 0, .int .i64 ((B : Int) - A), .int .i64 z]) e) ⟨by simp; omega, hn, rfl, hs⟩ ?_
    rintro ρ ⟨k, d1⟩ w1 ⟨h1, h2, h3, hs1⟩
    dsimp only at h1 h2 h3 hs1 ⊢
    refine V.seq (V.seq (V.region (VL.op (R.mvI rfl) (VL.op (R.geq rfl rfl) (VL.nil (V.condP rfl (fun c21 => V.skip (V.seq (V.block (V.region (VL.op (R.mvS rfl) (VL.op (R.mvI rfl) (VL.op (R.mvI rfl) (VL.op (R.mvI rfl) (VL.op (R.mvF rfl) (VL.callK Try.call56 rfl (sift_specI hC cap (k - 1) (B - A) A n (by omega) (by omega) rfl d1 _ (hs1.ext (Mod.refl _ _)) h2 hb (by omega) (by omega)) fun w2 hs2 => VL.nil (V.region (VL.op (R.mvI rfl) (VL.op (R.sub rfl rfl (by omega) (by omega)) (VL.op (R.asI rfl) (VL.nil (⟨(k - 1, siftDown (ltf cf) (B - A) A (k - 1) d1), ?_, ⟨by omega, ?_, ?_, hs2⟩, by omega⟩)))))))))))))))) (fun c21 => V.exit (⟨(), rfl, ?_⟩))))))))
    · have e : ((k - 1 : Nat) : Int) = (k : Int) - 1 := by omega
      rw [e]; rfl
    · rw [sift_size _ _ _ _ _ _ (Nat.le_refl _)]; exact h2
    · rw [← h3]
      obtain ⟨k, rfl⟩ : ∃ k', k = k' + 1 := ⟨k - 1, by omega⟩
      rfl
    · refine ⟨d1, h2, ?_, hs1⟩
      have hk : k = 0 := by omega
      subst hk
      unfold heapSort
      rw [← h3]; rfl
  · obtain ⟨d0, hn0, he0, hs0⟩ := hBB0
    have e : ((B : Int) - A - 1) = ((B - A : Nat) : Int) - 1 := by omega
    refine V.loop [0, 3, 8, 9, 12] (fun x : Nat × Array α => [.slice a n cap, .func (.func g) #[] cb.toArray, .int .i64 A, .int .i64 0, .int .i64 ((x.1 : Int) - 1)])
      (fun x w' => x.1 ≤ B - A ∧ x.2.size = n ∧ heapPop (ltf cf) A x.1 x.2 = heapSort (ltf cf) d A B ∧ Srt enc 8 w0 a x.2 w') (fun x => x.1) (B - A, d0)
      (congrArg (fun z : Int => [Value.slice a n cap, .func (.func g) #[] cb.toArray, .int .i64 A, .int .i64 0, .int .i64 z]) e) ⟨by simp, hn0, he0, hs0⟩ ?_
    rintro ρ ⟨k, d1⟩ w1 ⟨h1, h2, h3, hs1⟩
    dsimp only at h1 h2 h3 hs1 ⊢
    refine V.seq (V.seq (V.region (VL.op (R.mvI rfl) (VL.op (R.geq rfl rfl) (VL.nil (V.condP rfl (fun c33 => V.skip (V.seq (V.block (V.seq (V.regionW mixed 18 17 (by kernel_rfl) rfl (fun w' => Ext _ w') (fun w' => Srt enc 8 w0 a (d1.setIfInBounds A d1[A + (k - 1)]!) w') (Ext.drawn _) (VW.op (fun wq eq => R.mvS rfl) (VW.op (fun wq eq => R.mvI rfl) (VW.op (fun wq eq => R.mvS rfl) (VW.op (fun wq eq => R.mvI rfl) (VW.op (fun wq eq => R.mvI rfl) (VW.op (fun wq eq => R.add rfl rfl (by omega) (by omega)) (VW.op (fun wq eq => R.mvS rfl) (VW.op (fun wq eq => R.mvI rfl) (VW.op (fun wq eq => R.mvI rfl) (VW.op (fun wq eq => R.add rfl rfl (by omega) (by omega)) (VW.op (fun wq eq => R.ixS Try.runUnderlying41 Try.sizeOf44 rfl rfl (by omega) (by omega) (hs1.ad)) (VW.op0 (fun wq eq => R.ldA Try.isAgg44 Try.sizeOf44 rfl rfl (((hs1.ext eq).row elt (i := A + (k - 1)) (by omega) (by omega))) (elt.len _)) (VW.op (fun wq eq => R.mvS rfl) (VW.op (fun wq eq => R.mvI rfl) (VW.op (fun wq eq => R.ixS Try.runUnderlying41 Try.sizeOf44 rfl rfl (by omega) (by omega) (hs1.ad)) (VW.op0 (fun wq eq => R.ldA Try.isAgg44 Try.sizeOf44 rfl rfl (((hs1.ext eq).row elt (i := A) (by omega) (by omega))) (elt.len _)) (VW.op (fun wq eq => R.ixS Try.runUnderlying41 Try.sizeOf44 rfl rfl (by omega) (by omega) hs1.ad) (VW.wr0 (fun wq eq => R.storeSt elt Try.sizeOf44 (hs1.ext eq) rfl (i := A) (by omega) (by omega) rfl) (VW.nil fun w3 hs3 => VL.op (R.ixS Try.runUnderlying41 Try.sizeOf44 rfl rfl (by omega) (by omega) hs1.ad) (VL.storeSt elt Try.sizeOf44 hs3 rfl (i := A + (k - 1)) (by omega) (by simp; omega) rfl fun w4 hs4 => VL.nil (V.region (VL.op (R.mvS rfl) (VL.op (R.mvI rfl) (VL.op (R.mvI rfl) (VL.op (R.mvI rfl) (VL.op (R.mvF rfl) (VL.callK Try.call56 rfl (sift_specI hC cap 0 (k - 1) A n rfl (by omega) rfl (swp d1 A (A + (k - 1))) _ hs4 (by rw [sz_swp]; exact h2) hb (by omega) (by omega)) fun w5 hs5 => VL.nil (V.region (VL.op (R.mvI rfl) (VL.op (R.sub rfl rfl (by omega) (by omega)) (VL.op (R.asI rfl) (VL.nil (⟨(k - 1, siftDown (ltf cf) (k - 1) A 0 (swp d1 A (A + (k - 1)))), ?_, ⟨by omega, ?_, ?_, hs5⟩, by omega⟩)))))))))))))))))))))))))))))))))))))) (fun c33 => V.exit (fend0 rfl (⟨rfl, (hs1.ext (Mod.refl _ _)).to ?_⟩)))))))))
    · have e : ((k - 1 : Nat) : Int) = (k : Int) - 1 := by omega
      rw [e]; rfl
    · rw [sift_size _ _ _ _ _ _ (Nat.le_refl _), sz_swp]; exact h2
    · rw [← h3]
      obtain ⟨k, rfl⟩ : ∃ k', k = k' + 1 := ⟨k - 1, by omega⟩
      rfl
    · have hk : k = 0 := by omega
      subst hk
      rw [← h3]; rfl
end
end SrtC
end Go.Proofs.Ytbckofoibdljgaa
