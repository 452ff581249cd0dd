/- slices.SortFunc: the partial insertion sort. -/
import Derived.Test.YtbckofoibdljgaaZD
namespace Go.Proofs.Ytbckofoibdljgaa
namespace SrtC
open Go.Vc Go.Sort
variable {α : Type} [Inhabited α]
section
variable {enc : α → List Value} {a : Option Addr} {w0 : World} {g : Nat} {cb : List Value} {cf : α → α → Int}

theorem scs_step (lt : α → α → Bool) (d : Array α) (b i : Nat) (h : (decide (i < b) && !lt d[i]! d[i - 1]!) = true) : scanSorted lt d b i = scanSorted lt d b (i + 1) := by rw [scanSorted, if_pos h]
theorem scs_stop (lt : α → α → Bool) (d : Array α) (b i : Nat) (h : (decide (i < b) && !lt d[i]! d[i - 1]!) = false) : scanSorted lt d b i = i := by rw [scanSorted, if_neg (by rw [h]; decide)]
theorem scs_ge (lt : α → α → Bool) (d : Array α) (b : Nat) : ∀ (n i : Nat), b - i = n → i ≤ scanSorted lt d b i ∧ (i ≤ b → scanSorted lt d b i ≤ b) := by
  intro n
  induction n with
  | zero => intro i h; rw [scs_stop]; exact ⟨Nat.le_refl _, fun h => h⟩; simp; omega
  | succ n ih =>
    intro i h
    cases hc : (decide (i < b) && !lt d[i]! d[i - 1]!) with
    | true =>
      rw [scs_step _ _ _ _ hc]
      have := ih (i + 1) (by omega)
      exact ⟨by omega, fun h => this.2 (by omega)⟩
    | false => rw [scs_stop _ _ _ _ hc]; exact ⟨Nat.le_refl _, fun h => h⟩
theorem shd_step (lt : α → α → Bool) (y : Nat) (d : Array α) (hy : 1 ≤ y) (h : lt d[y]! d[y - 1]! = true) : shiftDown lt y d = shiftDown lt (y - 1) (swp d y (y - 1)) := by
  cases y with
  | zero => omega
  | succ y =>
    have h' : lt d[y + 1]! d[y]! = true := h
    rw [shiftDown, h']; rfl
theorem shd_stop (lt : α → α → Bool) (y : Nat) (d : Array α) (h : lt d[y]! d[y - 1]! = false) : shiftDown lt y d = d := by
  cases y with
  | zero => rfl
  | succ y =>
    have h' : lt d[y + 1]! d[y]! = false := h
    rw [shiftDown, h']; rfl
theorem shd_size (lt : α → α → Bool) : ∀ (y : Nat) (d : Array α), (shiftDown lt y d).size = d.size
  | 0, d => rfl
  | y + 1, d => by
    rw [shiftDown]
    split
    · rfl
    · rw [shd_size lt y, sz_swp]
theorem shu_size (lt : α → α → Bool) (b : Nat) : ∀ (n y : Nat) (d : Array α), b - y = n → (shiftUp lt b y d).size = d.size := by
  intro n
  induction n with
  | zero => intro y d h; rw [shiftUp, if_neg (by omega)]
  | succ n ih =>
    intro y d h
    rw [shiftUp]
    split
    · split
      · rfl
      · rw [ih _ _ (by omega), sz_swp]
    · rfl
theorem lt_and' {A j : Nat} {b : Bool} (h : (decide (A < j) && b) = true) : A < j := by simp at h; exact h.1

set_option maxHeartbeats 2000000 in
theorem pins_spec (hC : CmpOk enc a w0 g cb cf) (cap n : Nat) (A B : Nat) (d : Array α) (w : World) (hs : Srt enc 8 w0 a d w) (hn : d.size = n) (hb : n ≤ 1152921504606846976) (hAB : A < B) (hB : B ≤ n) :
    RetsK Try.prog 50 #[.slice a n cap, .int .i64 A, .int .i64 B, .func (.func g) #[] cb.toArray] w (.bool (partialInsertionSort (ltf cf) d A B).2) (Srt enc 8 w0 a (partialInsertionSort (ltf cf) d A B).1) := by
  have elt := hC.elt
  refine enter (args := [_, _, _, _]) Try.func50 rfl Try.ntmps50 (by kernel_rfl) rfl ?_
  refine V.seq (V.region (VL.op (R.asB rfl) (VL.nil (V.seq (V.region (VL.op (R.mvI rfl) (VL.op (R.add rfl rfl (by omega) (by omega)) (VL.op (R.asI rfl) (VL.nil (V.seq (V.seq (V.region (VL.op (R.asI rfl) (VL.nil (V.block (?_))))))))))))))))
  refine V.loop [0, 1, 2, 3, 9, 10] (fun x : Nat × Nat × Array α => [.slice a n cap, .int .i64 A, .int .i64 B, .func (.func g) #[] cb.toArray, .int .i64 x.2.1, .int .i64 x.1])
    (fun x w' => x.1 ≤ 5 ∧ A + 1 ≤ x.2.1 ∧ x.2.1 ≤ B ∧ x.2.2.size = n ∧ partialIns (ltf cf) A B (5 - x.1) x.2.1 x.2.2 = partialInsertionSort (ltf cf) d A B ∧ Srt enc 8 w0 a x.2.2 w') (fun x => 5 - x.1) (0, A + 1, d) rfl ⟨by simp, by simp, by dsimp only; omega, hn, rfl, hs⟩ ?_
  rintro ρ ⟨s, i, d1⟩ w1 ⟨h0, h1, h2, h3, h4, hs1⟩
  dsimp only at h0 h1 h2 h3 h4 hs1 ⊢
  obtain ⟨i2, hi2⟩ : ∃ i2, i2 = scanSorted (ltf cf) d1 B i := ⟨_, rfl⟩
  have q1 := scs_ge (ltf cf) d1 B _ i rfl
  rw [← hi2] at q1
  have q2 := q1.1
  have q3 := q1.2 h2
  obtain ⟨d2, hd2⟩ : ∃ d2, d2 = swp d1 i2 (i2 - 1) := ⟨_, rfl⟩
  obtain ⟨d3, hd3⟩ : ∃ d3, d3 = if i2 - A ≥ 2 then shiftDown (ltf cf) (i2 - 1) d2 else d2 := ⟨_, rfl⟩
  obtain ⟨d4, hd4⟩ : ∃ d4, d4 = if B - i2 ≥ 2 then shiftUp (ltf cf) B (i2 + 1) d3 else d3 := ⟨_, rfl⟩
  have z2 : d2.size = n := by rw [hd2, sz_swp]; exact h3
  have z3 : d3.size = n := by rw [hd3]; split <;> simp only [shd_size, z2]
  have z4 : d4.size = n := by rw [hd4]; split <;> simp only [shu_size _ _ _ _ _ rfl, z3]
  have hst : s < 5 → partialInsertionSort (ltf cf) d A B = if i2 = B then (d1, true) else if B - A < 50 then (d1, false) else partialIns (ltf cf) A B (5 - (s + 1)) i2 d4 := by
    intro h
    rw [← h4, show 5 - s = (5 - (s + 1)) + 1 from by omega, partialIns]
    simp only [← hi2, ← hd2, ← hd3, ← hd4]
  refine V.seq (V.seq (V.region (VL.op (R.mvI rfl) (VL.op (R.lss rfl rfl) (VL.nil (V.condP rfl (fun c16 => V.skip (V.cut [0, 1, 2, 3, 9, 10] (fun _ : Unit => [.slice a n cap, .int .i64 A, .int .i64 B, .func (.func g) #[] cb.toArray, .int .i64 i2, .int .i64 s]) (fun _ w' => (fun w' => (¬ i2 = B ∧ ¬ B - A < 50) ∧ Srt enc 8 w0 a d4 w') w') (V.block (V.cut [0, 1, 2, 3, 9, 10] (fun _ : Unit => [.slice a n cap, .int .i64 A, .int .i64 B, .func (.func g) #[] cb.toArray, .int .i64 i2, .int .i64 s]) (fun _ w' => (Srt enc 8 w0 a d1) w') (V.block (?_)) (fun rgB2 _ wBB2 hBB2 => V.seq (V.seq (V.region (VL.op (R.mvI rfl) (VL.op (R.mvI rfl) (VL.op (R.eql rfl rfl) (VL.nil (V.condP rfl (fun c41 => V.seq (V.region (VL.op (R.asB rfl) (VL.nil (V.ret (fret1 (v := .bool _) rfl rfl rfl (⟨?_, ?_⟩))))))) (fun c41 => V.skip (V.seq (V.seq (V.region (VL.op (R.mvI rfl) (VL.op (R.mvI rfl) (VL.op (R.sub rfl rfl (by omega) (by omega)) (VL.op (R.lss rfl rfl) (VL.nil (V.condP rfl (fun c45 => V.seq (V.region (VL.op (R.asB rfl) (VL.nil (V.ret (fret1 (v := .bool _) rfl rfl rfl (⟨?_, ?_⟩))))))) (fun c45 => V.skip (V.seq (V.regionW mixed 16 15 (by kernel_rfl) rfl (fun w' => Ext _ w') (fun w' => Srt enc 8 w0 a (d1.setIfInBounds (i2) d1[i2 - 1]!) w') (Ext.drawn _) (VW.op (fun wq eq => R.mvS rfl) (VW.op (fun wq eq => R.mvI rfl) (VW.op (fun wq eq => R.mvS rfl) (VW.op (fun wq eq => R.mvI rfl) (VW.op (fun wq eq => R.sub rfl rfl (by omega) (by omega)) (VW.op (fun wq eq => R.mvS rfl) (VW.op (fun wq eq => R.mvI rfl) (VW.op (fun wq eq => R.sub rfl rfl (by omega) (by omega)) (VW.op (fun wq eq => R.ixS Try.runUnderlying41 Try.sizeOf44 rfl rfl (by omega) (by omega) (hBB2.ad)) (VW.op0 (fun wq eq => R.ldA Try.isAgg44 Try.sizeOf44 rfl rfl (((hBB2.ext eq).row elt (i := i2 - 1) (by omega) (by omega))) (elt.len _)) (VW.op (fun wq eq => R.mvS rfl) (VW.op (fun wq eq => R.mvI rfl) (VW.op (fun wq eq => R.ixS Try.runUnderlying41 Try.sizeOf44 rfl rfl (by omega) (by omega) (hBB2.ad)) (VW.op0 (fun wq eq => R.ldA Try.isAgg44 Try.sizeOf44 rfl rfl (((hBB2.ext eq).row elt (i := i2) (by omega) (by omega))) (elt.len _)) (VW.op (fun wq eq => R.ixS Try.runUnderlying41 Try.sizeOf44 rfl rfl (by omega) (by omega) hBB2.ad) (VW.wr0 (fun wq eq => R.storeSt elt Try.sizeOf44 (hBB2.ext eq) rfl (i := i2) (by omega) (by omega) rfl) (VW.nil fun w3 hs3 => VL.op (R.ixS Try.runUnderlying41 Try.sizeOf44 rfl rfl (by omega) (by omega) hBB2.ad) (VL.storeSt elt Try.sizeOf44 hs3 rfl (i := i2 - 1) (by omega) (by rw [Array.size_setIfInBounds]; exact (by omega)) rfl fun w4 hs4 => VL.nil (V.cut [0, 1, 2, 3, 9, 10] (fun _ : Unit => [.slice a n cap, .int .i64 A, .int .i64 B, .func (.func g) #[] cb.toArray, .int .i64 i2, .int .i64 s]) (fun _ w' => (Srt enc 8 w0 a d3) w') (V.seq (V.region (VL.op (R.mvI rfl) (VL.op (R.mvI rfl) (VL.op (R.sub rfl rfl (by omega) (by omega)) (VL.op (R.geq rfl rfl) (VL.nil (V.condP rfl (fun c65 => V.seq (V.region (VL.op (R.mvI rfl) (VL.op (R.subE (z := ((i2 - 1 : Nat) : Int)) rfl rfl (by omega) (by omega) (by omega)) (VL.op (R.asI rfl) (VL.nil (V.block (?_)))))))) (fun c65 => V.skip (⟨(), rfl, ?_⟩)))))))))) (fun rgC65 _ wBC65 hBC65 => V.seq (V.region (VL.op (R.mvI rfl) (VL.op (R.mvI rfl) (VL.op (R.sub rfl rfl (by omega) (by omega)) (VL.op (R.geq rfl rfl) (VL.nil (V.condP rfl (fun c104 => V.seq (V.region (VL.op (R.mvI rfl) (VL.op (R.add rfl rfl (by omega) (by omega)) (VL.op (R.asI rfl) (VL.nil (V.block (?_)))))))) (fun c104 => V.skip (⟨(), rfl, ?_⟩)))))))))))))))))))))))))))))))))))))))))))))))))))) (fun rgB1 _ wBB1 hBB1 => V.region (VL.op (R.mvI rfl) (VL.op (R.add rfl rfl (by omega) (by omega)) (VL.op (R.asI rfl) (VL.nil (⟨(s + 1, i2, d4), rfl, ⟨by dsimp only; omega, by dsimp only; omega, by dsimp only; omega, z4, ?_, hBB1.2⟩, by dsimp only; omega⟩)))))))) (fun c16 => V.exit (V.seq (V.region (VL.op (R.asB rfl) (VL.nil (V.ret (fret1 (v := .bool _) rfl rfl rfl (⟨?_, ?_⟩))))))))))))))
  · refine V.loop [0, 1, 2, 3, 9, 10] (fun x : Nat => [.slice a n cap, .int .i64 A, .int .i64 B, .func (.func g) #[] cb.toArray, .int .i64 x, .int .i64 s])
      (fun x w' => i ≤ x ∧ x ≤ i2 ∧ scanSorted (ltf cf) d1 B x = i2 ∧ Srt enc 8 w0 a d1 w') (fun x => i2 - x) i rfl ⟨Nat.le_refl _, q2, hi2.symm, hs1⟩ ?_
    rintro ρ2 x w2 ⟨g1, g1b, g2, hs2⟩
    refine V.seq (V.seq (V.regionQCut mixed 18 (by kernel_rfl) rfl (fun w' => Ext _ w') (Ext.drawn _) [19, 20, 21, 22, 23, 24, 25, 26, 27, 28, 29, 30, 31, 32, 33, 34, 35, 36] 36 (.bool (decide (x < B) && !ltf cf d1[x]! d1[x - 1]!)) rfl (VQ.op (fun wq eq => R.mvI rfl) (VQ.op (fun wq eq => R.mvI rfl) (VQ.op (fun wq eq => R.lss rfl rfl) (VQ.op (fun wq eq => R.mvB rfl) (VQ.andP rfl rfl (fun g5_3 => VQ.op (fun wq eq => R.mvF rfl) (VQ.gT rfl rfl (VQ.op (fun wq eq => R.mvS rfl) (VQ.gT rfl rfl (VQ.op (fun wq eq => R.mvI rfl) (VQ.gT rfl rfl (VQ.op (fun wq eq => R.ixS Try.runUnderlying41 Try.sizeOf44 rfl rfl (by omega) (by omega) (hs2.ad)) (VQ.gT rfl rfl (VQ.op (fun wq eq => R.ldA Try.isAgg44 Try.sizeOf44 rfl rfl (((hs2.ext eq).row elt (i := x) (by omega) (by omega))) (elt.len _)) (VQ.gT rfl rfl (VQ.op (fun wq eq => R.mvS rfl) (VQ.gT rfl rfl (VQ.op (fun wq eq => R.mvI rfl) (VQ.gT rfl rfl (VQ.op (fun wq eq => R.sub rfl rfl (by omega) (by omega)) (VQ.gT rfl rfl (VQ.op (fun wq eq => R.ixS Try.runUnderlying41 Try.sizeOf44 rfl rfl (by omega) (by omega) (hs2.ad)) (VQ.gT rfl rfl (VQ.op (fun wq eq => R.ldA Try.isAgg44 Try.sizeOf44 rfl rfl (((hs2.ext eq).row elt (i := x - 1) (by omega) (by omega))) (elt.len _)) (VQ.gT rfl rfl (VQ.callCP (fun _ _ h k => Mod.trans h k) rfl (hC.fn) rfl (fun wq eq => hC.spec wq (hs2.ext eq).m _ _) (VQ.gT rfl rfl (VQ.op (fun wq eq => R.lss rfl rfl) (VQ.gT rfl rfl (VQ.op (fun wq eq => R.notD rfl) (VQ.op (fun wq eq => R.pickTB rfl rfl) (VQ.nil (cutB rfl ?_)))))))))))))))))))))))))))) (fun g5_3 => VQ.gF rfl rfl (VQ.gF rfl rfl (VQ.gF rfl rfl (VQ.gF rfl rfl (VQ.gF rfl rfl (VQ.gF rfl rfl (VQ.gF rfl rfl (VQ.gF rfl rfl (VQ.gF rfl rfl (VQ.gF rfl rfl (VQ.gF rfl rfl (VQ.gF rfl rfl (VQ.op (fun wq eq => R.pickFB rfl rfl) (VQ.nil (cutB rfl ?_)))))))))))))))))))) (fun rg5 w5c e5c => V.cond rfl (fun c36 => V.skip (V.block (V.region (VL.op (R.mvI rfl) (VL.op (R.add rfl rfl (by omega) (by omega)) (VL.op (R.asI rfl) (VL.nil (⟨x + 1, rfl, ⟨by omega, ?_, ?_, hs2.ext e5c⟩, ?_⟩)))))))) (fun c36 => V.exit (⟨(), ?_, ?_⟩)))))
    · have : x < B := by omega
      simp [ltf, this] <;> (rw [Bool.eq_iff_iff]; simp)
    · have : ¬ x < B := by omega
      simp [this]
    · have h := (scs_ge (ltf cf) d1 B _ (x + 1) rfl).1
      rw [← scs_step _ _ _ _ c36, g2] at h
      exact h
    · rw [← scs_step _ _ _ _ c36]; exact g2
    · have h := (scs_ge (ltf cf) d1 B _ (x + 1) rfl).1
      rw [← scs_step _ _ _ _ c36, g2] at h
      omega
    · have : i2 = x := by rw [← g2, scs_stop _ _ _ _ c36]
      rw [this]; rfl
    · exact hs2.ext e5c
  · rw [hst (by omega), if_pos (by omega)]
  · rw [hst (by omega), if_pos (by omega)]; exact hBB2
  · rw [hst (by omega), if_neg (by omega), if_pos (by omega)]
  · rw [hst (by omega), if_neg (by omega), if_pos (by omega)]; exact hBB2
  · have e3 : d3 = shiftDown (ltf cf) (i2 - 1) d2 := by rw [hd3, if_pos (by omega)]
    refine V.loop [0, 1, 2, 3, 9, 10, 11] (fun x : Nat × Array α => [.slice a n cap, .int .i64 A, .int .i64 B, .func (.func g) #[] cb.toArray, .int .i64 i2, .int .i64 s, .int .i64 x.1])
      (fun x w' => x.1 < n ∧ x.2.size = n ∧ shiftDown (ltf cf) x.1 x.2 = d3 ∧ Srt enc 8 w0 a x.2 w') (fun x => x.1) (i2 - 1, d2) rfl ⟨by dsimp only; omega, z2, e3.symm, hs4.to hd2.symm⟩ ?_
    rintro ρ2 ⟨y, d5⟩ w2 ⟨g1, g2, g3, hs2⟩
    dsimp only at g1 g2 g3 hs2 ⊢
    refine V.seq (V.seq (V.region (VL.op (R.mvI rfl) (VL.op (R.geq rfl rfl) (VL.nil (V.condP rfl (fun c69 => V.skip (V.seq (V.block (V.seq (V.seq (V.regionQCut mixed 13 (by kernel_rfl) rfl (fun w' => Ext _ w') (Ext.drawn _) [72, 73, 74, 75, 76, 77, 78, 79, 80, 81, 82, 83, 84] 84 (.bool (!ltf cf d5[y]! d5[y - 1]!)) rfl (VQ.op (fun wq eq => R.mvF rfl) (VQ.op (fun wq eq => R.mvS rfl) (VQ.op (fun wq eq => R.mvI rfl) (VQ.op (fun wq eq => R.ixS Try.runUnderlying41 Try.sizeOf44 rfl rfl (by omega) (by omega) (hs2.ad)) (VQ.op (fun wq eq => R.ldA Try.isAgg44 Try.sizeOf44 rfl rfl (((hs2.ext eq).row elt (i := y) (by omega) (by omega))) (elt.len _)) (VQ.op (fun wq eq => R.mvS rfl) (VQ.op (fun wq eq => R.mvI rfl) (VQ.op (fun wq eq => R.sub rfl rfl (by omega) (by omega)) (VQ.op (fun wq eq => R.ixS Try.runUnderlying41 Try.sizeOf44 rfl rfl (by omega) (by omega) (hs2.ad)) (VQ.op (fun wq eq => R.ldA Try.isAgg44 Try.sizeOf44 rfl rfl (((hs2.ext eq).row elt (i := y - 1) (by omega) (by omega))) (elt.len _)) (VQ.callCP (fun _ _ h k => Mod.trans h k) rfl (hC.fn) rfl (fun wq eq => hC.spec wq (hs2.ext eq).m _ _) (VQ.op (fun wq eq => R.lss rfl rfl) (VQ.op (fun wq eq => R.notD rfl) (VQ.nil (cutB rfl ?_))))))))))))))) (fun rg16 w16c e16c => V.cond rfl (fun c84 => V.exit (⟨(), rfl, ?_⟩)) (fun c84 => V.skip (V.regionW mixed 16 15 (by kernel_rfl) rfl (fun w' => Ext _ w') (fun w' => Srt enc 8 w0 a (d5.setIfInBounds (y) d5[y - 1]!) w') (Ext.drawn _) (VW.op (fun wq eq => R.mvS rfl) (VW.op (fun wq eq => R.mvI rfl) (VW.op (fun wq eq => R.mvS rfl) (VW.op (fun wq eq => R.mvI rfl) (VW.op (fun wq eq => R.sub rfl rfl (by omega) (by omega)) (VW.op (fun wq eq => R.mvS rfl) (VW.op (fun wq eq => R.mvI rfl) (VW.op (fun wq eq => R.sub rfl rfl (by omega) (by omega)) (VW.op (fun wq eq => R.ixS Try.runUnderlying41 Try.sizeOf44 rfl rfl (by omega) (by omega) (hs2.ad)) (VW.op0 (fun wq eq => R.ldA Try.isAgg44 Try.sizeOf44 rfl rfl (((hs2.ext (e16c.trans eq)).row elt (i := y - 1) (by omega) (by omega))) (elt.len _)) (VW.op (fun wq eq => R.mvS rfl) (VW.op (fun wq eq => R.mvI rfl) (VW.op (fun wq eq => R.ixS Try.runUnderlying41 Try.sizeOf44 rfl rfl (by omega) (by omega) (hs2.ad)) (VW.op0 (fun wq eq => R.ldA Try.isAgg44 Try.sizeOf44 rfl rfl (((hs2.ext (e16c.trans eq)).row elt (i := y) (by omega) (by omega))) (elt.len _)) (VW.op (fun wq eq => R.ixS Try.runUnderlying41 Try.sizeOf44 rfl rfl (by omega) (by omega) hs2.ad) (VW.wr0 (fun wq eq => R.storeSt elt Try.sizeOf44 (hs2.ext (e16c.trans eq)) rfl (i := y) (by omega) (by omega) rfl) (VW.nil fun w5 hs5 => VL.op (R.ixS Try.runUnderlying41 Try.sizeOf44 rfl rfl (by omega) (by omega) hs2.ad) (VL.storeSt elt Try.sizeOf44 hs5 rfl (i := y - 1) (by omega) (by rw [Array.size_setIfInBounds]; exact (by omega)) rfl fun w6 hs6 => VL.nil (V.region (VL.op (R.mvI rfl) (VL.op (R.subE (z := ((y - 1 : Nat) : Int)) rfl rfl (by omega) (by omega) (by omega)) (VL.op (R.asI rfl) (VL.nil (⟨(y - 1, swp d5 y (y - 1)), rfl, ⟨by dsimp only; omega, by dsimp only; rw [sz_swp]; exact g2, ?_, hs6⟩, by dsimp only; omega⟩))))))))))))))))))))))))))))))))) (fun c69 => V.exit (⟨(), rfl, ?_⟩))))))))
    · simp [ltf] <;> (rw [Bool.eq_iff_iff]; simp)
    · exact (hs2.ext e16c).to (by rw [← g3, shd_stop _ _ _ (by simpa using c84)])
    · dsimp only; rw [← g3, ← shd_step _ _ _ (by omega) (by simpa using c84)]
    · have hy : y = 0 := by omega
      subst hy
      exact hs2.to g3
  · have e3 : d3 = d2 := by rw [hd3, if_neg (by omega)]
    exact hs4.to (by rw [e3, hd2]; rfl)
  · have e4 : d4 = shiftUp (ltf cf) B (i2 + 1) d3 := by rw [hd4, if_pos (by omega)]
    refine V.loop [0, 1, 2, 3, 9, 10, 12] (fun x : Nat × Array α => [.slice a n cap, .int .i64 A, .int .i64 B, .func (.func g) #[] cb.toArray, .int .i64 i2, .int .i64 s, .int .i64 x.1])
      (fun x w' => i2 + 1 ≤ x.1 ∧ x.2.size = n ∧ shiftUp (ltf cf) B x.1 x.2 = d4 ∧ Srt enc 8 w0 a x.2 w') (fun x => B - x.1) (i2 + 1, d3) rfl ⟨by dsimp only; omega, z3, e4.symm, hBC65⟩ ?_
    rintro ρ2 ⟨y, d5⟩ w2 ⟨g1, g2, g3, hs2⟩
    dsimp only at g1 g2 g3 hs2 ⊢
    refine V.seq (V.seq (V.region (VL.op (R.mvI rfl) (VL.op (R.mvI rfl) (VL.op (R.lss rfl rfl) (VL.nil (V.condP rfl (fun c109 => V.skip (V.seq (V.block (V.seq (V.seq (V.regionQCut mixed 13 (by kernel_rfl) rfl (fun w' => Ext _ w') (Ext.drawn _) [112, 113, 114, 115, 116, 117, 118, 119, 120, 121, 122, 123, 124] 124 (.bool (!ltf cf d5[y]! d5[y - 1]!)) rfl (VQ.op (fun wq eq => R.mvF rfl) (VQ.op (fun wq eq => R.mvS rfl) (VQ.op (fun wq eq => R.mvI rfl) (VQ.op (fun wq eq => R.ixS Try.runUnderlying41 Try.sizeOf44 rfl rfl (by omega) (by omega) (hs2.ad)) (VQ.op (fun wq eq => R.ldA Try.isAgg44 Try.sizeOf44 rfl rfl (((hs2.ext eq).row elt (i := y) (by omega) (by omega))) (elt.len _)) (VQ.op (fun wq eq => R.mvS rfl) (VQ.op (fun wq eq => R.mvI rfl) (VQ.op (fun wq eq => R.sub rfl rfl (by omega) (by omega)) (VQ.op (fun wq eq => R.ixS Try.runUnderlying41 Try.sizeOf44 rfl rfl (by omega) (by omega) (hs2.ad)) (VQ.op (fun wq eq => R.ldA Try.isAgg44 Try.sizeOf44 rfl rfl (((hs2.ext eq).row elt (i := y - 1) (by omega) (by omega))) (elt.len _)) (VQ.callCP (fun _ _ h k => Mod.trans h k) rfl (hC.fn) rfl (fun wq eq => hC.spec wq (hs2.ext eq).m _ _) (VQ.op (fun wq eq => R.lss rfl rfl) (VQ.op (fun wq eq => R.notD rfl) (VQ.nil (cutB rfl ?_))))))))))))))) (fun rg22 w22c e22c => V.cond rfl (fun c124 => V.exit (⟨(), rfl, ?_⟩)) (fun c124 => V.skip (V.regionW mixed 16 15 (by kernel_rfl) rfl (fun w' => Ext _ w') (fun w' => Srt enc 8 w0 a (d5.setIfInBounds (y) d5[y - 1]!) w') (Ext.drawn _) (VW.op (fun wq eq => R.mvS rfl) (VW.op (fun wq eq => R.mvI rfl) (VW.op (fun wq eq => R.mvS rfl) (VW.op (fun wq eq => R.mvI rfl) (VW.op (fun wq eq => R.sub rfl rfl (by omega) (by omega)) (VW.op (fun wq eq => R.mvS rfl) (VW.op (fun wq eq => R.mvI rfl) (VW.op (fun wq eq => R.sub rfl rfl (by omega) (by omega)) (VW.op (fun wq eq => R.ixS Try.runUnderlying41 Try.sizeOf44 rfl rfl (by omega) (by omega) (hs2.ad)) (VW.op0 (fun wq eq => R.ldA Try.isAgg44 Try.sizeOf44 rfl rfl (((hs2.ext (e22c.trans eq)).row elt (i := y - 1) (by omega) (by omega))) (elt.len _)) (VW.op (fun wq eq => R.mvS rfl) (VW.op (fun wq eq => R.mvI rfl) (VW.op (fun wq eq => R.ixS Try.runUnderlying41 Try.sizeOf44 rfl rfl (by omega) (by omega) (hs2.ad)) (VW.op0 (fun wq eq => R.ldA Try.isAgg44 Try.sizeOf44 rfl rfl (((hs2.ext (e22c.trans eq)).row elt (i := y) (by omega) (by omega))) (elt.len _)) (VW.op (fun wq eq => R.ixS Try.runUnderlying41 Try.sizeOf44 rfl rfl (by omega) (by omega) hs2.ad) (VW.wr0 (fun wq eq => R.storeSt elt Try.sizeOf44 (hs2.ext (e22c.trans eq)) rfl (i := y) (by omega) (by omega) rfl) (VW.nil fun w5 hs5 => VL.op (R.ixS Try.runUnderlying41 Try.sizeOf44 rfl rfl (by omega) (by omega) hs2.ad) (VL.storeSt elt Try.sizeOf44 hs5 rfl (i := y - 1) (by omega) (by rw [Array.size_setIfInBounds]; exact (by omega)) rfl fun w6 hs6 => VL.nil (V.region (VL.op (R.mvI rfl) (VL.op (R.add rfl rfl (by omega) (by omega)) (VL.op (R.asI rfl) (VL.nil (⟨(y + 1, swp d5 y (y - 1)), rfl, ⟨by dsimp only; omega, by dsimp only; rw [sz_swp]; exact g2, ?_, hs6⟩, by dsimp only; omega⟩))))))))))))))))))))))))))))))))) (fun c109 => V.exit (⟨(), rfl, ?_⟩)))))))))
    · simp [ltf] <;> (rw [Bool.eq_iff_iff]; simp)
    · refine ⟨⟨by omega, by omega⟩, (hs2.ext e22c).to ?_⟩
      have h : ltf cf d5[y]! d5[y - 1]! = false := by simpa using c124
      rw [← g3, shiftUp, if_pos (by omega), h]; rfl
    · dsimp only
      have h : ltf cf d5[y]! d5[y - 1]! = true := by simpa using c124
      rw [← g3, shiftUp.eq_def (ltf cf) B y d5, if_pos (by omega), h]; rfl
    · refine ⟨⟨by omega, by omega⟩, hs2.to ?_⟩
      rw [← g3, shiftUp, if_neg (by omega)]
  · have e4 : d4 = d3 := by rw [hd4, if_neg (by omega)]
    rw [e4]; exact ⟨⟨by omega, by omega⟩, hBC65⟩
  · dsimp only
    rw [hst (by omega), if_neg hBB1.1.1, if_neg hBB1.1.2]
  · have h : 5 - s = 0 := by omega
    rw [← h4, h]; rfl
  · have h : 5 - s = 0 := by omega
    rw [← h4, h]; exact hs1
end
end SrtC
end Go.Proofs.Ytbckofoibdljgaa
