/- Bond: the walk of the test for contradictions. -/
import Derived.Test.YtlefkkelohhnkaaB14
namespace Go.Proofs.Ytlefkkelohhnkaa
open Go.Vc

theorem JnS.ext {es : List (Nat × Nat)} {n B : Nat} {a : Option Addr} {cap i : Nat} {c : List Int} {w w' : World} (h : JnS es n B a cap i c w) (e : Ext w w') : JnS es n B a cap i c w' := ⟨h.own.ext e, h.cls, h.len, h.root⟩
structure TstC (es : List (Nat × Nat)) (n B : Nat) (a : Option Addr) (cap i cb b : Nat) (p : Int × Int) (w w' : World) : Prop where
  j : ∃ c, JnS es n B a cap i c w'
  cell : Blk w' cb (.cells #[.slice a n cap] 49 (0, 0))
  pair : Blk w' b (.cells (encPr p).toArray 48 (0, 0))
  m : Vc.Mod (aBlk a) w w'
theorem TstC.head {es : List (Nat × Nat)} {n B : Nat} {a : Option Addr} {cap i cb b : Nat} {p : Int × Int} {w w' : World} (h : TstC es n B a cap i cb b p w w') (hcb : ¬ aBlk a cb) (hb : ¬ aBlk a b) (hm : n ≤ 1000000) (k : Int) (hk0 : 0 ≤ k) (hk : k.toNat < n) :
    Rets Try.prog 27 #[.slice a n cap, .int .i64 k] w' fun u w'' => u = .int .i64 (hdF es i k.toNat : Nat) ∧ TstC es n B a cap i cb b p w w'' := by
  obtain ⟨⟨c, hJ⟩, h2, h3, h4⟩ := h
  have hs := head_specN a cap B n c k.toNat w' hJ.len hJ.own hJ.cls hk hm
  rw [show ((k.toNat : Nat) : Int) = k by omega] at hs
  refine Rets.mono hs ?_
  rintro u w'' ⟨c', rfl, ho, hA, m, s⟩
  exact ⟨by rw [hJ.root _ hk], ⟨⟨c', ⟨ho, hA.cls, hA.len.trans hJ.len, fun j hj => (hA.root j (by rw [hJ.len]; exact hj)).trans (hJ.root j hj)⟩⟩, h2.mod m hcb, h3.mod m hb, h4.then m fun _ _ h => h⟩⟩
theorem test_spec (es : List (Nat × Nat)) (n B : Nat) (a : Option Addr) (cap i cb : Nat) (c : List Int) (p : Int × Int) (w : World) (hJ : JnS es n B a cap i c w) (hcb : Blk w cb (.cells #[.slice a n cap] 49 (0, 0))) (hne : ¬ aBlk a cb) (hm : n ≤ 1000000)
    (hp1 : 0 ≤ p.1 ∧ p.1.toNat < n) (hp2 : 0 ≤ p.2 ∧ p.2.toNat < n) :
    RetsY Try.prog 35 #[.agg (encPr p).toArray, .pointer (some ⟨cb, 0, none⟩)] w (fun _ : Unit => .bool (decide (hdF es i p.1.toNat ≠ hdF es i p.2.toNat))) (fun _ w' => (∃ c', JnS es n B a cap i c' w') ∧ Blk w' cb (.cells #[.slice a n cap] 49 (0, 0)) ∧ Vc.Mod (aBlk a) w w') := by
  refine enter (args := [_, _]) Try.func35 rfl Try.ntmps35 (by kernel_rfl) rfl ?_
  refine V.seq (V.region (VL.box (v := .agg _) rfl fun b0_0 w0_0 hb0_0 e0_0 hB0_0 => VL.op (R.asB rfl) (VL.nil (V.seq (?_)))))
  have hb : ¬ aBlk a b0_0 := fun h => by have := hJ.own.lt _ h; omega
  refine V.regionQ mixed 10 (by kernel_rfl) rfl ((fun w' => TstC es n B a cap i cb b0_0 p w0_0 w')) (⟨⟨c, hJ.ext (e0_0.trans (Ext.drawn _))⟩, hcb.ext (e0_0.trans (Ext.drawn _)), hB0_0.ext (Ext.drawn _), Ext.mod (Ext.drawn _)⟩) (VQ.op (fun wq eq => R.ld1 Try.isAgg49 rfl (eq.cell.cell 0)) (VQ.op (fun wq eq => R.ixA Try.runUnderlying48 Try.sizeOf3 rfl rfl (by decide) (by decide)) (VQ.op (fun wq eq => R.ld1 Try.isAgg3 rfl (eq.pair.cell 0)) (VQ.enter (fun _ => R.call Try.call27 rfl) (fun wq eq => eq.head hne hb hm p.1 hp1.1 hp1.2) (VQ.op (fun wq eq => R.ld1 Try.isAgg49 rfl (eq.cell.cell 0)) (VQ.op (fun wq eq => R.ixA Try.runUnderlying48 Try.sizeOf3 rfl rfl (by decide) (by decide)) (VQ.op (fun wq eq => R.ld1 Try.isAgg3 rfl (eq.pair.cell 1)) (VQ.enter (fun _ => R.call Try.call27 rfl) (fun wq eq => eq.head hne hb hm p.2 hp2.1 hp2.2) (VQ.op (fun wq eq => R.neq rfl rfl) (VQ.op (fun wq eq => R.asB rfl) (VQ.nil fun w1q e1q => VL.nil (V.ret (fret1 (v := .bool _) rfl rfl rfl (?_))))))))))))))
  exact ⟨(), congrArg Value.bool (decide_eq_decide.2 (by omega)), e1q.j, e1q.cell, (Ext.mod e0_0).then e1q.m fun _ _ h => h⟩
/-- What a test tells, pair by pair. -/
def tst (h : Nat → Nat) (p : Int × Int) : Bool := decide (h p.1.toNat ≠ h p.2.toNat)
section
variable {ι : Type}
theorem indexFn_spec (g : FuncId) (Cv : List Value) (f : Int × Int → Bool) (S : World → Prop) (T : Nat → Prop) (a : Option Addr) (ca : Nat) (l : List (Int × Int)) (w : World) (hfn : IsFn Try.prog g)
    (hdo : ∀ w p, p ∈ l → S w → RetsY Try.prog g ([Value.agg (encPr p).toArray] ++ Cv).toArray w (fun _ : Unit => .bool (f p)) (fun _ w' => S w' ∧ Vc.Mod T w w'))
    (hSe : ∀ w w', S w → Ext w w' → S w') (h0 : S w) (hL : PrSl w a l) (hLT : ∀ k, aBlk a k → ¬ T k) (hm : l.length ≤ 1000000) :
    RetsY Try.prog 49 #[.slice a l.length ca, .func (.func g) #[] Cv.toArray] w (fun _ : Unit => .int .i64 (match l.findIdx? f with | some i => (i : Int) | none => -1)) (fun _ w' => S w' ∧ Vc.Mod T w w') := by
  refine enter (args := [_, _]) Try.func49 rfl Try.ntmps49 (by kernel_rfl) rfl ?_
  refine V.seq (V.region (VL.op (R.asI rfl) (VL.nil (V.seq (V.seq (V.region (VL.op (R.mvS rfl) (VL.op (R.lenS Try.runUnderlying27 rfl) (VL.op (R.mvI rfl) (VL.nil (V.block (?_))))))))))))
  refine V.loop [0, 1, 7, 8] (fun k : Nat => [.slice a l.length ca, .func (.func g) #[] Cv.toArray, .int .i64 l.length, .int .i64 (k : Nat)])
    (fun k w' => k ≤ l.length ∧ S w' ∧ Vc.Mod T w w' ∧ PrSl w' a l ∧ ∀ i, i < k → f (l.getD i default) = false) (fun k => l.length - k) 0 rfl ⟨Nat.zero_le _, h0, Mod.refl _ _, hL, fun i h => absurd h (Nat.not_lt_zero i)⟩ ?_
  rintro ρ k w2 ⟨hk, hS, m2, hL2, hf⟩
  have hmem : k < l.length → l.getD k default ∈ l := fun h => by rw [show l.getD k default = l[k] by simp [List.getD, h]]; exact List.getElem_mem _
  refine V.seq (V.region (VL.op (R.lss rfl rfl) (VL.nil (V.seq (V.condP rfl (fun c9 => V.skip (V.seq (V.block (V.seq (V.region (VL.op (R.mvI rfl) (VL.op (R.asI rfl) (VL.nil (V.seq (?_)))))))))) (fun c9 => V.exit (V.seq (?_))))))))
  · have hkn : k < l.length := by omega
    refine V.region (VL.op (R.mvF rfl) (VL.op (R.mvS rfl) (VL.op (R.mvI rfl) (VL.op (R.ixS Try.runUnderlying27 Try.sizeOf48 rfl rfl (by omega) (by omega) (hL2.some (i := k) hkn)) (VL.op (R.ldA Try.isAgg48 Try.sizeOf48 rfl rfl ((show RowAt _ _ _ (encPr (l.getD k default)) from (hL2.row (i := k) hkn))) rfl) (VL.callCY rfl (hfn) rfl (hdo w2 (l.getD k default) (hmem hkn) hS) fun _ w4 ⟨hS4, m4⟩ => VL.nil (V.cond rfl (fun c16 => V.seq (V.region (VL.op (R.mvI rfl) (VL.op (R.asI rfl) (VL.nil (V.ret (fret1 (v := .int _ _) rfl rfl rfl (?_)))))))) (fun c16 => V.skip (V.region (VL.op (R.add rfl rfl (by omega) (by omega)) (VL.op (R.mvI rfl) (VL.nil (?_)))))))))))))
    · have e := findIdx_at f l k hkn hf (by assumption)
      exact ⟨(), by rw [e], hS4, m2.then m4 fun _ _ h => h⟩
    · refine ⟨k + 1, rfl, ⟨by omega, hS4, m2.then m4 fun _ _ h => h, hL2.mod m4 fun ad had h => hLT _ ⟨ad, had, rfl⟩ h, fun i hi => ?_⟩, by omega⟩
      by_cases h : i = k
      · subst h; assumption
      · exact hf i (by omega)
  · have hkn : k = l.length := by omega
    subst hkn
    have e := findIdx_none f l hf
    refine V.region (VL.op (R.asI rfl) (VL.nil (V.ret (fret1 (v := .int _ _) rfl rfl rfl (?_)))))
    exact ⟨(), by rw [e], hS, m2⟩
end
end Go.Proofs.Ytlefkkelohhnkaa

/- Bond: the walk of slices.DeleteFunc. -/
namespace Go.Proofs.Ytlefkkelohhnkaa
open Go.Vc Go.Sort

theorem Srt.modT {w w' : World} {a : Option Addr} {d : Array (Int × Int)} {T : Nat → Prop} (h : Srt encPr 2 w a d w) (m : Vc.Mod T w w') (hT : ∀ k, aBlk a k → ¬ T k) : Srt encPr 2 w' a d w' := by
  obtain ⟨blk, off, c, ty, ha, hB, hc⟩ := h.c
  exact ⟨Mod.refl _ _, blk, off, c, ty, ha, hB.mod m (hT blk ⟨_, ha, rfl⟩), hc⟩
theorem sorted_srt (a : Option Addr) (cap : Nat) (o : List (Int × Int)) (w : World) (hs : 0 < o.length → Srt encPr 2 w a o.toArray w) (hcap : o.length ≤ cap) (hm : o.length ≤ 1000000) :
    RetsY Try.prog 28 #[.slice a o.length cap] w (fun _ : Unit => .slice a (setP o).length cap) (fun _ w' => TSl encPr 2 w' a (setP o) ∧ Vc.Mod (aBlk a) w w') := by
  by_cases h0 : o = []
  · subst h0
    refine Rets.mono (sorted_nil a cap w) ?_
    rintro u w' ⟨rfl, e⟩
    exact ⟨(), rfl, TSl.nil _ _ _ _, Ext.mod e⟩
  · have hp : 0 < o.length := List.length_pos_iff.2 h0
    have hlt : abk a < w.heap.size := by
      obtain ⟨blk, off, c, T, rfl, hB, _⟩ := (hs hp).c
      exact hB.lt
    have hs2 := sorted_spec a cap o.toArray w w (hs hp) hlt (by simpa using hp) (by simpa using hcap) (by simpa using hm)
    rw [List.size_toArray] at hs2
    refine Rets.mono hs2 ?_
    rintro u w' ⟨d, rfl, hd, e⟩
    refine ⟨(), by simp, ?_, hd.m⟩
    have := hd.sl eltPr
    rw [e] at this
    simpa using this
/-- What is kept of the first 'm'. -/
def kpF (f : Int × Int → Bool) (l : List (Int × Int)) (m : Nat) : List (Int × Int) := (l.take m).filter fun p => !f p
theorem kpF_len (f : Int × Int → Bool) (l : List (Int × Int)) (m : Nat) : (kpF f l m).length ≤ m := by
  unfold kpF
  have := List.length_filter_le (fun p => !f p) (l.take m)
  rw [List.length_take] at this; omega
theorem kpF_succ (f : Int × Int → Bool) (l : List (Int × Int)) (m : Nat) (hm : m < l.length) : kpF f l (m + 1) = kpF f l m ++ (if f (l.getD m default) then [] else [l.getD m default]) := by
  unfold kpF
  rw [List.take_succ_eq_append_getElem hm, List.filter_append]
  congr 1
  rw [show l.getD m default = l[m] by simp [List.getD, hm]]
  cases h : f l[m] <;> simp [h]
theorem kpF_short (f : Int × Int → Bool) (l : List (Int × Int)) (k m : Nat) (hk : k < l.length) (hf : f (l.getD k default) = true) (hm : k + 1 ≤ m) (hml : m ≤ l.length) : (kpF f l m).length < m := by
  induction m with
  | zero => omega
  | succ m ih =>
    rw [kpF_succ f l m (by omega)]
    by_cases h : m = k
    · subst h
      rw [if_pos hf, List.append_nil]
      have := kpF_len f l m; omega
    · have := ih (by omega) (by omega)
      rw [List.length_append]; split <;> simp <;> omega
/-- What the row holds while it is deleted from. -/
structure DlJ (f : Int × Int → Bool) (l : List (Int × Int)) (a : Option Addr) (m : Nat) (d : Array (Int × Int)) (w : World) : Prop where
  s : Srt encPr 2 w a d w
  sz : d.size = l.length
  lo : ∀ q, q < (kpF f l m).length → d[q]! = (kpF f l m).getD q default
  hi : ∀ q, m ≤ q → q < l.length → d[q]! = l.getD q default
set_option maxRecDepth 100000 in
set_option maxHeartbeats 4000000 in
theorem deleteFn_spec (g : FuncId) (Cv : List Value) (f : Int × Int → Bool) (S : World → Prop) (T : Nat → Prop) (a : Option Addr) (cap B : Nat) (l : List (Int × Int)) (w : World) (hfn : IsFn Try.prog g)
    (hdo : ∀ w p, p ∈ l → S w → RetsY Try.prog g ([Value.agg (encPr p).toArray] ++ Cv).toArray w (fun _ : Unit => .bool (f p)) (fun _ w' => S w' ∧ Vc.Mod T w w'))
    (hSe : ∀ w w', S w → Vc.Mod (aBlk a) w w' → S w') (h0 : S w) (hO : OwnT encPr 2 48 B w a cap l) (hLT : ∀ k, aBlk a k → ¬ T k) (hT : ∀ k, T k → k < w.heap.size) (hm : l.length ≤ 1000000) :
    RetsY Try.prog 34 #[.slice a l.length cap, .func (.func g) #[] Cv.toArray] w (fun _ : Unit => .slice a (l.filter fun p => !f p).length cap) (fun _ w' => S w' ∧ Vc.Mod (fun k => aBlk a k ∨ T k) w w' ∧ (0 < (l.filter fun p => !f p).length → Srt encPr 2 w' a (l.filter fun p => !f p).toArray w')) := by
  have hcap := capLe hO
  have elt := eltPr
  have hix := indexFn_spec g Cv f S T a cap l w hfn hdo (fun w w' h e => hSe w w' h (Ext.mod e)) h0 hO.sl hLT hm
  have hkl : kpF f l l.length = l.filter fun p => !f p := by unfold kpF; rw [List.take_length]
  cases hfi : l.findIdx? f with
  | none =>
    rw [hfi] at hix
    dsimp only at hix
    have hall : (l.filter fun p => !f p) = l := by
      rw [List.findIdx?_eq_none_iff] at hfi
      exact List.filter_eq_self.2 fun x hx => by rw [hfi x hx]; rfl
    refine enter (args := [_, _]) Try.func34 rfl Try.ntmps34 (by kernel_rfl) rfl ?_
    refine V.seq (V.region (VL.op (R.asS rfl) (VL.nil (V.seq (V.region (VL.op (R.mvS rfl) (VL.op (R.mvF rfl) (VL.callY Try.call49 rfl (hix) fun _ w1 ⟨hS1, m1⟩ => VL.op (R.asI rfl) (VL.nil (V.seq (V.seq (V.region (VL.op (R.mvI rfl) (VL.op (R.eql rfl rfl) (VL.nil (V.condP rfl (fun c12 => V.seq (V.region (VL.op (R.mvS rfl) (VL.op (R.asS rfl) (VL.nil (V.ret (fret1 (v := .slice _ _ _) rfl rfl rfl (?_)))))))) (fun c12 => V.skip (V.seq (V.seq (?_))))))))))))))))))))
    · exact ⟨(), by rw [hall], hS1, m1.weaken fun _ _ h => .inr h, by rw [hall]; exact fun h => Srt.modT (Srt.of_own (d := l.toArray) eltPr (by simpa using hO) (by simpa using h)) m1 hLT⟩
    · exact absurd rfl ‹¬ ((-1 : Int) = -1)›
  | some i =>
    rw [hfi] at hix
    dsimp only at hix
    obtain ⟨hi, hfi1, hfi2⟩ := List.findIdx?_eq_some_iff_getElem.1 hfi
    have hf1 : f (l.getD i default) = true := by rw [show l.getD i default = l[i] by simp [List.getD, hi]]; exact hfi1
    have hk0 : kpF f l i = l.take i := by
      unfold kpF
      refine List.filter_eq_self.2 fun x hx => ?_
      obtain ⟨j, hj, rfl⟩ := List.mem_iff_getElem.1 hx
      rw [List.length_take] at hj
      have := hfi2 j (by omega)
      rw [List.getElem_take]
      simpa using this
    have hk1 : kpF f l (i + 1) = l.take i := by rw [kpF_succ f l i hi, if_pos hf1, List.append_nil, hk0]
    have hsO := Srt.of_own (d := l.toArray) eltPr (by simpa using hO) (by simp; omega)
    refine enter (args := [_, _]) Try.func34 rfl Try.ntmps34 (by kernel_rfl) rfl ?_
    refine V.seq (V.region (VL.op (R.asS rfl) (VL.nil (V.seq (V.region (VL.op (R.mvS rfl) (VL.op (R.mvF rfl) (VL.callY Try.call49 rfl (hix) fun _ w1 ⟨hS1, m1⟩ => VL.op (R.asI rfl) (VL.nil (V.seq (V.seq (V.region (VL.op (R.mvI rfl) (VL.op (R.eql rfl rfl) (VL.nil (V.condP rfl (fun c12 => V.seq (V.region (VL.op (R.mvS rfl) (VL.op (R.asS rfl) (VL.nil (V.ret (fret1 (v := .slice _ _ _) rfl rfl rfl (?_)))))))) (fun c12 => V.skip (V.seq (V.seq (?_))))))))))))))))))))
    · exact absurd ‹_› (show ¬ ((i : Int) = -1) by omega)
    have hJ1 : DlJ f l a (i + 1) l.toArray w1 := ⟨Srt.modT hsO m1 hLT, by simp, fun q hq => ?_, fun q h1 h2 => by rw [← getD_bang]⟩
    · refine V.region (VL.op (R.mvI rfl) (VL.op (R.add rfl rfl (by omega) (by omega)) (VL.op (R.asI rfl) (VL.nil (V.block (?_))))))
      refine V.loop [0, 1, 5, 6] (fun x : Nat × Array (Int × Int) => [.slice a l.length cap, .func (.func g) #[] Cv.toArray, .int .i64 ((kpF f l x.1).length : Nat), .int .i64 (x.1 : Nat)])
        (fun x w' => i + 1 ≤ x.1 ∧ x.1 ≤ l.length ∧ S w' ∧ Vc.Mod (fun k => aBlk a k ∨ T k) w w' ∧ DlJ f l a x.1 x.2 w') (fun x => l.length - x.1) (i + 1, l.toArray) (by dsimp only; rw [hk1, List.length_take, Nat.min_eq_left (by omega)]; rfl) ⟨Nat.le_refl _, hi, hS1, m1.weaken fun _ _ h => .inr h, hJ1⟩ ?_
      rintro ρ ⟨m, d⟩ w2 ⟨g1, g2, hS2, m2, hJ⟩
      dsimp only at g1 g2 hS2 m2 hJ ⊢
      have hsz := hJ.sz
      have hsh := kpF_short f l i m hi hf1 g1 g2
      refine V.seq (V.seq (V.region (VL.op (R.mvI rfl) (VL.op (R.mvS rfl) (VL.op (R.lenS Try.runUnderlying27 rfl) (VL.op (R.lss rfl rfl) (VL.nil (V.condP rfl (fun c19 => V.skip (V.seq (V.block (V.seq (V.region (VL.op (R.mvS rfl) (VL.op (R.mvI rfl) (VL.op (R.ixS Try.runUnderlying27 Try.sizeOf48 rfl rfl (by omega) (by omega) (hJ.s.ad)) (VL.op (R.ldA Try.isAgg48 Try.sizeOf48 rfl rfl ((hJ.s.row elt (i := m) rfl (by omega))) rfl) (VL.allocSt (v := .agg (encPr (d[m]!)).toArray) Try.zeroValue48 Try.sizeOf48 rfl rfl rfl rfl rfl fun b7_4 w7_4 hb7_4 e7_4 hB7_4 => VL.nil (V.seq (?_)))))))))))) (fun c19 => V.exit (V.seq (?_)))))))))))
      · have hml : m < l.length := by omega
        have hdm : d[m]! = l.getD m default := hJ.hi m (Nat.le_refl _) hml
        have hmem : d[m]! ∈ l := by rw [hdm, show l.getD m default = l[m] by simp [List.getD, hml]]; exact List.getElem_mem _
        have hbT : ¬ T b7_4 := fun h => by have := hT _ h; have := m2.size; omega
        refine V.region (VL.op (R.mvF rfl) (VL.op (R.ldA Try.isAgg48 Try.sizeOf48 rfl rfl ((hB7_4.ext (Mod.refl _ _)).rowAt 0 2) rfl) (VL.callCY rfl (hfn) rfl (hdo w7_4 d[m]! hmem (hSe _ _ hS2 (Ext.mod e7_4))) fun _ w8 ⟨hS8, m8⟩ => VL.op (R.not rfl) (VL.nil (V.cond rfl (fun c29 => V.seq (?_)) (fun c29 => V.skip (V.region (VL.op (R.mvI rfl) (VL.op (R.add rfl rfl (by omega) (by omega)) (VL.op (R.asI rfl) (VL.nil (?_))))))))))))
        · have hfm : f d[m]! = false := by revert c29; cases f d[m]! <;> simp
          have hS8s := Srt.modT (hJ.s.ext e7_4).rb m8 hLT
          have hB8 := hB7_4.mod m8 hbT
          have hnew : kpF f l (m + 1) = kpF f l m ++ [d[m]!] := by rw [kpF_succ f l m hml, ← hdm, hfm]; rfl
          have hlen : (kpF f l (m + 1)).length = (kpF f l m).length + 1 := by rw [hnew]; simp
          refine V.region (VL.op (R.mvS rfl) (VL.op (R.mvI rfl) (VL.op (R.ldA Try.isAgg48 Try.sizeOf48 rfl rfl (hB8.rowAt 0 2) rfl) (VL.op (R.ixS Try.runUnderlying27 Try.sizeOf48 rfl rfl (by omega) (by omega) hS8s.ad) (VL.storeSt elt Try.sizeOf48 hS8s rfl (i := (kpF f l m).length) rfl (by omega) rfl fun w9 hs9 => VL.nil (V.region (VL.op (R.mvI rfl) (VL.op (R.add rfl rfl (by omega) (by omega)) (VL.op (R.asI rfl) (VL.nil (V.region (VL.op (R.mvI rfl) (VL.op (R.add rfl rfl (by omega) (by omega)) (VL.op (R.asI rfl) (VL.nil (?_))))))))))))))))
          refine ⟨(m + 1, d.setIfInBounds (kpF f l m).length d[m]!), by dsimp only; rw [hlen]; rfl, ⟨by dsimp only; omega, by dsimp only; omega, hSe _ _ hS8 hs9.m, ((m2.ext e7_4).then m8 fun _ _ h => .inr h).then hs9.m fun _ _ h => .inl h, ⟨hs9.rb, by simp [hsz], fun q hq => ?_, fun q h1 h2 => ?_⟩⟩, by dsimp only; omega⟩
          · dsimp only at hq ⊢
            rw [hlen] at hq
            by_cases hqe : q = (kpF f l m).length
            · subst hqe
              rw [getElem!_pos _ _ (by simp; omega), Array.getElem_setIfInBounds_self, hnew]
              simp [List.getD]
            · rw [getElem!_pos _ q (by simp; omega), Array.getElem_setIfInBounds_ne (by omega) (Ne.symm hqe), ← getElem!_pos d q (by omega), hJ.lo q (by omega), hnew]
              simp [List.getD, List.getElem?_append_left (show q < (kpF f l m).length by omega)]
          · dsimp only at h1 ⊢
            rw [getElem!_pos _ q (by simp; omega), Array.getElem_setIfInBounds_ne (by omega) (by omega), ← getElem!_pos d q (by omega)]
            exact hJ.hi q (by omega) h2
        · have hfm : f d[m]! = true := by revert c29; cases f d[m]! <;> simp
          have hnew : kpF f l (m + 1) = kpF f l m := by rw [kpF_succ f l m hml, ← hdm, if_pos hfm, List.append_nil]
          refine ⟨(m + 1, d), by dsimp only; rw [hnew]; rfl, ⟨by dsimp only; omega, by dsimp only; omega, hS8, (m2.ext e7_4).then m8 fun _ _ h => .inr h, ⟨Srt.modT (hJ.s.ext e7_4).rb m8 hLT, hsz, fun q hq => ?_, fun q h1 h2 => ?_⟩⟩, by dsimp only; omega⟩
          · dsimp only at hq ⊢
            rw [hnew] at hq ⊢
            exact hJ.lo q hq
          · dsimp only at h1
            exact hJ.hi q (by omega) h2
      · have hme : m = l.length := by omega
        subst hme
        have hs2 := hJ.s
        refine V.region (VL.op (R.mvS rfl) (VL.op (R.mvI rfl) (VL.op (R.slLo Try.runUnderlying27 Try.sizeOf48 rfl rfl (by omega) (by omega)) (VL.clearS eltPr Try.runUnderlying27 Try.zeroValue48 rfl rfl (hs2) rfl (by omega) (Or.inl (by omega)) fun w11 d3 hz3 hq3 hs3 => VL.nil (V.seq (V.region (VL.op (R.mvS rfl) (VL.op (R.mvI rfl) (VL.op (R.slHi Try.runUnderlying27 Try.sizeOf48 rfl rfl (by omega) (by omega)) (VL.op (R.asS rfl) (VL.nil (V.ret (fret1 (v := .slice _ _ _) rfl rfl rfl (?_))))))))))))))
        have hlq : d3.toList = l.filter fun p => !f p := by
          rw [← hkl]
          refine List.ext_getElem (by simpa using hz3) fun q h1 h2 => ?_
          have h4 := hJ.lo q h2
          rw [← hq3 q h2, getElem!_pos d3 q (by simpa using h1)] at h4
          have h5 : d3.toList[q] = d3[q]'(by simpa using h1) := by simp
          rw [h5, h4]
          simp [List.getD, h2]
        obtain ⟨b0, o0, ha⟩ := hs2.ad
        refine ⟨(), ?_, hSe _ _ hS2 hs3.m, m2.then hs3.m fun _ _ h => .inl h, ?_⟩
        · rw [← hkl, ha, cutA0]; rfl
        · intro _
          have := hs3.rb
          rw [← hlq]; simpa using this
    · rw [hk1] at hq ⊢
      rw [← getD_bang]
      rw [List.length_take] at hq
      simp [List.getD, List.getElem?_take, show q < i by omega]
end Go.Proofs.Ytlefkkelohhnkaa

/- Bond: the walk of Contradictions. -/
namespace Go.Proofs.Ytlefkkelohhnkaa
open Go.Vc

/-- The pairs of records that are decided to be different, but bound. -/
def conP (recs : List Rec) (l : List Dec) : List (Int × Int) := setP ((dfR recs l).filter fun p => !tst (hdR recs l) p)
set_option maxHeartbeats 4000000 in
theorem contra_spec (recs : List Rec) (l : List Dec) (ra la : Option Addr) (rc lc : Nat) (w : World) (hm1 : recs.length ≤ 1000000) (hm2 : l.length ≤ 1000000) (hR : RecSl w ra recs) (hL : DecSl w la l) :
    RetsX Try.prog 18 #[.slice ra recs.length rc, .slice la l.length lc] w (fun x : Option Addr × Nat => .slice x.1 (conP recs l).length x.2) (fun x w' => TSl encPr 2 w' x.1 (conP recs l)) := by
  refine enter (args := [_, _]) Try.func18 rfl Try.ntmps18 (by kernel_rfl) rfl ?_
  refine V.seq (V.region (VL.op (R.asS rfl) (VL.nil (V.seq (V.region (VL.op (R.mvS rfl) (VL.op (R.mvS rfl) (VL.callX Try.call26 rfl (split_spec recs l ra la rc lc _ hm1 hm2 (hR.ext (Mod.refl _ _)) (hL.ext (Mod.refl _ _))) fun x1 w1 hS e1 => VL.op (R.mvT rfl) (VL.op (R.extr rfl rfl) (VL.op (R.extr rfl rfl) (VL.allocSt (v := .slice _ _ _) Try.zeroValue49 Try.sizeOf49 rfl rfl rfl rfl rfl fun b1_6 w1_6 hb1_6 e1_6 hB1_6 => VL.op (R.asS rfl) (VL.nil (V.seq (?_))))))))))))))
  obtain ⟨c0, hJ0⟩ := hS.cls
  have hP := hS.prs.ext e1_6
  have hdl := dfR_len recs l
  have hb1 : ¬ aBlk x1.1.1 b1_6 := fun h => by have := hJ0.own.lt _ h; omega
  have hb2 : ¬ aBlk x1.2.1 b1_6 := fun h => by have := hS.prs.lt _ h; omega
  have hJ1 := hJ0.ext e1_6
  have hpx : ∀ p ∈ dfR recs l, (0 ≤ p.1 ∧ p.1.toNat < recs.length) ∧ (0 ≤ p.2 ∧ p.2.toNat < recs.length) := fun p hp => by
    obtain ⟨x, y, hpe, hx, hy⟩ := dfR_mem recs l p hp
    rw [hpe]; unfold mkP; refine ⟨⟨?_, ?_⟩, ?_, ?_⟩ <;> dsimp only <;> omega
  have hs := deleteFn_spec 35 [.pointer (some ⟨b1_6, 0, none⟩)] (tst (hdR recs l)) (fun w' => (∃ c', JnS (evs recs 1 (effL l)) recs.length w.heap.size x1.1.1 x1.1.2 (evs recs 1 (effL l)).length c' w') ∧ Blk w' b1_6 (.cells #[.slice x1.1.1 recs.length x1.1.2] 49 (0, 0))) (aBlk x1.1.1) x1.2.1 x1.2.2 w.heap.size (dfR recs l) w1_6 Try.call35
    (fun w' p hp ⟨⟨c', hJ'⟩, hc'⟩ => Rets.mono (test_spec _ _ _ _ _ _ _ c' p w' hJ' hc' hb1 hm1 (hpx p hp).1 (hpx p hp).2) fun u w'' ⟨i, hu, h1, h2, h3⟩ => ⟨i, hu, ⟨h1, h2⟩, h3⟩)
    (fun w' w'' ⟨⟨c', hJ'⟩, hc'⟩ m => ⟨⟨c', hJ'.own.mod m fun y hy h => hS.sep y hy h, hJ'.cls, hJ'.len, hJ'.root⟩, hc'.mod m hb2⟩)
    ⟨⟨c0, hJ1⟩, hB1_6⟩ hP (fun y hy h => hS.sep y h hy) (fun y hy => hJ1.own.lt y hy) (by omega)
  have hcap := capLe hS.prs
  have hfl := List.length_filter_le (fun p => !tst (hdR recs l) p) (dfR recs l)
  have hcap' : (dfR recs l).length ≤ x1.2.2 := hcap
  refine V.region (VL.op (R.mvS rfl) (VL.op (R.mkFn rfl rfl) (VL.callY Try.call34 rfl (hs) fun _ w2 ⟨_, m2, hK⟩ => VL.callY Try.call28 rfl (sorted_srt x1.2.1 x1.2.2 _ w2 hK (by omega) (by omega)) fun _ w3 ⟨hT, m3⟩ => VL.op (R.asS rfl) (VL.nil (V.ret (fret1 (v := .slice _ _ _) rfl rfl rfl (?_)))))))
  refine ⟨x1.2, rfl, hT, Mod.ownA (Mod.ownA (e1.trans e1_6) m2 fun y hy => ?_) m3 fun y hy => hS.prs.ge y hy⟩
  exact hy.elim (hS.prs.ge y) (hJ0.own.ge y)
end Go.Proofs.Ytlefkkelohhnkaa

/- Bond: the heads of the reference: one pass is enough. -/
namespace Go.Proofs.Ytlefkkelohhnkaa
open Go.Vc

theorem hdF_succ (es : List (Nat × Nat)) (i j : Nat) {p : Nat × Nat} (h : es[i]? = some p) : hdF es (i + 1) j = if hdF es i j = max (hdF es i p.1) (hdF es i p.2) then min (hdF es i p.1) (hdF es i p.2) else hdF es i j := by
  have e : es.getD i (0, 0) = p := by simp [List.getD, h]
  rw [hdF, e]
theorem hdF_pair (es : List (Nat × Nat)) (i : Nat) {p : Nat × Nat} (h : es[i]? = some p) : hdF es (i + 1) p.1 = hdF es (i + 1) p.2 := by
  rw [hdF_succ es i p.1 h, hdF_succ es i p.2 h]
  generalize hdF es i p.1 = a
  generalize hdF es i p.2 = b
  split <;> split <;> omega
theorem hdF_keep (es : List (Nat × Nat)) (x y i m : Nat) (h : hdF es i x = hdF es i y) (hm : i ≤ m) : hdF es m x = hdF es m y := by
  induction m with
  | zero => rw [show i = 0 by omega] at h; exact h
  | succ m ih =>
    by_cases e : i = m + 1
    · subst e; exact h
    · have := ih (by omega)
      rw [hdF, hdF, this]
/-- The pairs that have been joined have one head. -/
theorem hdF_all (es : List (Nat × Nat)) (i m : Nat) {p : Nat × Nat} (h : es[i]? = some p) (hm : i < m) : hdF es m p.1 = hdF es m p.2 := hdF_keep es _ _ (i + 1) m (hdF_pair es i h) hm
/-- A pair that has one head already changes nothing. -/
theorem hdF_skip (es : List (Nat × Nat)) (i : Nat) {p : Nat × Nat} (h : es[i]? = some p) (e : hdF es i p.1 = hdF es i p.2) (j : Nat) : hdF es (i + 1) j = hdF es i j := by
  rw [hdF_succ es i j h, e]
  split <;> omega
theorem hdF_le (es : List (Nat × Nat)) (m : Nat) : ∀ j, hdF es m j ≤ j := by
  induction m with
  | zero => intro j; exact Nat.le_refl _
  | succ m ih =>
    intro j
    rw [hdF]
    have := ih j
    split
    · rename_i h
      omega
    · exact this
end Go.Proofs.Ytlefkkelohhnkaa
