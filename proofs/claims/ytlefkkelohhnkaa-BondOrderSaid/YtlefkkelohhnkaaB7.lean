/- Bond: pairs: comparing, and putting into a list. -/
import Derived.Test.YtlefkkelohhnkaaB4
namespace Go.Proofs.Ytlefkkelohhnkaa
open Go.Vc

def cmpPr : Int × Int → Int × Int → Int := thenC (fun a b => cmpI a.1 b.1) fun a b => cmpI a.2 b.2
theorem cmpPr_cmp : Cmp cmpPr := thenC_cmp (cmpI_cmp.on fun a : Int × Int => a.1) (cmpI_cmp.on fun a : Int × Int => a.2)
theorem cmpPr_zero (a b : Int × Int) : cmpPr a b = 0 ↔ a = b := by
  obtain ⟨x, y⟩ := a
  obtain ⟨x', y'⟩ := b
  unfold cmpPr thenC
  simp only [cmpI_zero, Prod.mk.injEq]
  by_cases h : x = x'
  · rw [if_pos h, cmpI_zero]; simp [h]
  · rw [if_neg h, cmpI_zero]; simp [h]
theorem scompare_spec (a b : Option Addr) (ca cb : Nat) (p q : Int × Int) (w : World) (hS : IntSl w a [p.1, p.2]) (hT : IntSl w b [q.1, q.2]) :
    RetsP Try.prog 43 #[.slice a 2 ca, .slice b 2 cb] w (.int .i64 (cmpPr p q)) := by
  refine enter (args := [_, _]) Try.func43 rfl Try.ntmps43 (by kernel_rfl) rfl ?_
  refine V.seq (V.region (VL.op (R.asI rfl) (VL.nil (V.seq (V.seq (V.region (VL.op (R.mvS rfl) (VL.op (R.lenS Try.runUnderlying26 rfl) (VL.op (R.mvI rfl) (VL.nil (V.block (?_))))))))))))
  refine V.loop [0, 1, 9, 10, 11] (fun k : Nat => [.slice a 2 ca, .slice b 2 cb, .slice a 2 ca, .int .i64 2, .int .i64 k]) (fun k w' => k ≤ 2 ∧ (0 < k → p.1 = q.1) ∧ (1 < k → p.2 = q.2) ∧ Ext w w') (fun k => 2 - k) 0 rfl ⟨by omega, by omega, by omega, Mod.refl _ _⟩ ?_
  rintro ρ k w1 ⟨hk, h1, h2, e⟩
  refine V.seq (V.region (VL.op (R.lss rfl rfl) (VL.nil (V.seq (V.condP rfl (fun c12 => V.skip (V.seq (V.block (V.seq (V.region (VL.op (R.mvI rfl) (VL.op (R.ixS Try.runUnderlying26 Try.sizeOf3 rfl rfl (by omega) (by omega) (hS.some (i := k) (show k < 2 by omega))) (VL.op (R.ld1 Try.isAgg3 rfl ((((hS.ext e).row (i := k) (show k < 2 by omega)).cell (i := 0) rfl))) (VL.op (R.asI rfl) (VL.op (R.asI rfl) (VL.nil (V.seq (V.seq (V.region (VL.op (R.mvI rfl) (VL.op (R.mvS rfl) (VL.op (R.lenS Try.runUnderlying26 rfl) (VL.op (R.geq rfl rfl) (VL.nil (V.condP rfl (fun c19 => V.seq (V.region (VL.op (R.asI rfl) (VL.nil (V.ret (fret1 (v := .int _ _) rfl rfl rfl (⟨?_, e⟩))))))) (fun c19 => V.skip (V.seq (V.region (VL.op (R.mvS rfl) (VL.op (R.mvI rfl) (VL.op (R.ixS Try.runUnderlying26 Try.sizeOf3 rfl rfl (by omega) (by omega) (hT.some (i := k) (show k < 2 by omega))) (VL.op (R.ld1 Try.isAgg3 rfl ((((hT.ext e).row (i := k) (show k < 2 by omega)).cell (i := 0) rfl))) (VL.op (R.asI rfl) (VL.nil (V.seq (V.region (VL.op (R.mvI rfl) (VL.op (R.mvI rfl) (VL.callP Try.call45 rfl (cmpI_spec _ _ _) fun w7_2 e7_2 => VL.op (R.asI rfl) (VL.nil (V.seq (V.region (VL.op (R.mvI rfl) (VL.op (R.neq rfl rfl) (VL.nil (V.condP rfl (fun c28 => V.seq (V.region (VL.op (R.mvI rfl) (VL.op (R.asI rfl) (VL.nil (V.ret (fret1 (v := .int _ _) rfl rfl rfl (⟨?_, (e.trans e7_2)⟩)))))))) (fun c28 => V.skip (V.region (VL.op (R.add rfl rfl (by omega) (by omega)) (VL.op (R.mvI rfl) (VL.nil (⟨k + 1, rfl, ⟨by omega, ?_, ?_, (e.trans e7_2)⟩, by omega⟩))))))))))))))))))))))))))))))))))))))))))))))) (fun c12 => V.exit (V.seq (V.seq (V.region (VL.op (R.mvS rfl) (VL.op (R.lenS Try.runUnderlying26 rfl) (VL.op (R.mvS rfl) (VL.op (R.lenS Try.runUnderlying26 rfl) (VL.op (R.lss rfl rfl) (VL.nil (V.condP rfl (fun c35 => V.seq (V.region (VL.op (R.asI rfl) (VL.nil (V.ret (fret1 (v := .int _ _) rfl rfl rfl (⟨?_, e⟩))))))) (fun c35 => V.skip (V.seq (V.region (VL.op (R.asI rfl) (VL.nil (V.ret (fret1 (v := .int _ _) rfl rfl rfl (⟨?_, e⟩))))))))))))))))))))))))
  · exfalso; omega
  · rcases (show k = 0 ∨ k = 1 by omega) with rfl | rfl
    · have c28 : cmpI p.1 q.1 ≠ 0 := c28
      show Value.int .i64 (cmpI p.1 q.1) = _
      unfold cmpPr thenC; rw [if_neg c28]
    · show Value.int .i64 (cmpI p.2 q.2) = _
      unfold cmpPr thenC; rw [if_pos ((cmpI_zero _ _).2 (h1 (by omega)))]
  · intro _
    by_cases h0 : 0 < k
    · exact h1 h0
    · obtain rfl : k = 0 := by omega
      exact (cmpI_zero _ _).1 (Classical.not_not.1 c28)
  · intro _
    by_cases h0 : 1 < k
    · exact h2 h0
    · obtain rfl : k = 1 := by omega
      exact (cmpI_zero _ _).1 (Classical.not_not.1 c28)
  · exfalso; omega
  · rw [(cmpPr_zero p q).2 (Prod.ext (h1 (by omega)) (h2 (by omega)))]
theorem prOrder_spec (p q : Int × Int) (w : World) : RetsP Try.prog 42 #[.agg (encPr p).toArray, .agg (encPr q).toArray] w (.int .i64 (cmpPr p q)) := by
  refine enter (args := [_, _]) Try.func42 rfl Try.ntmps42 (by kernel_rfl) rfl ?_
  refine V.seq (V.region (VL.box (v := .agg _) rfl fun b1 w1 hb1 e1 hX1 => VL.box (v := .agg _) rfl fun b2 w2 hb2 e2 hX2 => VL.op (R.asI rfl) (VL.nil (V.seq (V.regionQ mixed 4 (by kernel_rfl) rfl (fun w' => Ext _ w') (Ext.drawn _) (VQ.op (fun wq eq => R.slArr Try.runUnderlying48 Try.sizeOf3 rfl) (VQ.op (fun wq eq => R.slArr Try.runUnderlying48 Try.sizeOf3 rfl) (VQ.callP (fun _ _ h k => Mod.trans h k) Try.call43 rfl (fun wq eq => scompare_spec _ _ _ _ p q _ ((hX1.ext (e2.trans eq)).sl (off := 0) (fun _ _ => rfl) rfl) ((hX2.ext eq).sl (off := 0) (fun _ _ => rfl) rfl)) (VQ.op (fun wq eq => R.asI rfl) (VQ.nil fun w1q e1q => VL.nil (V.ret (fret1 (v := .int _ _) rfl rfl rfl (⟨rfl, ((e1.trans e2).trans e1q)⟩)))))))))))))

def mkP (x y : Int) : Int × Int := (min x y, max x y)
def ltP (p q : Int × Int) : Bool := decide (p.1 < q.1) || (decide (p.1 = q.1) && decide (p.2 < q.2))
theorem ltP_eq (p q : Int × Int) : ltP p q = decide (cmpPr p q < 0) := by
  unfold ltP cmpPr thenC
  by_cases h : p.1 = q.1
  · rw [if_pos ((cmpI_zero _ _).2 h), decide_eq_true h, Bool.true_and, decide_eq_false (by omega), Bool.false_or]
    exact decide_eq_decide.2 (cmpI_neg _ _).symm
  · rw [if_neg (fun e => h ((cmpI_zero _ _).1 e)), decide_eq_false h, Bool.false_and, Bool.or_false]
    exact decide_eq_decide.2 (cmpI_neg _ _).symm
def putK (l : List (Int × Int)) (p : Int × Int) : Nat := (l.takeWhile fun x => ltP x p).length
def putF (l : List (Int × Int)) (x y : Int) : List (Int × Int) :=
  if putK l (mkP x y) < l.length ∧ l.getD (putK l (mkP x y)) default = mkP x y then l else l.take (putK l (mkP x y)) ++ [mkP x y] ++ l.drop (putK l (mkP x y))
theorem putK_le (l : List (Int × Int)) (p : Int × Int) : putK l p ≤ l.length := by unfold putK; exact (List.takeWhile_prefix _).length_le
set_option maxRecDepth 100000 in
set_option maxHeartbeats 4000000 in
theorem put_spec (a : Option Addr) (ca : Nat) (l : List (Int × Int)) (x y : Int) (w : World) (hm : l.length ≤ 1000000) (hS : PrSl w a l) (hax : a = none → ca = 0) (hcap : l.length ≤ ca) :
    RetsX Try.prog 23 #[.slice a l.length ca, .int .i64 x, .int .i64 y] w (fun r : Option Addr × Nat => .slice r.1 (putF l x y).length r.2) (fun r w' => PrSl w' r.1 (putF l x y) ∧ (r.1 = none → r.2 = 0) ∧ (putF l x y).length ≤ r.2) := by
  refine enter (args := [_, _, _]) Try.func23 rfl Try.ntmps23 (by kernel_rfl) rfl ?_
  obtain ⟨p, hp⟩ : ∃ p, p = mkP x y := ⟨_, rfl⟩
  refine V.seq (V.region (VL.op (R.asS rfl) (VL.nil (V.seq (V.region (VL.op (R.mvI rfl) (VL.op (R.mvI rfl) (VL.op (R.min rfl rfl) (VL.op (R.mvI rfl) (VL.op (R.mvI rfl) (VL.op (R.max rfl rfl) (VL.op (R.buildArr Try.zeroValue48 Try.runUnderlying48 Try.sizeOf3 rfl) (VL.allocSt (v := .agg (encPr (mkP x y)).toArray) Try.zeroValue48 Try.sizeOf48 rfl rfl rfl rfl rfl fun b1_7 w1_7 hb1_7 e1_7 hB1_7 => VL.nil (V.seq (V.region (VL.op (R.asI rfl) (VL.nil (V.cut [0, 7, 8] (fun b1 : Nat => [.slice a l.length ca, .pointer (some ⟨b1, 0, none⟩), .int .i64 (putK l p : Nat)]) (fun b1 w' => Ext w w' ∧ Blk w' b1 (.cells (encPr p).toArray 48 (0, 0))) (V.block (?_)) (fun rgB0 xB0 wBB0 hBB0 => V.seq (V.seq (?_)))))))))))))))))))))
  · rw [← hp] at hB1_7
    refine V.loop [0, 7, 8] (fun k : Nat => [.slice a l.length ca, .pointer (some ⟨b1_7, 0, none⟩), .int .i64 (k : Nat)])
      (fun k w' => k ≤ l.length ∧ (∀ j, j < k → ltP (l.getD j default) p = true) ∧ Ext w1_7 w') (fun k => l.length - k) 0 rfl ⟨Nat.zero_le _, fun j h => absurd h (Nat.not_lt_zero j), Mod.refl _ _⟩ ?_
    rintro ρ k w2 ⟨hk, hb, e2⟩
    have hX := hB1_7.ext e2
    refine V.seq (V.seq (V.regionQCut mixed 34 (by kernel_rfl) rfl (fun w' => Ext _ w') (Ext.drawn _) [17, 18, 19, 20, 21, 22, 23, 24, 25, 26, 27, 28, 29, 30, 31, 32, 33, 34, 35, 36, 37, 38, 39, 40, 41, 42, 43, 44, 45, 46, 47, 48, 49, 50] 50 (.bool (decide (k < l.length) && ltP (l.getD k default) p)) rfl (VQ.op (fun wq eq => R.mvI rfl) (VQ.op (fun wq eq => R.mvS rfl) (VQ.op (fun wq eq => R.lenS Try.runUnderlying27 rfl) (VQ.op (fun wq eq => R.lss rfl rfl) (VQ.op (fun wq eq => R.mvB rfl) (VQ.andP rfl rfl (fun g3_4 => VQ.op (fun wq eq => R.mvS rfl) (VQ.gT rfl rfl (VQ.op (fun wq eq => R.mvI rfl) (VQ.gT rfl rfl (VQ.op (fun wq eq => R.ixS Try.runUnderlying27 Try.sizeOf48 rfl rfl (by omega) (by omega) ((hS.ext e1_7).some (i := k) (by omega))) (VQ.gT rfl rfl (VQ.op (fun wq eq => R.ixA Try.runUnderlying48 Try.sizeOf3 rfl rfl (by decide) (by decide)) (VQ.gT rfl rfl (VQ.op (fun wq eq => R.ld1 Try.isAgg3 rfl (((((hS.ext e1_7).ext (e2.trans eq)).row (i := k) (by omega)).cell (i := 0) rfl))) (VQ.gT rfl rfl (VQ.op (fun wq eq => R.ixA Try.runUnderlying48 Try.sizeOf3 rfl rfl (by decide) (by decide)) (VQ.gT rfl rfl (VQ.op (fun wq eq => R.ld1 Try.isAgg3 rfl ((hB1_7.ext (e2.trans eq)).cell 0)) (VQ.gT rfl rfl (VQ.op (fun wq eq => R.lss rfl rfl) (VQ.gT rfl rfl (VQ.op (fun wq eq => R.mvB rfl) (VQ.orP rfl rfl (fun g3_13 => VQ.op (fun wq eq => R.mvS rfl) (VQ.gT rfl rfl (VQ.op (fun wq eq => R.mvI rfl) (VQ.gT rfl rfl (VQ.op (fun wq eq => R.ixS Try.runUnderlying27 Try.sizeOf48 rfl rfl (by omega) (by omega) ((hS.ext e1_7).some (i := k) (by omega))) (VQ.gT rfl rfl (VQ.op (fun wq eq => R.ixA Try.runUnderlying48 Try.sizeOf3 rfl rfl (by decide) (by decide)) (VQ.gT rfl rfl (VQ.op (fun wq eq => R.ld1 Try.isAgg3 rfl (((((hS.ext e1_7).ext (e2.trans eq)).row (i := k) (by omega)).cell (i := 0) rfl))) (VQ.gT rfl rfl (VQ.op (fun wq eq => R.ixA Try.runUnderlying48 Try.sizeOf3 rfl rfl (by decide) (by decide)) (VQ.gT rfl rfl (VQ.op (fun wq eq => R.ld1 Try.isAgg3 rfl ((hB1_7.ext (e2.trans eq)).cell 0)) (VQ.gT rfl rfl (VQ.op (fun wq eq => R.eql rfl rfl) (VQ.gT rfl rfl (VQ.op (fun wq eq => R.mvB rfl) (VQ.andP rfl rfl (fun g3_22 => VQ.op (fun wq eq => R.mvS rfl) (VQ.gT rfl rfl (VQ.op (fun wq eq => R.mvI rfl) (VQ.gT rfl rfl (VQ.op (fun wq eq => R.ixS Try.runUnderlying27 Try.sizeOf48 rfl rfl (by omega) (by omega) ((hS.ext e1_7).some (i := k) (by omega))) (VQ.gT rfl rfl (VQ.op (fun wq eq => R.ixA Try.runUnderlying48 Try.sizeOf3 rfl rfl (by decide) (by decide)) (VQ.gT rfl rfl (VQ.op (fun wq eq => R.ld1 Try.isAgg3 rfl (((((hS.ext e1_7).ext (e2.trans eq)).row (i := k) (by omega)).cell (i := 1) rfl))) (VQ.gT rfl rfl (VQ.op (fun wq eq => R.ixA Try.runUnderlying48 Try.sizeOf3 rfl rfl (by decide) (by decide)) (VQ.gT rfl rfl (VQ.op (fun wq eq => R.ld1 Try.isAgg3 rfl ((hB1_7.ext (e2.trans eq)).cell 1)) (VQ.gT rfl rfl (VQ.op (fun wq eq => R.lss rfl rfl) (VQ.gT rfl rfl (VQ.op (fun wq eq => R.pickTB rfl rfl) (VQ.gT rfl rfl (VQ.op (fun wq eq => R.pickFB rfl rfl) (VQ.op (fun wq eq => R.pickTB rfl rfl) (VQ.nil (cutB rfl ?_)))))))))))))))))))))) (fun g3_22 => VQ.gF rfl rfl (VQ.gF rfl rfl (VQ.gF rfl rfl (VQ.gF rfl rfl (VQ.gF rfl rfl (VQ.gF rfl rfl (VQ.gF rfl rfl (VQ.gT rfl rfl (VQ.op (fun wq eq => R.pickFB rfl rfl) (VQ.gT rfl rfl (VQ.op (fun wq eq => R.pickFB rfl rfl) (VQ.op (fun wq eq => R.pickTB rfl rfl) (VQ.nil (cutB rfl ?_)))))))))))))))))))))))))))))))) (fun g3_13 => VQ.gF rfl rfl (VQ.gF rfl rfl (VQ.gF rfl rfl (VQ.gF rfl rfl (VQ.gF rfl rfl (VQ.gF rfl rfl (VQ.gF rfl rfl (VQ.gF rfl rfl (VQ.gU rfl rfl (VQ.gU rfl rfl (VQ.gU rfl rfl (VQ.gU rfl rfl (VQ.gU rfl rfl (VQ.gU rfl rfl (VQ.gU rfl rfl (VQ.gU rfl rfl (VQ.gF rfl rfl (VQ.gT rfl rfl (VQ.op (fun wq eq => R.pickTB rfl rfl) (VQ.op (fun wq eq => R.pickTB rfl rfl) (VQ.nil (cutB rfl ?_)))))))))))))))))))))))))))))))))))))))) (fun g3_4 => VQ.gF rfl rfl (VQ.gF rfl rfl (VQ.gF rfl rfl (VQ.gF rfl rfl (VQ.gF rfl rfl (VQ.gF rfl rfl (VQ.gF rfl rfl (VQ.gF rfl rfl (VQ.gU rfl rfl (VQ.gU rfl rfl (VQ.gU rfl rfl (VQ.gU rfl rfl (VQ.gU rfl rfl (VQ.gU rfl rfl (VQ.gU rfl rfl (VQ.gU rfl rfl (VQ.gU rfl rfl (VQ.gU rfl rfl (VQ.gU rfl rfl (VQ.gU rfl rfl (VQ.gU rfl rfl (VQ.gU rfl rfl (VQ.gU rfl rfl (VQ.gU rfl rfl (VQ.gU rfl rfl (VQ.gU rfl rfl (VQ.gF rfl rfl (VQ.op (fun wq eq => R.pickFB rfl rfl) (VQ.nil (cutB rfl ?_)))))))))))))))))))))))))))))))))))) (fun rg3 w3c e3c => V.cond rfl (fun c50 => V.skip (V.block (V.region (VL.op (R.mvI rfl) (VL.op (R.add rfl rfl (by omega) (by omega)) (VL.op (R.asI rfl) (VL.nil (⟨k + 1, rfl, ⟨?_, ?_, (e2.trans e3c)⟩, ?_⟩)))))))) (fun c50 => V.exit (?_)))))
    · rw [decide_eq_true (show k < l.length by omega), Bool.true_and]
      unfold ltP; rw [decide_eq_false g3_13, decide_eq_true g3_22]; simp
    · rw [decide_eq_true (show k < l.length by omega), Bool.true_and]
      unfold ltP; rw [decide_eq_false g3_13, decide_eq_false g3_22]; rfl
    · rw [decide_eq_true (show k < l.length by omega), Bool.true_and]
      unfold ltP; rw [decide_eq_true g3_13]; rfl
    · rw [decide_eq_false (show ¬ k < l.length by omega), Bool.false_and]
    · rw [Bool.and_eq_true, decide_eq_true_eq] at c50; omega
    · rw [Bool.and_eq_true, decide_eq_true_eq] at c50
      intro j hj
      by_cases hjk : j = k
      · subst hjk; exact c50.2
      · exact hb j (by omega)
    · rw [Bool.and_eq_true, decide_eq_true_eq] at c50; omega
    · have hkp : putK l p = k := tw_len (fun z => ltP z p) l k hk hb fun hlt => by
        rw [decide_eq_true hlt, Bool.true_and] at c50; exact c50
      exact ⟨b1_7, by rw [hkp]; rfl, e1_7.trans (e2.trans (by assumption)), hX.ext (by assumption)⟩
  · obtain ⟨eB, hX⟩ := hBB0
    have hple := putK_le l p
    have hF : putF l x y = if putK l p < l.length ∧ l.getD (putK l p) default = p then l else l.take (putK l p) ++ [p] ++ l.drop (putK l p) := by rw [hp]; rfl
    obtain ⟨k, hk⟩ : ∃ k, k = putK l p := ⟨_, rfl⟩
    rw [← hk] at hple hF ⊢
    refine V.regionQCut mixed 12 (by kernel_rfl) rfl (fun w' => Ext _ w') (Ext.drawn _) [53, 54, 55, 56, 57, 58, 59, 60, 61, 62, 63, 64] 64 (.bool (decide (k < l.length) && decide (l.getD k default = p))) rfl (VQ.op (fun wq eq => R.mvI rfl) (VQ.op (fun wq eq => R.mvS rfl) (VQ.op (fun wq eq => R.lenS Try.runUnderlying27 rfl) (VQ.op (fun wq eq => R.lss rfl rfl) (VQ.op (fun wq eq => R.mvB rfl) (VQ.andP rfl rfl (fun g5_4 => VQ.op (fun wq eq => R.mvS rfl) (VQ.gT rfl rfl (VQ.op (fun wq eq => R.mvI rfl) (VQ.gT rfl rfl (VQ.op (fun wq eq => R.ixS Try.runUnderlying27 Try.sizeOf48 rfl rfl (by omega) (by omega) ((hS.ext eB).some (i := k) (by omega))) (VQ.gT rfl rfl (VQ.op (fun wq eq => R.ldA Try.isAgg48 Try.sizeOf48 rfl rfl ((((hS.ext eB).ext eq).row (i := k) (by omega))) rfl) (VQ.gT rfl rfl (VQ.op (fun wq eq => R.ldA Try.isAgg48 Try.sizeOf48 rfl rfl (((hX.ext eq).rowAt 0 2)) rfl) (VQ.gT rfl rfl (VQ.op (fun wq eq => R.eqlK key48 Try.eqGuardType48 encP_agg (l.getD k default) p rfl rfl) (VQ.op (fun wq eq => R.pickTB rfl rfl) (VQ.nil (cutB rfl ?_)))))))))))))) (fun g5_4 => VQ.gF rfl rfl (VQ.gF rfl rfl (VQ.gF rfl rfl (VQ.gF rfl rfl (VQ.gF rfl rfl (VQ.op (fun wq eq => R.pickFB rfl rfl) (VQ.nil (cutB rfl ?_)))))))))))))) (fun rg5 w5c e5c => V.cond rfl (fun c64 => V.seq (V.region (VL.op (R.mvS rfl) (VL.op (R.asS rfl) (VL.nil (V.ret (fret1 (v := .slice _ _ _) rfl rfl rfl (?_)))))))) (fun c64 => V.skip (V.seq (?_))))
    · rw [decide_eq_true (show k < l.length by omega), Bool.true_and]
    · rw [decide_eq_false (show ¬ k < l.length by omega), Bool.false_and]
    · rw [Bool.and_eq_true, decide_eq_true_eq, decide_eq_true_eq] at c64
      rw [if_pos c64] at hF
      exact ⟨(a, ca), by rw [hF], ⟨by rw [hF]; exact (hS.ext eB).ext e5c, hax, by rw [hF]; exact hcap⟩, eB.trans e5c⟩
    · have hF2 : putF l x y = l.take k ++ [p] ++ l.drop k := by
        rw [hF, if_neg]
        intro h
        rw [decide_eq_true h.1, decide_eq_true h.2] at c64
        cases c64
      have eC := eB.trans e5c
      have hS := hS.ext eC
      have hX := hX.ext e5c
      have hlt : (l.take k).length = k := by simp; omega
      have hld : (l.drop k).length = l.length - k := by simp
      refine V.region (VL.buildSl Try.runUnderlying27 Try.sizeOf48 Try.zeroValue48 rfl rfl rfl fun b5 w5 hb5 e5 hX5 => VL.op (R.mvS rfl) (VL.op (R.mvI rfl) (VL.op (R.slHi Try.runUnderlying27 Try.sizeOf48 rfl rfl (by omega) (by omega)) (VL.appendT el27 (fun _ => rfl) rfl (rfl) ((OwnT.of0 encPr 2 hX5 (Nat.le_of_eq (Eq.symm hb5)))) rfl ( (show ((k : Nat) : Int).toNat = (l.take k).length from by rw [hlt]; simp)) (((hS.ext e5).take k ca)) ((fun h => hax (cutA_none h))) (by simp; omega) (by simp [maxLen]; omega) (e5).size (show 0 + ((k : Nat) : Int).toNat = (l.take k).length from by rw [hlt]; simp) fun a6 c6 w6 ho6 m6 hf6 => VL.op (R.asS rfl) (VL.nil (V.seq (?_)))))))
      have E6 : Ext w5c w6 := Mod.ownA e5 m6 fun k hk => by have := aBlk_some hk; omega
      have ho6 : OwnT encPr 2 48 w5c.heap.size w6 a6 c6 (l.take k) := ho6
      refine V.region (VL.op (R.mvS rfl) (VL.op (R.ldA Try.isAgg48 Try.sizeOf48 rfl rfl (((hX.ext E6).rowAt 0 2)) rfl) (VL.append1 el27 Try.runUnderlying27 Try.sizeOf48 Try.zeroValue48 rfl (p) rfl rfl rfl ho6 rfl rfl rfl (by omega) (by unfold maxLen; omega) E6.size fun a7 c7 w7 vt7 ho7 m7 hf7 => VL.op (R.asS rfl) (VL.nil (V.seq (?_))))))
      have E7 : Ext w5c w7 := Mod.ownA E6 m7 ho6.ge
      have hl7 : (l.take k).length + 1 = (l.take k ++ [p]).length := by simp
      refine V.region (VL.op (R.mvS rfl) (VL.op (R.mvS rfl) (VL.op (R.mvI rfl) (VL.op (R.slLo Try.runUnderlying27 Try.sizeOf48 rfl rfl (by omega) (by omega)) (VL.appendT el27 (fun _ => rfl) rfl ( hl7) (ho7) rfl ( (show l.length - ((k : Nat) : Int).toNat = (l.drop k).length from by rw [hld]; simp)) (((hS.ext E7).drop k ca hcap)) ((fun h => by rw [hax (cutA_none h)]; simp)) (by simp; omega) (by simp [maxLen]; omega) E7.size (show (l.take k).length + 1 + (l.length - ((k : Nat) : Int).toNat) = (putF l x y).length from by rw [hF2, hlt]; simp; omega) fun a8 c8 w8 ho8 m8 hf8 => VL.op (R.asS rfl) (VL.nil (V.ret (fret1 (v := .slice _ _ _) rfl rfl rfl (?_)))))))))
      refine ⟨(a8, c8), rfl, ⟨by rw [hF2]; exact ho8.sl, ho8.hax, ?_⟩, eC.trans (Mod.ownA E7 m8 ho7.ge)⟩
      have := ho8.cap
      rw [hF2]; exact this
end Go.Proofs.Ytlefkkelohhnkaa
