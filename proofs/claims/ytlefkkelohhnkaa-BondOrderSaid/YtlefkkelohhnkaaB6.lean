/- Bond: the walk of the reference's Effective. -/
import Derived.Test.YtlefkkelohhnkaaB4
namespace Go.Proofs.Ytlefkkelohhnkaa
open Go.Vc
def sameP (d x : Dec) : Bool := formed x && decide (x.a = d.a) && decide (x.b = d.b)
set_option maxRecDepth 100000 in
set_option maxHeartbeats 4000000 in
theorem reffective_spec (a : Option Addr) (ca : Nat) (l : List Dec) (w : World) (hm : l.length ≤ 1000000) (hS : DecSl w a l) :
    RetsX Try.prog 17 #[.slice a l.length ca] w (fun x : Option Addr × Nat => .slice x.1 (effL l).length x.2) (fun x w' => OwnT encDec 7 39 w.heap.size w' x.1 x.2 (effL l)) := by
  refine enter (args := [_]) Try.func17 rfl Try.ntmps17 (by kernel_rfl) rfl ?_
  refine V.seq (V.region (VL.op (R.asS rfl) (VL.nil (V.seq (V.region (VL.op (R.asS rfl) (VL.nil (V.seq (V.seq (V.region (VL.op (R.asI rfl) (VL.nil (V.block (?_))))))))))))))
  refine V.loop [0, 3, 4] (fun x : Nat × Option Addr × Nat => [.slice a l.length ca, .slice x.2.1 (effK l x.1).length x.2.2, .int .i64 (x.1 : Nat)])
    (fun x w' => x.1 ≤ l.length ∧ Ext w w' ∧ OwnT encDec 7 39 w.heap.size w' x.2.1 x.2.2 (effK l x.1)) (fun x => l.length - x.1) (0, none, 0) rfl ⟨Nat.zero_le _, Mod.refl _ _, OwnT.nil _ _ _ _ _⟩ ?_
  rintro ρ ⟨i, b, cb⟩ w1 ⟨hi, e, ho⟩
  dsimp only at hi ho ⊢
  have hol := effK_len l i
  obtain ⟨out, hout⟩ : ∃ out, out = effK l i := ⟨_, rfl⟩
  obtain ⟨d, hd⟩ : ∃ d, d = l.getD i default := ⟨_, rfl⟩
  have hstay : lastB l i = false → effK l (i + 1) = out := fun h => by rw [effK, if_neg (by rw [h]; decide), hout]
  have hlb : lastB l i = (formed d && decide (d.kind ≠ 3) && (l.drop (i + 1)).all fun x => !sameP d x) := by rw [hd]; rfl
  rw [← hout] at ho hol ⊢
  refine V.seq (V.seq (V.region (VL.op (R.mvI rfl) (VL.op (R.mvS rfl) (VL.op (R.lenS Try.runUnderlying23 rfl) (VL.op (R.lss rfl rfl) (VL.nil (V.condP rfl (fun c12 => V.skip (V.seq (V.block (V.seq (V.seq (V.regionCut [15, 16, 17, 18, 19, 20, 21, 22, 23, 24, 25, 26, 27, 28] 28 (.bool (!formed d || decide (d.kind = 3))) (fun w' => Ext _ w') rfl (VL.op (R.mvS rfl) (VL.op (R.mvI rfl) (VL.op (R.ixS Try.runUnderlying23 Try.sizeOf39 rfl rfl (by omega) (by omega) ((hS).some (i := i) (by omega))) (VL.op (R.ldA Try.isAgg39 Try.sizeOf39 rfl rfl ((((hS).ext e).row (i := i) (by omega))) rfl) (VL.callP Try.call20 rfl (formed_spec (l.getD i default) _) fun w5_4 e5_4 => VL.op (R.not rfl) (VL.op (R.mvB rfl) (VL.or rfl rfl (fun g5_6 => VL.op (R.mvS rfl) (VL.gT rfl rfl (VL.op (R.mvI rfl) (VL.gT rfl rfl (VL.op (R.ixS Try.runUnderlying23 Try.sizeOf39 rfl rfl (by omega) (by omega) ((hS).some (i := i) (by omega))) (VL.gT rfl rfl (VL.op (R.fld' (o := 0) Try.runUnderlying39 rfl rfl Try.sizeOf3 rfl rfl) (VL.gT rfl rfl (VL.op (R.ld1 Try.isAgg3 rfl (((((hS).ext (e.trans e5_4)).row (i := i) (by omega)).cell (i := 0) rfl))) (VL.gT rfl rfl (VL.op (R.eql rfl rfl) (VL.op (R.pickFB rfl rfl) (VL.nil ⟨rfl, cutB rfl ?_, e5_4⟩))))))))))))) (fun g5_6 => VL.gF rfl rfl (VL.gF rfl rfl (VL.gF rfl rfl (VL.gF rfl rfl (VL.gF rfl rfl (VL.op (R.pickTB rfl rfl) (VL.nil ⟨rfl, cutB rfl ?_, e5_4⟩)))))))))))))) (fun rg5 w5c e5c => V.cond rfl (fun c28 => V.exit (V.region (VL.op (R.mvI rfl) (VL.op (R.add rfl rfl (by omega) (by omega)) (VL.op (R.asI rfl) (VL.nil (?_))))))) (fun c28 => V.skip (V.seq (V.region (VL.op (R.asB rfl) (VL.nil (V.cut [0, 3, 4, 5] (fun _ : Unit => [.slice a l.length ca, .slice b out.length cb, .int .i64 (i : Nat), .bool ((l.drop (i + 1)).all fun x => !sameP d x)]) (fun _ w' => Ext w1 w') (V.seq (V.region (VL.op (R.mvI rfl) (VL.op (R.add rfl rfl (by omega) (by omega)) (VL.op (R.asI rfl) (VL.nil (V.block (?_)))))))) (fun rgB2 xB2 wBB2 hBB2 => V.seq (V.seq (V.region (VL.op (R.mvB rfl) (VL.op (R.not rfl) (VL.nil (V.cond rfl (fun c69 => V.exit (V.region (VL.op (R.mvI rfl) (VL.op (R.add rfl rfl (by omega) (by omega)) (VL.op (R.asI rfl) (VL.nil (?_))))))) (fun c69 => V.skip (V.seq (V.region (VL.op (R.asI rfl) (VL.nil (V.cut [0, 3, 4, 7] (fun _ : Unit => [.slice a l.length ca, .slice b out.length cb, .int .i64 (i : Nat), .int .i64 (insP out d : Nat)]) (fun _ w' => Ext w1 w') (V.block (?_)) (fun rgB4 xB4 wBB4 hBB4 => V.seq (?_)))))))))))))))))))))))))))) (fun c12 => V.exit (V.seq (V.region (VL.op (R.mvS rfl) (VL.op (R.asS rfl) (VL.nil (V.ret (fret1 (v := .slice _ _ _) rfl rfl rfl (?_)))))))))))))))))
  · rw [← hd] at g5_6 ⊢; rw [g5_6, Bool.false_or]
  · rw [← hd] at g5_6; rw [g5_6]; rfl
  · have hs := hstay (by
      rw [hlb]
      cases h1 : formed d with
      | false => rfl
      | true =>
        rw [h1] at c28
        have : d.kind = 3 := by simpa using c28
        simp [this])
    exact ⟨(i + 1, b, cb), by dsimp only; rw [hs]; rfl, ⟨by dsimp only; omega, e.trans e5c, by dsimp only; rw [hs]; exact ho.ext e5c⟩, by dsimp only; omega⟩
  · have hdl : (l.drop (i + 1)).length = l.length - (i + 1) := by simp
    refine V.loop [0, 3, 4, 5, 6] (fun q : Nat => [.slice a l.length ca, .slice b out.length cb, .int .i64 (i : Nat), .bool (((l.drop (i + 1)).take q).all fun x => !sameP d x), .int .i64 ((i : Int) + 1 + (q : Nat))])
      (fun q w' => q ≤ (l.drop (i + 1)).length ∧ Ext w1 w') (fun q => (l.drop (i + 1)).length - q) 0 (by simp only [Int.natCast_zero, Int.add_zero]; rfl) ⟨Nat.zero_le _, e5c⟩ ?_
    rintro ρ q w2 ⟨hq, e2⟩
    have hsn : q < (l.drop (i + 1)).length → _ := all_snoc (fun x => !sameP d x) (l.drop (i + 1)) q
    have hgd := getD_drop l (i + 1) q
    refine V.seq (V.seq (V.region (VL.op (R.mvI rfl) (VL.op (R.mvS rfl) (VL.op (R.lenS Try.runUnderlying23 rfl) (VL.op (R.lss rfl rfl) (VL.nil (V.condP rfl (fun c34 => V.skip (V.seq (V.block (V.seq (V.regionQCut mixed 31 (by kernel_rfl) rfl (fun w' => Ext _ w') (Ext.drawn _) [37, 38, 39, 40, 41, 42, 43, 44, 45, 46, 47, 48, 49, 50, 51, 52, 53, 54, 55, 56, 57, 58, 59, 60, 61, 62, 63, 64, 65, 66, 67] 67 (.bool (sameP d (l.getD (i + 1 + q) default))) rfl (VQ.op (fun wq eq => R.mvS rfl) (VQ.op (fun wq eq => R.mvI rfl) (VQ.op (fun wq eq => R.ixS Try.runUnderlying23 Try.sizeOf39 rfl rfl (by omega) (by omega) ((hS).some (i := i + 1 + q) (by omega))) (VQ.op (fun wq eq => R.ldA Try.isAgg39 Try.sizeOf39 rfl rfl ((((hS).ext ((e.trans e2).trans eq)).row (i := i + 1 + q) (by omega))) rfl) (VQ.callP (fun _ _ h k => Mod.trans h k) Try.call20 rfl (fun wq eq => formed_spec (l.getD (i + 1 + q) default) _) (VQ.op (fun wq eq => R.mvB rfl) (VQ.and rfl rfl (fun g10_5 => VQ.op (fun wq eq => R.mvS rfl) (VQ.gT rfl rfl (VQ.op (fun wq eq => R.mvI rfl) (VQ.gT rfl rfl (VQ.op (fun wq eq => R.ixS Try.runUnderlying23 Try.sizeOf39 rfl rfl (by omega) (by omega) ((hS).some (i := i + 1 + q) (by omega))) (VQ.gT rfl rfl (VQ.op (fun wq eq => R.fld' (o := 1) Try.runUnderlying39 rfl rfl Try.sizeOf37 rfl rfl) (VQ.gT rfl rfl (VQ.op (fun wq eq => R.ldA Try.isAgg37 Try.sizeOf37 rfl rfl ((show RowAt _ _ _ (encKey (l.getD (i + 1 + q) default).a) from ((((hS).ext ((e.trans e2).trans eq)).row (i := i + 1 + q) (by omega)).sub 1 3 rfl))) rfl) (VQ.gT rfl rfl (VQ.op (fun wq eq => R.mvS rfl) (VQ.gT rfl rfl (VQ.op (fun wq eq => R.mvI rfl) (VQ.gT rfl rfl (VQ.op (fun wq eq => R.ixS Try.runUnderlying23 Try.sizeOf39 rfl rfl (by omega) (by omega) ((hS).some (i := i) (by omega))) (VQ.gT rfl rfl (VQ.op (fun wq eq => R.fld' (o := 1) Try.runUnderlying39 rfl rfl Try.sizeOf37 rfl rfl) (VQ.gT rfl rfl (VQ.op (fun wq eq => R.ldA Try.isAgg37 Try.sizeOf37 rfl rfl ((show RowAt _ _ _ (encKey (l.getD i default).a) from ((((hS).ext ((e.trans e2).trans eq)).row (i := i) (by omega)).sub 1 3 rfl))) rfl) (VQ.gT rfl rfl (VQ.op (fun wq eq => R.eqlK key37 Try.eqGuardType37 encK_agg (l.getD (i + 1 + q) default).a (l.getD i default).a rfl rfl) (VQ.op (fun wq eq => R.pickTB rfl rfl) (VQ.op (fun wq eq => R.mvB rfl) (VQ.andP rfl rfl (fun g10_18 => VQ.op (fun wq eq => R.mvS rfl) (VQ.gT rfl rfl (VQ.op (fun wq eq => R.mvI rfl) (VQ.gT rfl rfl (VQ.op (fun wq eq => R.ixS Try.runUnderlying23 Try.sizeOf39 rfl rfl (by omega) (by omega) ((hS).some (i := i + 1 + q) (by omega))) (VQ.gT rfl rfl (VQ.op (fun wq eq => R.fld' (o := 4) Try.runUnderlying39 rfl rfl Try.sizeOf37 rfl rfl) (VQ.gT rfl rfl (VQ.op (fun wq eq => R.ldA Try.isAgg37 Try.sizeOf37 rfl rfl ((show RowAt _ _ _ (encKey (l.getD (i + 1 + q) default).b) from ((((hS).ext ((e.trans e2).trans eq)).row (i := i + 1 + q) (by omega)).sub 4 3 rfl))) rfl) (VQ.gT rfl rfl (VQ.op (fun wq eq => R.mvS rfl) (VQ.gT rfl rfl (VQ.op (fun wq eq => R.mvI rfl) (VQ.gT rfl rfl (VQ.op (fun wq eq => R.ixS Try.runUnderlying23 Try.sizeOf39 rfl rfl (by omega) (by omega) ((hS).some (i := i) (by omega))) (VQ.gT rfl rfl (VQ.op (fun wq eq => R.fld' (o := 4) Try.runUnderlying39 rfl rfl Try.sizeOf37 rfl rfl) (VQ.gT rfl rfl (VQ.op (fun wq eq => R.ldA Try.isAgg37 Try.sizeOf37 rfl rfl ((show RowAt _ _ _ (encKey (l.getD i default).b) from ((((hS).ext ((e.trans e2).trans eq)).row (i := i) (by omega)).sub 4 3 rfl))) rfl) (VQ.gT rfl rfl (VQ.op (fun wq eq => R.eqlK key37 Try.eqGuardType37 encK_agg (l.getD (i + 1 + q) default).b (l.getD i default).b rfl rfl) (VQ.op (fun wq eq => R.pickTB rfl rfl) (VQ.nil (cutB rfl ?_)))))))))))))))))))))))) (fun g10_18 => VQ.gF rfl rfl (VQ.gF rfl rfl (VQ.gF rfl rfl (VQ.gF rfl rfl (VQ.gF rfl rfl (VQ.gF rfl rfl (VQ.gF rfl rfl (VQ.gF rfl rfl (VQ.gF rfl rfl (VQ.gF rfl rfl (VQ.op (fun wq eq => R.pickFB rfl rfl) (VQ.nil (cutB rfl ?_))))))))))))))))))))))))))))))))))))) (fun g10_5 => VQ.gF rfl rfl (VQ.gF rfl rfl (VQ.gF rfl rfl (VQ.gF rfl rfl (VQ.gF rfl rfl (VQ.gF rfl rfl (VQ.gF rfl rfl (VQ.gF rfl rfl (VQ.gF rfl rfl (VQ.gF rfl rfl (VQ.op (fun wq eq => R.pickFB rfl rfl) (VQ.op (fun wq eq => R.mvB rfl) (VQ.gF rfl rfl (VQ.gF rfl rfl (VQ.gF rfl rfl (VQ.gF rfl rfl (VQ.gF rfl rfl (VQ.gF rfl rfl (VQ.gF rfl rfl (VQ.gF rfl rfl (VQ.gF rfl rfl (VQ.gF rfl rfl (VQ.gF rfl rfl (VQ.op (fun wq eq => R.pickFB rfl rfl) (VQ.nil (cutB rfl ?_))))))))))))))))))))))))))))))))) (fun rg10 w10c e10c => V.cond rfl (fun c67 => V.region (VL.op (R.asB rfl) (VL.nil (V.region (VL.op (R.mvI rfl) (VL.op (R.add rfl rfl (by omega) (by omega)) (VL.op (R.asI rfl) (VL.nil (⟨q + 1, ?_, ⟨by omega, ?_⟩, by omega⟩))))))))) (fun c67 => V.skip (V.region (VL.op (R.mvI rfl) (VL.op (R.add rfl rfl (by omega) (by omega)) (VL.op (R.asI rfl) (VL.nil (⟨q + 1, ?_, ⟨by omega, ?_⟩, by omega⟩))))))))))))) (fun c34 => V.exit (?_))))))))))
    · unfold sameP; rw [g10_5, hd, show decide ((l.getD (i + 1 + q) default).a = (l.getD i default).a) = true from decide_eq_true g10_18]; rfl
    · unfold sameP; rw [g10_5, decide_eq_false (hd ▸ g10_18)]; simp
    · unfold sameP; rw [g10_5]; simp
    · have : ((l.drop (i + 1)).take (q + 1)).all (fun x => !sameP d x) = false := by rw [hsn (by omega), hgd, c67]; simp
      rw [this]; rfl
    · exact e2.trans e10c
    · have : ((l.drop (i + 1)).take (q + 1)).all (fun x => !sameP d x) = ((l.drop (i + 1)).take q).all (fun x => !sameP d x) := by rw [hsn (by omega), hgd, c67]; simp
      rw [this]; rfl
    · exact e2.trans e10c
    · have hqe : q = (l.drop (i + 1)).length := by omega
      subst hqe
      exact ⟨(), by rw [List.take_length]; rfl, e2⟩
  · have hs := hstay (by
      rw [hlb]
      have : ((l.drop (i + 1)).all fun x => !sameP d x) = false := by simpa only [Bool.not_eq_true'] using c69
      rw [this]; simp)
    exact ⟨(i + 1, b, cb), by dsimp only; rw [hs]; rfl, ⟨by dsimp only; omega, e.trans hBB2, by dsimp only; rw [hs]; exact ho.ext hBB2⟩, by dsimp only; omega⟩
  · have hp := fun k h1 h2 h3 => tw_len (fun x => befD x d) out k h1 h2 h3
    refine V.loop [0, 3, 4, 7] (fun k : Nat => [.slice a l.length ca, .slice b out.length cb, .int .i64 (i : Nat), .int .i64 (k : Nat)])
      (fun k w' => k ≤ out.length ∧ (∀ j, j < k → befD (out.getD j default) d = true) ∧ Ext w1 w') (fun k => out.length - k) 0 rfl ⟨Nat.zero_le _, fun j h => absurd h (Nat.not_lt_zero j), hBB2⟩ ?_
    rintro ρ k w2 ⟨hk, hb, e2⟩
    refine V.seq (V.seq (V.regionQCut mixed 15 (by kernel_rfl) rfl (fun w' => Ext _ w') (Ext.drawn _) [70, 71, 72, 73, 74, 75, 76, 77, 78, 79, 80, 81, 82, 83, 84] 84 (.bool (decide (k < out.length) && befD (out.getD k default) d)) rfl (VQ.op (fun wq eq => R.mvI rfl) (VQ.op (fun wq eq => R.mvS rfl) (VQ.op (fun wq eq => R.lenS Try.runUnderlying23 rfl) (VQ.op (fun wq eq => R.lss rfl rfl) (VQ.op (fun wq eq => R.mvB rfl) (VQ.andP rfl rfl (fun g14_4 => VQ.op (fun wq eq => R.mvS rfl) (VQ.gT rfl rfl (VQ.op (fun wq eq => R.mvI rfl) (VQ.gT rfl rfl (VQ.op (fun wq eq => R.ixS Try.runUnderlying23 Try.sizeOf39 rfl rfl (by omega) (by omega) ((ho.sl).some (i := k) (by omega))) (VQ.gT rfl rfl (VQ.op (fun wq eq => R.ldA Try.isAgg39 Try.sizeOf39 rfl rfl ((((ho.sl).ext (e2.trans eq)).row (i := k) (by omega))) rfl) (VQ.gT rfl rfl (VQ.op (fun wq eq => R.mvS rfl) (VQ.gT rfl rfl (VQ.op (fun wq eq => R.mvI rfl) (VQ.gT rfl rfl (VQ.op (fun wq eq => R.ixS Try.runUnderlying23 Try.sizeOf39 rfl rfl (by omega) (by omega) ((hS.ext e).some (i := i) (by omega))) (VQ.gT rfl rfl (VQ.op (fun wq eq => R.ldA Try.isAgg39 Try.sizeOf39 rfl rfl ((((hS.ext e).ext (e2.trans eq)).row (i := i) (by omega))) rfl) (VQ.gT rfl rfl (VQ.callP (fun _ _ h k => Mod.trans h k) Try.call21 rfl (fun wq eq => before_spec (out.getD k default) (l.getD i default) _) (VQ.op (fun wq eq => R.pickTB rfl rfl) (VQ.nil (cutB rfl ?_)))))))))))))))))))) (fun g14_4 => VQ.gF rfl rfl (VQ.gF rfl rfl (VQ.gF rfl rfl (VQ.gF rfl rfl (VQ.gF rfl rfl (VQ.gF rfl rfl (VQ.gF rfl rfl (VQ.gF rfl rfl (VQ.op (fun wq eq => R.pickFB rfl rfl) (VQ.nil (cutB rfl ?_))))))))))))))))) (fun rg14 w14c e14c => V.cond rfl (fun c84 => V.skip (V.block (V.region (VL.op (R.mvI rfl) (VL.op (R.add rfl rfl (by omega) (by omega)) (VL.op (R.asI rfl) (VL.nil (⟨k + 1, rfl, ⟨?_, ?_, (e2.trans e14c)⟩, ?_⟩)))))))) (fun c84 => V.exit (?_)))))
    · rw [decide_eq_true (by omega), Bool.true_and, ← hd]
    · rw [decide_eq_false (by omega), Bool.false_and]
    · rw [Bool.and_eq_true, decide_eq_true_eq] at c84; omega
    · rw [Bool.and_eq_true, decide_eq_true_eq] at c84
      intro j hj
      by_cases hjk : j = k
      · subst hjk; exact c84.2
      · exact hb j (by omega)
    · rw [Bool.and_eq_true, decide_eq_true_eq] at c84; omega
    · have hkp : insP out d = k := hp k hk hb fun hlt => by
        rw [decide_eq_true hlt, Bool.true_and] at c84; exact c84
      exact ⟨(), by rw [hkp]; rfl, e2.trans (by assumption)⟩
  · have hple : insP out d ≤ out.length := by unfold insP; exact (List.takeWhile_prefix _).length_le
    obtain ⟨p, hp⟩ : ∃ p, p = insP out d := ⟨_, rfl⟩
    have hins : lastB l i = true := by
      rw [hlb]
      rw [Bool.or_eq_false_iff] at c28
      have h1 : formed d = true := by simpa using c28.1
      have h2 : (l.drop (i + 1)).all (fun x => !sameP d x) = true := by simpa only [Bool.not_eq_false'] using c69
      rw [h1, h2, show decide (d.kind ≠ 3) = true from decide_eq_true (of_decide_eq_false c28.2)]; rfl
    have hnew : effK l (i + 1) = out.take p ++ [d] ++ out.drop p := by rw [effK, if_pos hins, ← hout, ← hd, hp]; rfl
    rw [← hp] at hple ⊢
    clear hp
    have ho := ho.ext hBB4
    have hcap := ho.cap
    have hlt : (out.take p).length = p := by simp; omega
    have hld : (out.drop p).length = out.length - p := by simp
    have eB := e.trans hBB4
    refine V.region (VL.buildSl Try.runUnderlying23 Try.sizeOf39 Try.zeroValue39 rfl rfl rfl fun b5 w5 hb5 e5 hX5 => VL.op (R.mvS rfl) (VL.op (R.mvI rfl) (VL.op (R.slHi Try.runUnderlying23 Try.sizeOf39 rfl rfl (by omega) (by omega)) (VL.appendT el23 (fun _ => rfl) rfl (rfl) ((OwnT.of0 encDec 7 hX5 (Nat.le_of_eq (Eq.symm hb5)))) rfl ( (show ((p : Nat) : Int).toNat = (out.take p).length from by rw [hlt]; simp)) (((ho.ext e5).sl.take p cb)) ((fun h => ho.hax (cutA_none h))) (by simp; omega) (by simp [maxLen]; omega) (e5).size (show 0 + ((p : Nat) : Int).toNat = (out.take p).length from by rw [hlt]; simp) fun a6 c6 w6 ho6 m6 hf6 => VL.op (R.asS rfl) (VL.nil (V.seq (?_)))))))
    have hoA := (ho.ext e5).mod m6 fun k h1 h2 => by have := ho.lt k h1; have := aBlk_some h2; omega
    have E6 : Ext wBB4 w6 := Mod.ownA e5 m6 fun k hk => by have := aBlk_some hk; omega
    have ho6 : OwnT encDec 7 39 wBB4.heap.size w6 a6 c6 (out.take p) := ho6
    refine V.region (VL.op (R.mvS rfl) (VL.op (R.mvS rfl) (VL.op (R.mvI rfl) (VL.op (R.ixS Try.runUnderlying23 Try.sizeOf39 rfl rfl (by omega) (by omega) ((hS.ext (eB.trans E6)).some (i := i) (by omega))) (VL.op (R.ldA Try.isAgg39 Try.sizeOf39 rfl rfl ((((hS.ext (eB.trans E6)).ext (Mod.refl _ _)).row (i := i) (by omega))) rfl) (VL.append1 el23 Try.runUnderlying23 Try.sizeOf39 Try.zeroValue39 rfl (l.getD i default) rfl rfl rfl ho6 rfl rfl rfl (by omega) (by unfold maxLen; omega) E6.size fun a7 c7 w7 vt7 ho7 m7 hf7 => VL.op (R.asS rfl) (VL.nil (?_))))))))
    have hoA := hoA.mod m7 fun k h1 h2 => by have := ho.lt k h1; have := ho6.ge k h2; omega
    have E7 : Ext wBB4 w7 := Mod.ownA E6 m7 ho6.ge
    have hl7 : (out.take p).length + 1 = (out.take p ++ [l.getD i default]).length := by simp
    refine V.region (VL.op (R.mvS rfl) (VL.op (R.mvS rfl) (VL.op (R.mvI rfl) (VL.op (R.slLo Try.runUnderlying23 Try.sizeOf39 rfl rfl (by omega) (by omega)) (VL.appendT el23 (fun _ => rfl) rfl ( hl7) (ho7) rfl ( (show out.length - ((p : Nat) : Int).toNat = (out.drop p).length from by rw [hld]; simp)) ((hoA.sl.drop p cb hcap)) ((fun h => by rw [hoA.hax (cutA_none h)]; simp)) (by simp; omega) (by simp [maxLen]; omega) E7.size (show (out.take p).length + 1 + (out.length - ((p : Nat) : Int).toNat) = (effK l (i + 1)).length from by rw [hnew, hlt]; simp; omega) fun a8 c8 w8 ho8 m8 hf8 => VL.op (R.asS rfl) (VL.nil (V.region (VL.op (R.mvI rfl) (VL.op (R.add rfl rfl (by omega) (by omega)) (VL.op (R.asI rfl) (VL.nil (⟨(i + 1, a8, c8), rfl, ⟨by dsimp only; omega, ?_, ?_⟩, by dsimp only; omega⟩))))))))))))
    · exact eB.trans (Mod.ownA E7 m8 ho7.ge)
    · dsimp only
      rw [hnew, hd]
      exact ho8.weaken eB.size
  · have hil : i = l.length := by omega
    subst hil
    exact ⟨(b, cb), by rw [hout]; rfl, by rw [hout] at ho; exact ho, e⟩
end Go.Proofs.Ytlefkkelohhnkaa
