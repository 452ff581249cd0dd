/- The reference's choice. -/
import Derived.Test.YtckihgamnmmbnaaO
namespace Go.Proofs.Ytckihgamnmmbnaa
open Go.Vc

def cand (cells : List Cell) (trusts : List Int) (i : Nat) : Cand := ⟨cells.getD i default, i, trusts.getD i 0, freqV cells (cells.getD i default).val⟩
def befB (by_ : Int) (cells : List Cell) (trusts : List Int) (i k : Nat) : Bool := decide (cmpC by_ (cand cells trusts i) (cand cells trusts k) < 0)

theorem befD (by_ : Int) (x y : Cand) : decide (cmpC by_ x y < 0) =
    if better by_ x y ≠ 0 then decide (better by_ x y < 0) else if x.trust ≠ y.trust then decide (y.trust < x.trust) else if x.cell.time ≠ y.cell.time then decide (y.cell.time < x.cell.time)
    else if cmpV x.cell.val y.cell.val ≠ 0 then decide (cmpV x.cell.val y.cell.val < 0) else decide (x.at_ < y.at_) := by
  unfold cmpC thenC
  simp only [ne_eq, ite_not]
  by_cases h1 : better by_ x y = 0
  · rw [if_pos h1, if_pos h1]
    by_cases h2 : x.trust = y.trust
    · have e2 : cmpI y.trust x.trust = 0 := (cmpI_zero _ _).2 h2.symm
      rw [if_pos h2, if_pos e2]
      by_cases h3 : x.cell.time = y.cell.time
      · have e3 : cmpI y.cell.time x.cell.time = 0 := (cmpI_zero _ _).2 h3.symm
        rw [if_pos h3, if_pos e3]
        by_cases h4 : cmpV x.cell.val y.cell.val = 0
        · rw [if_pos h4, if_pos h4]; simp [cmpI_neg]
        · rw [if_neg h4, if_neg h4]
      · have e3 : ¬ cmpI y.cell.time x.cell.time = 0 := fun e => h3 ((cmpI_zero _ _).1 e).symm
        rw [if_neg h3, if_neg e3]; simp [cmpI_neg]
    · have e2 : ¬ cmpI y.trust x.trust = 0 := fun e => h2 ((cmpI_zero _ _).1 e).symm
      rw [if_neg h2, if_neg e2]; simp [cmpI_neg]
  · rw [if_neg h1, if_neg h1]

theorem cmpI_zero' (a b : Int) : cmpI a b = 0 ↔ b = a := by rw [cmpI_zero]; exact eq_comm
set_option maxHeartbeats 400000 in
theorem before_spec (by_ : Int) (a b : Option Addr) (ca cb : Nat) (l : List Cell) (t : List Int) (i k : Nat) (w : World) (h1 : 1 ≤ by_) (h6 : by_ ≤ 6) (hm : l.length ≤ 9223372036854775807) (hl : l.length = t.length) (hi : i < l.length) (hk : k < l.length)
    (hS : CellSl w a l) (hT : IntSl w b t) :
    RetsP Try.prog 57 #[.int .i64 by_, .slice a l.length ca, .slice b t.length cb, .int .i64 i, .int .i64 k] w (.bool (befB by_ l t i k)) := by
  obtain ⟨⟨⟨k1, n1, x1⟩, s1, m1⟩, hc1⟩ : ∃ c, c = l.getD i default := ⟨_, rfl⟩
  obtain ⟨⟨⟨k2, n2, x2⟩, s2, m2⟩, hc2⟩ : ∃ c, c = l.getD k default := ⟨_, rfl⟩
  have r1 := TSl.row hS (i := i) (by omega)
  have r2 := TSl.row hS (i := k) (by omega)
  rw [← hc1] at r1
  rw [← hc2] at r2
  refine enter (args := [_, _, _, _, _]) Try.func57 rfl Try.ntmps57 (by kernel_rfl) rfl ?_
  refine V.seq (V.region (VL.op (R.asB rfl) (VL.nil (V.seq (V.region (VL.op (R.mvS rfl) (VL.op (R.mvI rfl) (VL.op (R.ixS Try.runUnderlying51 Try.sizeOf57 rfl rfl (by omega) (by omega) (hS.some (i := i) (by omega))) (VL.op (R.ldA Try.isAgg57 Try.sizeOf57 rfl rfl ((r1.ext (Mod.refl _ _))) rfl) (VL.allocSt (v := .agg _) Try.zeroValue57 Try.sizeOf57 rfl rfl rfl rfl rfl fun b1 w1 hb1 e1 hX1 => VL.nil (V.seq (V.region (VL.op (R.mvS rfl) (VL.op (R.mvI rfl) (VL.op (R.ixS Try.runUnderlying51 Try.sizeOf57 rfl rfl (by omega) (by omega) (hS.some (i := k) (by omega))) (VL.op (R.ldA Try.isAgg57 Try.sizeOf57 rfl rfl ((r2.ext e1)) rfl) (VL.allocSt (v := .agg _) Try.zeroValue57 Try.sizeOf57 rfl rfl rfl rfl rfl fun b2 w2 hb2 e2 hX2 => VL.nil (V.seq (V.region (VL.op (R.fld' (o := 0) Try.runUnderlying57 rfl rfl Try.sizeOf55 rfl rfl) (VL.op (R.ldA Try.isAgg55 Try.sizeOf55 rfl rfl (((hX1.ext e2).rowAt 0 3)) rfl) (VL.op (R.fld' (o := 0) Try.runUnderlying57 rfl rfl Try.sizeOf55 rfl rfl) (VL.op (R.ldA Try.isAgg55 Try.sizeOf55 rfl rfl ((hX2.rowAt 0 3)) rfl) (?_))))))))))))))))))))))))
  refine VL.callP Try.call68 rfl (rcompare_spec ⟨k1, n1, x1⟩ ⟨k2, n2, x2⟩ _) fun w3_4 e3_4 => VL.op (R.asI rfl) (VL.nil (V.cut [2, 3, 4, 11, 12, 13] (fun _ : Unit => [.slice b t.length cb, .int .i64 i, .int .i64 k, .pointer (some ⟨b1, 0, none⟩), .pointer (some ⟨b2, 0, none⟩), .int .i64 (cmpV ⟨k1, n1, x1⟩ ⟨k2, n2, x2⟩)]) (fun _ w' => Ext _ w' ∧ (by_ ≠ 3 → better by_ (cand l t i) (cand l t k) = 0)) (V.seq (V.region (VL.op (R.mvI rfl) (VL.nil (V.block (V.seq (V.region (VL.op (R.eql rfl rfl) (VL.op (R.asB rfl) (VL.nil (V.condP rfl (fun c30 => V.seq (V.region (VL.op (R.fld' (o := 4) Try.runUnderlying57 rfl rfl Try.sizeOf3 rfl rfl) (VL.op (R.ld1 Try.isAgg3 rfl ((((hX1.ext e2).ext e3_4).cell _))) (VL.op (R.fld' (o := 4) Try.runUnderlying57 rfl rfl Try.sizeOf3 rfl rfl) (VL.op (R.ld1 Try.isAgg3 rfl (((hX2.ext e3_4).cell _))) (VL.op (R.neq rfl rfl) (VL.nil (V.condP rfl (fun c36 => V.seq (V.region (VL.op (R.fld' (o := 4) Try.runUnderlying57 rfl rfl Try.sizeOf3 rfl rfl) (VL.op (R.ld1 Try.isAgg3 rfl ((((hX1.ext e2).ext e3_4).cell _))) (VL.op (R.fld' (o := 4) Try.runUnderlying57 rfl rfl Try.sizeOf3 rfl rfl) (VL.op (R.ld1 Try.isAgg3 rfl (((hX2.ext e3_4).cell _))) (VL.op (R.gtr rfl rfl) (VL.op (R.asB rfl) (VL.nil (V.ret (fret1 (v := .bool _) rfl rfl rfl (⟨?_, ((e1.trans e2).trans e3_4)⟩)))))))))))) (fun c36 => V.skip (⟨(), rfl, ⟨Mod.refl _ _, ?_⟩⟩))))))))))) (fun c30 => V.seq (V.region (VL.op (R.eql rfl rfl) (VL.op (R.asB rfl) (VL.nil (V.condP rfl (fun c42 => V.seq (V.region (VL.op (R.mvS rfl) (VL.op (R.mvI rfl) (VL.callP Try.call69 rfl (frequent_spec a ca l i _ hm hi (hS.ext ((e1.trans e2).trans e3_4))) fun w9_2 e9_2 => VL.op (R.asI rfl) (VL.nil (V.seq (V.region (VL.op (R.mvS rfl) (VL.op (R.mvI rfl) (VL.callP Try.call69 rfl (frequent_spec a ca l k _ hm hk (hS.ext (((e1.trans e2).trans e3_4).trans e9_2))) fun w10_2 e10_2 => VL.op (R.asI rfl) (VL.nil (V.seq (V.region (VL.op (R.mvI rfl) (VL.op (R.mvI rfl) (VL.op (R.neq rfl rfl) (VL.nil (V.condP rfl (fun c52 => V.seq (V.region (VL.op (R.mvI rfl) (VL.op (R.mvI rfl) (VL.op (R.gtr rfl rfl) (VL.op (R.asB rfl) (VL.nil (V.ret (fret1 (v := .bool _) rfl rfl rfl (⟨?_, ((((e1.trans e2).trans e3_4).trans e9_2).trans e10_2)⟩)))))))))) (fun c52 => V.skip (⟨(), rfl, ⟨(Mod.trans e9_2 e10_2), ?_⟩⟩))))))))))))))))))))) (fun c42 => V.seq (V.region (VL.op (R.eql rfl rfl) (VL.op (R.asB rfl) (VL.nil (V.condP rfl (fun c56 => V.seq (V.region (VL.op (R.fld' (o := 0) Try.runUnderlying57 rfl rfl Try.sizeOf55 rfl rfl) (VL.op (R.fld' (o := 2) Try.runUnderlying55 rfl rfl Try.sizeOf9 rfl rfl) (VL.op (R.ld1 Try.isAgg9 rfl ((((hX1.ext e2).ext e3_4).cell _))) (VL.op (R.lenG Try.runUnderlying9 rfl) (VL.op (R.fld' (o := 0) Try.runUnderlying57 rfl rfl Try.sizeOf55 rfl rfl) (VL.op (R.fld' (o := 2) Try.runUnderlying55 rfl rfl Try.sizeOf9 rfl rfl) (VL.op (R.ld1 Try.isAgg9 rfl (((hX2.ext e3_4).cell _))) (VL.op (R.lenG Try.runUnderlying9 rfl) (VL.op (R.neq rfl rfl) (VL.nil (V.condP rfl (fun c66 => V.seq (V.region (VL.op (R.fld' (o := 0) Try.runUnderlying57 rfl rfl Try.sizeOf55 rfl rfl) (VL.op (R.fld' (o := 2) Try.runUnderlying55 rfl rfl Try.sizeOf9 rfl rfl) (VL.op (R.ld1 Try.isAgg9 rfl ((((hX1.ext e2).ext e3_4).cell _))) (VL.op (R.lenG Try.runUnderlying9 rfl) (VL.op (R.fld' (o := 0) Try.runUnderlying57 rfl rfl Try.sizeOf55 rfl rfl) (VL.op (R.fld' (o := 2) Try.runUnderlying55 rfl rfl Try.sizeOf9 rfl rfl) (VL.op (R.ld1 Try.isAgg9 rfl (((hX2.ext e3_4).cell _))) (VL.op (R.lenG Try.runUnderlying9 rfl) (VL.op (R.gtr rfl rfl) (VL.op (R.asB rfl) (VL.nil (V.ret (fret1 (v := .bool _) rfl rfl rfl (⟨?_, ((e1.trans e2).trans e3_4)⟩)))))))))))))))) (fun c66 => V.skip (⟨(), rfl, ⟨Mod.refl _ _, ?_⟩⟩))))))))))))))) (fun c56 => V.seq (V.region (VL.op (R.eql rfl rfl) (VL.op (R.asB rfl) (VL.nil (V.condP rfl (fun c76 => V.seq (V.region (VL.op (R.mvI rfl) (VL.op (R.neq rfl rfl) (VL.nil (V.condP rfl (fun c79 => V.seq (V.region (VL.op (R.mvI rfl) (VL.op (R.lss rfl rfl) (VL.op (R.asB rfl) (VL.nil (V.ret (fret1 (v := .bool _) rfl rfl rfl (⟨?_, ((e1.trans e2).trans e3_4)⟩))))))))) (fun c79 => V.skip (⟨(), rfl, ⟨Mod.refl _ _, ?_⟩⟩)))))))) (fun c76 => V.seq (V.region (VL.op (R.eql rfl rfl) (VL.op (R.asB rfl) (VL.nil (V.condP rfl (fun c82 => V.seq (V.region (VL.op (R.mvI rfl) (VL.op (R.neq rfl rfl) (VL.nil (V.condP rfl (fun c85 => V.seq (V.region (VL.op (R.mvI rfl) (VL.op (R.gtr rfl rfl) (VL.op (R.asB rfl) (VL.nil (V.ret (fret1 (v := .bool _) rfl rfl rfl (⟨?_, ((e1.trans e2).trans e3_4)⟩))))))))) (fun c85 => V.skip (⟨(), rfl, ⟨Mod.refl _ _, ?_⟩⟩)))))))) (fun c82 => V.skip (⟨(), rfl, ⟨Mod.refl _ _, ?_⟩⟩))))))))))))))))))))))))))))))))))))) (fun rgB0 _ wBB0 ⟨eBB0, hBB0⟩ => V.seq (V.seq (V.regionQ mixed 9 (by kernel_rfl) rfl (fun w' => Ext _ w') (Ext.drawn _) (VQ.op (fun wq eq => R.mvS rfl) (VQ.op (fun wq eq => R.mvI rfl) (VQ.op (fun wq eq => R.ixS Try.runUnderlying34 Try.sizeOf3 rfl rfl (by omega) (by omega) (hT.some (i := i) (by omega))) (VQ.op (fun wq eq => R.ld1 Try.isAgg3 rfl ((((hT.ext ((((e1.trans e2).trans e3_4).trans eBB0).trans eq)).row (i := i) (by omega)).cell (i := 0) rfl))) (VQ.op (fun wq eq => R.mvS rfl) (VQ.op (fun wq eq => R.mvI rfl) (VQ.op (fun wq eq => R.ixS Try.runUnderlying34 Try.sizeOf3 rfl rfl (by omega) (by omega) (hT.some (i := k) (by omega))) (VQ.op (fun wq eq => R.ld1 Try.isAgg3 rfl ((((hT.ext ((((e1.trans e2).trans e3_4).trans eBB0).trans eq)).row (i := k) (by omega)).cell (i := 0) rfl))) (VQ.op (fun wq eq => R.neq rfl rfl) (VQ.nil fun w22q e22q => VL.nil (V.condP rfl (fun c96 => V.seq (V.regionQ mixed 10 (by kernel_rfl) rfl (fun w' => Ext _ w') (Ext.drawn _) (VQ.op (fun wq eq => R.mvS rfl) (VQ.op (fun wq eq => R.mvI rfl) (VQ.op (fun wq eq => R.ixS Try.runUnderlying34 Try.sizeOf3 rfl rfl (by omega) (by omega) (hT.some (i := i) (by omega))) (VQ.op (fun wq eq => R.ld1 Try.isAgg3 rfl ((((hT.ext (((((e1.trans e2).trans e3_4).trans eBB0).trans e22q).trans eq)).row (i := i) (by omega)).cell (i := 0) rfl))) (VQ.op (fun wq eq => R.mvS rfl) (VQ.op (fun wq eq => R.mvI rfl) (VQ.op (fun wq eq => R.ixS Try.runUnderlying34 Try.sizeOf3 rfl rfl (by omega) (by omega) (hT.some (i := k) (by omega))) (VQ.op (fun wq eq => R.ld1 Try.isAgg3 rfl ((((hT.ext (((((e1.trans e2).trans e3_4).trans eBB0).trans e22q).trans eq)).row (i := k) (by omega)).cell (i := 0) rfl))) (VQ.op (fun wq eq => R.gtr rfl rfl) (VQ.op (fun wq eq => R.asB rfl) (VQ.nil fun w23q e23q => VL.nil (V.ret (fret1 (v := .bool _) rfl rfl rfl (⟨?_, (((((e1.trans e2).trans e3_4).trans eBB0).trans e22q).trans e23q)⟩)))))))))))))))) (fun c96 => V.skip (V.seq (V.seq (V.region (VL.op (R.fld' (o := 4) Try.runUnderlying57 rfl rfl Try.sizeOf3 rfl rfl) (VL.op (R.ld1 Try.isAgg3 rfl ((((((hX1.ext e2).ext e3_4).ext eBB0).ext e22q).cell _))) (VL.op (R.fld' (o := 4) Try.runUnderlying57 rfl rfl Try.sizeOf3 rfl rfl) (VL.op (R.ld1 Try.isAgg3 rfl (((((hX2.ext e3_4).ext eBB0).ext e22q).cell _))) (VL.op (R.neq rfl rfl) (VL.nil (V.condP rfl (fun c110 => V.seq (V.region (VL.op (R.fld' (o := 4) Try.runUnderlying57 rfl rfl Try.sizeOf3 rfl rfl) (VL.op (R.ld1 Try.isAgg3 rfl ((((((hX1.ext e2).ext e3_4).ext eBB0).ext e22q).cell _))) (VL.op (R.fld' (o := 4) Try.runUnderlying57 rfl rfl Try.sizeOf3 rfl rfl) (VL.op (R.ld1 Try.isAgg3 rfl (((((hX2.ext e3_4).ext eBB0).ext e22q).cell _))) (VL.op (R.gtr rfl rfl) (VL.op (R.asB rfl) (VL.nil (V.ret (fret1 (v := .bool _) rfl rfl rfl (⟨?_, ((((e1.trans e2).trans e3_4).trans eBB0).trans e22q)⟩)))))))))))) (fun c110 => V.skip (V.seq (V.seq (V.region (VL.op (R.mvI rfl) (VL.op (R.neq rfl rfl) (VL.nil (V.condP rfl (fun c117 => V.seq (V.region (VL.op (R.mvI rfl) (VL.op (R.lss rfl rfl) (VL.op (R.asB rfl) (VL.nil (V.ret (fret1 (v := .bool _) rfl rfl rfl (⟨?_, ((((e1.trans e2).trans e3_4).trans eBB0).trans e22q)⟩))))))))) (fun c117 => V.skip (V.seq (V.region (VL.op (R.mvI rfl) (VL.op (R.mvI rfl) (VL.op (R.lss rfl rfl) (VL.op (R.asB rfl) (VL.nil (V.ret (fret1 (v := .bool _) rfl rfl rfl (⟨?_, ((((e1.trans e2).trans e3_4).trans eBB0).trans e22q)⟩))))))))))))))))))))))))))))))))))))))))))))))
  all_goals clear hX1 hX2 r1 r2 hS hT e1 e2
  all_goals have ha := cmpV_cmp.anti ⟨k1, n1, x1⟩ ⟨k2, n2, x2⟩
  all_goals try simp only [befB, befD, cand, ← hc1, ← hc2] at *
  all_goals first | (simp_all [better, cmpI_zero', cmpI_neg]; done) | (simp_all [better, cmpI_zero', cmpI_neg]; omega) | (by_cases hb3 : by_ = 3 <;> simp_all [cmpI_zero', cmpI_neg] <;> simp_all [better, cmpI_zero', cmpI_neg]; done)
end Go.Proofs.Ytckihgamnmmbnaa


/- The reference's best, its choice and its others. -/
namespace Go.Proofs.Ytckihgamnmmbnaa
open Go.Vc

theorem toNat_of {i : Int} (h : 0 ≤ i) : ∃ n : Nat, i = n := ⟨i.toNat, by omega⟩
theorem before_specI (by_ : Int) (a b : Option Addr) (ca cb : Nat) (l : List Cell) (t : List Int) (i k : Int) (w : World) (h1 : 1 ≤ by_) (h6 : by_ ≤ 6) (hm : l.length ≤ 9223372036854775807) (hl : l.length = t.length) (hi0 : 0 ≤ i) (hi : i < l.length) (hk0 : 0 ≤ k) (hk : k < l.length)
    (hS : CellSl w a l) (hT : IntSl w b t) :
    RetsP Try.prog 57 #[.int .i64 by_, .slice a l.length ca, .slice b t.length cb, .int .i64 i, .int .i64 k] w (.bool (befB by_ l t i.toNat k.toNat)) := by
  obtain ⟨i, rfl⟩ := toNat_of hi0
  obtain ⟨k, rfl⟩ := toNat_of hk0
  exact before_spec by_ a b ca cb l t i k w h1 h6 hm hl (by omega) (by omega) hS hT

theorem bswap (x y z : Bool) : ((x && y) && z) = ((x && z) && y) := by cases x <;> cases y <;> cases z <;> rfl
def diffB (l : List Cell) (c : Cell) (j : Int) : Bool := decide (c.val ≠ (l.getD j.toNat default).val)
def okW (l : List Cell) (wl : List Int) (i : Nat) : Bool := counts (l.getD i default) && wl.all (diffB l (l.getD i default))
def bestK (by_ : Int) (l : List Cell) (t wl : List Int) : Nat → Int
  | 0 => -1
  | k + 1 => if (okW l wl k && (decide (bestK by_ l t wl k < 0) || befB by_ l t k (bestK by_ l t wl k).toNat)) = true then k else bestK by_ l t wl k
def bestF (by_ : Int) (l : List Cell) (t wl : List Int) : Int := bestK by_ l t wl l.length
theorem bestK_lt (by_ : Int) (l : List Cell) (t wl : List Int) (k : Nat) : -1 ≤ bestK by_ l t wl k ∧ bestK by_ l t wl k < k := by
  induction k with
  | zero => simp [bestK]
  | succ k ih =>
    unfold bestK
    split <;> omega

def inR (n : Nat) (wl : List Int) : Prop := ∀ j ∈ wl, 0 ≤ j ∧ j < (n : Int)
theorem inR.at {n : Nat} {wl : List Int} (h : inR n wl) {j : Nat} (hj : j < wl.length) : 0 ≤ wl.getD j 0 ∧ wl.getD j 0 < (n : Int) := by
  have : wl.getD j 0 ∈ wl := by simp [List.getD, hj]
  exact h _ this

set_option maxHeartbeats 1000000 in
theorem best_spec (by_ : Int) (a b c : Option Addr) (ca cb cc : Nat) (l : List Cell) (t wl : List Int) (w : World) (h1 : 1 ≤ by_) (h6 : by_ ≤ 6) (hm : l.length ≤ 9223372036854775806) (hl : l.length = t.length) (hwm : wl.length ≤ 9223372036854775806) (hin : inR l.length wl)
    (hS : CellSl w a l) (hT : IntSl w b t) (hW : IntSl w c wl) :
    RetsP Try.prog 45 #[.int .i64 by_, .slice a l.length ca, .slice b t.length cb, .slice c wl.length cc] w (.int .i64 (bestF by_ l t wl)) := by
  refine enter (args := [_, _, _, _]) Try.func45 rfl Try.ntmps45 (by kernel_rfl) rfl ?_
  refine V.seq (V.region (VL.op (R.asI rfl) (VL.nil (V.seq (V.region (VL.op (R.asI rfl) (VL.nil (V.seq (V.seq (V.region (VL.op (R.asI rfl) (VL.nil (V.block (?_))))))))))))))
  refine V.loop [0, 1, 2, 3, 9, 10] (fun k : Nat => [.int .i64 by_, .slice a l.length ca, .slice b t.length cb, .slice c wl.length cc, .int .i64 (bestK by_ l t wl k), .int .i64 k]) (fun k w' => k ≤ l.length ∧ Ext w w') (fun k => l.length - k) 0 rfl ⟨by omega, Mod.refl _ _⟩ ?_
  rintro ρ k w1 ⟨hk, e⟩
  obtain ⟨hb1, hb2⟩ := bestK_lt by_ l t wl k
  refine V.seq (V.seq (V.region (VL.op (R.mvI rfl) (VL.op (R.mvS rfl) (VL.op (R.lenS Try.runUnderlying51 rfl) (VL.op (R.lss rfl rfl) (VL.nil (V.condP rfl (fun c16 => V.skip (V.seq (V.block (V.seq (V.region (VL.op (R.mvS rfl) (VL.op (R.mvI rfl) (VL.op (R.ixS Try.runUnderlying51 Try.sizeOf57 rfl rfl (by omega) (by omega) (hS.some (i := k) (by omega))) (VL.op (R.ldA Try.isAgg57 Try.sizeOf57 rfl rfl (((hS.ext e).row (i := k) (by omega))) rfl) (VL.callP Try.call56 rfl (counts_spec (l.getD k default) _) fun w5_4 e5_4 => VL.op (R.asB rfl) (VL.nil (V.cut [0, 1, 2, 3, 9, 10, 11] (fun _ : Unit => [.int .i64 by_, .slice a l.length ca, .slice b t.length cb, .slice c wl.length cc, .int .i64 (bestK by_ l t wl k), .int .i64 k, .bool (okW l wl k)]) (fun _ w' => Ext _ w') (V.seq (V.region (VL.op (R.asI rfl) (VL.nil (V.block (?_)))))) (fun rgB2 _ wBB2 eBB2 => V.seq (V.regionCut [47, 48, 49, 50, 51, 52, 53, 54, 55, 56, 57, 58, 59] 59 (.bool (okW l wl k && (decide (bestK by_ l t wl k < 0) || befB by_ l t k (bestK by_ l t wl k).toNat))) (fun w' => Ext _ w') rfl (VL.op (R.mvB rfl) (VL.op (R.mvB rfl) (VL.and rfl rfl (fun g10_1 => VL.op (R.mvI rfl) (VL.gT rfl rfl (VL.op (R.lss rfl rfl) (VL.gT rfl rfl (VL.op (R.mvB rfl) (VL.orP rfl rfl (fun g10_4 => VL.op (R.mvI rfl) (VL.gT rfl rfl (VL.op (R.mvS rfl) (VL.gT rfl rfl (VL.op (R.mvS rfl) (VL.gT rfl rfl (VL.op (R.mvI rfl) (VL.gT rfl rfl (VL.op (R.mvI rfl) (VL.gT rfl rfl (VL.callP Try.call57 rfl (before_specI by_ a b ca cb l t k (bestK by_ l t wl k) _ h1 h6 (by omega) hl (by omega) (by omega) (by omega) (by omega) (hS.ext ((e.trans e5_4).trans eBB2)) (hT.ext ((e.trans e5_4).trans eBB2))) fun w10_10 e10_10 => VL.gT rfl rfl (VL.op (R.pickFB rfl rfl) (VL.op (R.pickTB rfl rfl) (VL.nil ⟨rfl, cutB rfl ?_, e10_10⟩)))))))))))))) (fun g10_4 => VL.gF rfl rfl (VL.gF rfl rfl (VL.gF rfl rfl (VL.gF rfl rfl (VL.gF rfl rfl (VL.gT rfl rfl (VL.op (R.pickTB rfl rfl) (VL.op (R.pickTB rfl rfl) (VL.nil ⟨rfl, cutB rfl ?_, Mod.refl _ _⟩))))))))))))))) (fun g10_1 => VL.gF rfl rfl (VL.gF rfl rfl (VL.gU rfl rfl (VL.gU rfl rfl (VL.gU rfl rfl (VL.gU rfl rfl (VL.gU rfl rfl (VL.gU rfl rfl (VL.gF rfl rfl (VL.op (R.pickFB rfl rfl) (VL.nil ⟨rfl, cutB rfl ?_, Mod.refl _ _⟩)))))))))))))) (fun rg10 w10c e10c => V.cond rfl (fun c59 => V.region (VL.op (R.mvI rfl) (VL.op (R.asI rfl) (VL.nil (V.region (VL.op (R.mvI rfl) (VL.op (R.add rfl rfl (by omega) (by omega)) (VL.op (R.asI rfl) (VL.nil (⟨k + 1, ?_, ⟨by omega, (((e.trans e5_4).trans eBB2).trans e10c)⟩, by omega⟩)))))))))) (fun c59 => V.skip (V.region (VL.op (R.mvI rfl) (VL.op (R.add rfl rfl (by omega) (by omega)) (VL.op (R.asI rfl) (VL.nil (⟨k + 1, ?_, ⟨by omega, (((e.trans e5_4).trans eBB2).trans e10c)⟩, by omega⟩)))))))))))))))))))))) (fun c16 => V.exit (V.seq (V.region (VL.op (R.mvI rfl) (VL.op (R.asI rfl) (VL.nil (V.ret (fret1 (v := .int _ _) rfl rfl rfl (⟨?_, e⟩)))))))))))))))))
  · refine V.loop [0, 1, 2, 3, 9, 10, 11, 12] (fun j : Nat => [.int .i64 by_, .slice a l.length ca, .slice b t.length cb, .slice c wl.length cc, .int .i64 (bestK by_ l t wl k), .int .i64 k, .bool ((wl.take j).all (diffB l (l.getD k default)) && counts (l.getD k default)), .int .i64 j]) (fun j w' => j ≤ wl.length ∧ Ext w5_4 w') (fun j => wl.length - j) 0 rfl ⟨by omega, Mod.refl _ _⟩ ?_
    rintro ρ j w2 ⟨hj, e2⟩
    have hsn : j < wl.length → _ := all_snoc (diffB l (l.getD k default)) wl j
    have hat : j < wl.length → _ := fun h => hin.at (j := j) h
    refine V.seq (V.seq (V.region (VL.op (R.mvI rfl) (VL.op (R.mvS rfl) (VL.op (R.lenS Try.runUnderlying34 rfl) (VL.op (R.lss rfl rfl) (VL.nil (V.condP rfl (fun c27 => V.skip (V.seq (V.block (V.regionQCut mixed 18 (by kernel_rfl) rfl (fun w' => Ext _ w') (Ext.drawn _) [11, 30, 31, 32, 33, 34, 35, 36, 37, 38, 39, 40, 41, 42, 43, 44, 45, 46] 11 (.bool (((wl.take j).all (diffB l (l.getD k default)) && counts (l.getD k default)) && diffB l (l.getD k default) (wl.getD j 0))) rfl (VQ.op (fun wq eq => R.mvB rfl) (VQ.op (fun wq eq => R.mvB rfl) (VQ.and rfl rfl (fun g9_1 => VQ.op (fun wq eq => R.mvS rfl) (VQ.gT rfl rfl (VQ.op (fun wq eq => R.mvI rfl) (VQ.gT rfl rfl (VQ.op (fun wq eq => R.ixS Try.runUnderlying51 Try.sizeOf57 rfl rfl (by omega) (by omega) (hS.some (i := k) (by omega))) (VQ.gT rfl rfl (VQ.op (fun wq eq => R.fld' (o := 0) Try.runUnderlying57 rfl rfl Try.sizeOf55 rfl rfl) (VQ.gT rfl rfl (VQ.op (fun wq eq => R.ldA Try.isAgg55 Try.sizeOf55 rfl rfl ((((hS.ext ((e.trans e5_4).trans (e2.trans eq))).row (i := k) (by omega)).sub 0 3 rfl)) rfl) (VQ.gT rfl rfl (VQ.op (fun wq eq => R.mvS rfl) (VQ.gT rfl rfl (VQ.op (fun wq eq => R.mvS rfl) (VQ.gT rfl rfl (VQ.op (fun wq eq => R.mvI rfl) (VQ.gT rfl rfl (VQ.op (fun wq eq => R.ixS Try.runUnderlying34 Try.sizeOf3 rfl rfl (by omega) (by omega) (hW.some (i := j) (by omega))) (VQ.gT rfl rfl (VQ.op (fun wq eq => R.ld1 Try.isAgg3 rfl ((((hW.ext ((e.trans e5_4).trans (e2.trans eq))).row (i := j) (by omega)).cell (i := 0) rfl))) (VQ.gT rfl rfl (VQ.op (fun wq eq => R.ixS Try.runUnderlying51 Try.sizeOf57 rfl rfl (hat (by omega)).1 (hat (by omega)).2 (hS.some (i := k) (by omega))) (VQ.gT rfl rfl (VQ.op (fun wq eq => R.fld' (o := 0) Try.runUnderlying57 rfl rfl Try.sizeOf55 rfl rfl) (VQ.gT rfl rfl (VQ.op (fun wq eq => R.ldA Try.isAgg55 Try.sizeOf55 rfl rfl ((((hS.ext ((e.trans e5_4).trans (e2.trans eq))).row (i := (wl.getD j 0).toNat) (by have := hat (by omega); omega)).sub 0 3 rfl)) rfl) (VQ.gT rfl rfl (VQ.op (fun wq eq => R.neqK key55 Try.eqGuardType55 encV_agg (l.getD k default).val (l.getD (wl.getD j 0).toNat default).val rfl rfl) (VQ.op (fun wq eq => R.pickTB rfl rfl) (VQ.op (fun wq eq => R.asB rfl) (VQ.nil (cutB rfl ?_))))))))))))))))))))))))))))))) (fun g9_1 => VQ.gF rfl rfl (VQ.gF rfl rfl (VQ.gF rfl rfl (VQ.gF rfl rfl (VQ.gF rfl rfl (VQ.gF rfl rfl (VQ.gF rfl rfl (VQ.gF rfl rfl (VQ.gF rfl rfl (VQ.gF rfl rfl (VQ.gF rfl rfl (VQ.gF rfl rfl (VQ.gF rfl rfl (VQ.op (fun wq eq => R.pickFB rfl rfl) (VQ.op (fun wq eq => R.asB rfl) (VQ.nil (cutB rfl ?_)))))))))))))))))))) (fun rg9 w9c e9c => V.region (VL.op (R.mvI rfl) (VL.op (R.add rfl rfl (by omega) (by omega)) (VL.op (R.asI rfl) (VL.nil (⟨j + 1, ?_, ⟨by omega, (e2.trans e9c)⟩, by omega⟩)))))))))) (fun c27 => V.exit (⟨(), ?_, e2⟩))))))))))
    · rw [g9_1]; rfl
    · rw [g9_1]; rfl
    · rw [hsn (by omega), bswap]; rfl
    · have : okW l wl k = ((wl.take j).all (diffB l (l.getD k default)) && counts (l.getD k default)) := by
        have hj : j = wl.length := by omega
        subst hj
        rw [List.take_length, Bool.and_comm]; rfl
      rw [this]; rfl
  · simp [g10_1, g10_4]
  · simp [g10_1, g10_4]
  · simp [g10_1]
  · have : bestK by_ l t wl (k + 1) = k := by unfold bestK; rw [if_pos c59]
    rw [this]; rfl
  · have : bestK by_ l t wl (k + 1) = bestK by_ l t wl k := by rw [bestK, if_neg (by rw [c59]; decide)]
    rw [this]; rfl
  · have : k = l.length := by omega
    subst this; rfl
theorem bestF_lt (by_ : Int) (l : List Cell) (t wl : List Int) : -1 ≤ bestF by_ l t wl ∧ bestF by_ l t wl < l.length := bestK_lt by_ l t wl l.length

def rchooseF (by_ : Int) (l : List Cell) (t : List Int) : Int := if rightB by_ l.length t.length = true then bestF by_ l t [] else -1
theorem rchoose_spec (by_ : Int) (a b : Option Addr) (ca cb : Nat) (l : List Cell) (t : List Int) (w : World) (hm : l.length ≤ 9223372036854775806)
    (hS : CellSl w a l) (hT : IntSl w b t) :
    RetsP Try.prog 29 #[.int .i64 by_, .slice a l.length ca, .slice b t.length cb] w (.int .i64 (rchooseF by_ l t)) := by
  unfold rchooseF
  by_cases hr : rightB by_ l.length t.length = true
  · have h := hr
    simp [rightB] at h
    refine enter (args := [_, _, _]) Try.func29 rfl Try.ntmps29 (by kernel_rfl) rfl ?_
    refine V.seq (V.region (VL.op (R.asI rfl) (VL.nil (V.seq (V.seq (V.region (VL.op (R.mvI rfl) (VL.op (R.mvS rfl) (VL.op (R.mvS rfl) (VL.callP Try.call44 rfl (right_spec by_ a b ca cb _ _ _) fun w1_3 e1_3 => VL.op (R.not rfl) (VL.nil (V.cond rfl (fun c11 => V.seq (V.region (VL.op (R.asI rfl) (VL.nil (V.ret (fret1 (v := .int _ _) rfl rfl rfl (⟨?_, e1_3⟩))))))) (fun c11 => V.skip (V.seq (V.region (VL.op (R.mvI rfl) (VL.op (R.mvS rfl) (VL.op (R.mvS rfl) (VL.callP Try.call45 rfl (best_spec by_ a b none ca cb 0 l t [] _ (by omega) (by omega) hm (by omega) (by simp) (by intro j hj; cases hj) (hS.ext e1_3) (hT.ext e1_3) (TSl.nil _ _ _ _)) fun w3_3 e3_3 => VL.op (R.asI rfl) (VL.nil (V.ret (fret1 (v := .int _ _) rfl rfl rfl (⟨?_, (e1_3.trans e3_3)⟩)))))))))))))))))))))))
    all_goals simp_all
  · refine enter (args := [_, _, _]) Try.func29 rfl Try.ntmps29 (by kernel_rfl) rfl ?_
    refine V.seq (V.region (VL.op (R.asI rfl) (VL.nil (V.seq (V.seq (V.region (VL.op (R.mvI rfl) (VL.op (R.mvS rfl) (VL.op (R.mvS rfl) (VL.callP Try.call44 rfl (right_spec by_ a b ca cb _ _ _) fun w1_3 e1_3 => VL.op (R.not rfl) (VL.nil (V.cond rfl (fun c11 => V.seq (V.region (VL.op (R.asI rfl) (VL.nil (V.ret (fret1 (v := .int _ _) rfl rfl rfl (⟨?_, e1_3⟩))))))) (fun c11 => V.skip (V.seq (?_)))))))))))))))
    all_goals simp_all
theorem rchooseF_lt (by_ : Int) (l : List Cell) (t : List Int) : -1 ≤ rchooseF by_ l t ∧ rchooseF by_ l t < l.length := by
  unfold rchooseF
  split
  · exact bestF_lt _ _ _ _
  · omega
end Go.Proofs.Ytckihgamnmmbnaa


/- The reference's others. -/
namespace Go.Proofs.Ytckihgamnmmbnaa
open Go.Vc

theorem filter_add {α : Type} (p : α → Bool) (l : List α) : l.length = (l.filter p).length + (l.filter fun x => !p x).length := by
  induction l with
  | nil => rfl
  | cons x l ih => by_cases h : p x = true <;> simp [List.filter_cons, h] <;> omega
theorem nodup_len (n : Nat) (d : List Int) (hd : d.Nodup) (hr : inR n d) : d.length ≤ n := by
  induction n generalizing d with
  | zero =>
    cases d with
    | nil => simp
    | cons x d => have := hr x (by simp); omega
  | succ n ih =>
    have h1 : (d.filter fun x => decide (x ≠ (n : Int))).length ≤ n := by
      refine ih _ (hd.filter _) ?_
      intro j hj
      have h := List.mem_filter.1 hj
      have := hr j h.1
      have := of_decide_eq_true h.2
      omega
    have h2 : (d.filter fun x => decide (x = (n : Int))).length ≤ 1 := by
      have h3 : (d.filter fun x => decide (x = (n : Int))) = d.filter (fun x => x == (n : Int)) := by congr
      rw [h3, ← List.count_eq_length_filter]
      exact List.nodup_iff_count.1 hd _
    have h4 := filter_add (fun x => decide (x = (n : Int))) d
    have h5 : (d.filter fun x => !decide (x = (n : Int))) = d.filter (fun x => decide (x ≠ (n : Int))) := by congr; funext x; simp
    rw [h5] at h4
    omega

def doneF (by_ : Int) (l : List Cell) (t : List Int) : Nat → List Int → List Int
  | 0, d => d
  | m + 1, d => if bestF by_ l t d < 0 then d else doneF by_ l t m (d ++ [bestF by_ l t d])
def rothersF (by_ : Int) (l : List Cell) (t : List Int) : List Int :=
  if rchooseF by_ l t < 0 then [] else (doneF by_ l t l.length [rchooseF by_ l t]).drop 1

theorem bestK_ok (by_ : Int) (l : List Cell) (t wl : List Int) (k : Nat) (h : 0 ≤ bestK by_ l t wl k) : okW l wl (bestK by_ l t wl k).toNat = true := by
  induction k with
  | zero => simp [bestK] at h
  | succ k ih =>
    rw [bestK] at h ⊢
    split at h
    · rename_i hc
      rw [if_pos hc]
      exact (Bool.and_eq_true _ _ ▸ hc).1
    · rename_i hc
      rw [if_neg hc]
      exact ih h
theorem bestF_new (by_ : Int) (l : List Cell) (t wl : List Int) (h : 0 ≤ bestF by_ l t wl) : bestF by_ l t wl ∉ wl := by
  intro hm
  have h1 := bestK_ok by_ l t wl l.length h
  unfold okW at h1
  rw [Bool.and_eq_true, List.all_eq_true] at h1
  have := h1.2 _ hm
  simp [diffB, bestF] at this

/-- The list that is made so far. -/
structure DoneJ (by_ : Int) (l : List Cell) (t : List Int) (d : List Int) : Prop where
  m : ∃ m, doneF by_ l t l.length [rchooseF by_ l t] = doneF by_ l t m d ∧ l.length + 1 ≤ m + d.length
  nd : d.Nodup
  r : inR l.length d
  pos : 1 ≤ d.length
theorem DoneJ.len {by_ : Int} {l : List Cell} {t d : List Int} (h : DoneJ by_ l t d) : d.length ≤ l.length := nodup_len _ _ h.nd h.r
theorem DoneJ.step {by_ : Int} {l : List Cell} {t d : List Int} (h : DoneJ by_ l t d) (hb : ¬ bestF by_ l t d < 0) : DoneJ by_ l t (d ++ [bestF by_ l t d]) := by
  obtain ⟨m, he, hm⟩ := h.m
  have := h.len
  cases m with
  | zero => omega
  | succ m =>
    rw [doneF, if_neg hb] at he
    refine ⟨⟨m, he, by simp; omega⟩, ?_, ?_, by simp⟩
    · rw [List.nodup_append]
      refine ⟨h.nd, by simp, ?_⟩
      intro x hx y hy hxy
      simp at hy
      subst hy; subst hxy
      exact bestF_new _ _ _ _ (by omega) hx
    · intro j hj
      rcases List.mem_append.1 hj with hj | hj
      · exact h.r j hj
      · simp at hj
        subst hj
        have := bestF_lt by_ l t d
        omega
theorem DoneJ.fin {by_ : Int} {l : List Cell} {t d : List Int} (h : DoneJ by_ l t d) (hb : bestF by_ l t d < 0) : doneF by_ l t l.length [rchooseF by_ l t] = d := by
  obtain ⟨m, he, hm⟩ := h.m
  rw [he]
  cases m with
  | zero => rfl
  | succ m => rw [doneF, if_pos hb]
theorem DoneJ.start (by_ : Int) (l : List Cell) (t : List Int) (h : ¬ rchooseF by_ l t < 0) : DoneJ by_ l t [rchooseF by_ l t] := by
  refine ⟨⟨l.length, rfl, by simp⟩, by simp, ?_, by simp⟩
  intro j hj
  simp at hj
  subst hj
  have := rchooseF_lt by_ l t
  omega

set_option maxHeartbeats 1000000 in
theorem rothers_spec (by_ : Int) (a b : Option Addr) (ca cb : Nat) (l : List Cell) (t : List Int) (w : World) (hm : l.length ≤ 1000000)
    (hS : CellSl w a l) (hT : IntSl w b t) :
    RetsX Try.prog 52 #[.int .i64 by_, .slice a l.length ca, .slice b t.length cb] w (fun x : Option Addr × Nat => .slice x.1 (rothersF by_ l t).length x.2) (fun x w' => IntSl w' x.1 (rothersF by_ l t) ∧ (x.1 = none → x.2 = 0) ∧ ∀ k, aBlk x.1 k → w.heap.size ≤ k) := by
  refine enter (args := [_, _, _]) Try.func52 rfl Try.ntmps52 (by kernel_rfl) rfl ?_
  refine V.seq (V.region (VL.op (R.asS rfl) (VL.nil (V.seq (V.region (VL.op (R.mvI rfl) (VL.op (R.mvS rfl) (VL.op (R.mvS rfl) (VL.callP Try.call29 rfl (rchoose_spec by_ a b ca cb l t _ (by omega) (hS.ext (Mod.refl _ _)) (hT.ext (Mod.refl _ _))) fun w1_3 e1_3 => VL.op (R.asI rfl) (VL.nil (V.seq (V.seq (V.region (VL.op (R.mvI rfl) (VL.op (R.lss rfl rfl) (VL.nil (V.condP rfl (fun c15 => V.seq (V.region (VL.op (R.asS rfl) (VL.nil (V.ret (fret1 (v := .slice _ _ _) rfl rfl rfl (⟨(none, 0), ?_, ⟨?_, fun _ => rfl, fun k hk => (by obtain ⟨_, h, _⟩ := hk; cases h)⟩, e1_3⟩))))))) (fun c15 => V.skip (V.seq (V.region (VL.op (R.mvI rfl) (VL.buildSl Try.runUnderlying34 Try.sizeOf3 Try.zeroValue3 rfl rfl rfl fun b4_1 w4_1 hb4_1 e4_1 hB4_1 => VL.op (R.asS rfl) (VL.nil (V.block (?_)))))))))))))))))))))))))
  · unfold rothersF; rw [if_pos c15]; rfl
  · unfold rothersF; rw [if_pos c15]; exact TSl.nil _ _ _ _
  have hr : rightB by_ l.length t.length = true := by
    by_cases h : rightB by_ l.length t.length = true
    · exact h
    · exfalso; apply c15; unfold rchooseF; rw [if_neg h]; decide
  simp [rightB] at hr
  have hO := OwnT.of_blk (enc := encI) (s := 1) (e := 3) (B := w.heap.size) (l := [rchooseF by_ l t]) hB4_1 (by rw [hb4_1]; exact e1_3.size) rfl (by simp [encI]) (by simp [maxLen])
  refine V.loop [0, 1, 2, 8] (fun x : List Int × Option Addr × Nat => [.int .i64 by_, .slice a l.length ca, .slice b t.length cb, .slice x.2.1 x.1.length x.2.2])
    (fun x w' => DoneJ by_ l t x.1 ∧ OwnT encI 1 3 w.heap.size w' x.2.1 x.2.2 x.1 ∧ Ext w w') (fun x => l.length + 1 - x.1.length) ([rchooseF by_ l t], some ⟨b4_1, 0, none⟩, 1) rfl ⟨DoneJ.start _ _ _ c15, hO, e1_3.trans e4_1⟩ ?_
  rintro ρ ⟨d, a2, c2⟩ w2 ⟨hd, ho, e⟩
  dsimp only at hd ho e ⊢
  have hd1 := hd.len
  have hd2 := hd.pos
  refine V.block (V.seq (V.region (VL.op (R.mvI rfl) (VL.op (R.mvS rfl) (VL.op (R.mvS rfl) (VL.op (R.mvS rfl) (VL.callP Try.call45 rfl (best_spec by_ a b a2 ca cb c2 l t d _ (by omega) (by omega) (by omega) (by omega) (by omega) hd.r (hS.ext e) (hT.ext e) ho.sl) fun w5_4 e5_4 => VL.op (R.asI rfl) (VL.nil (V.seq (V.seq (V.region (VL.op (R.mvI rfl) (VL.op (R.lss rfl rfl) (VL.nil (V.condP rfl (fun c24 => V.seq (V.region (VL.op (R.mvS rfl) (VL.op (R.slLo Try.runUnderlying34 Try.sizeOf3 rfl rfl (by omega) (by omega)) (VL.op (R.asS rfl) (VL.nil (V.ret (fret1 (v := .slice _ _ _) rfl rfl rfl (⟨(cutA a2 1 1 c2, c2 - 1), ?_, ⟨?_, ?_, ?_⟩, (e.trans e5_4)⟩))))))))) (fun c24 => V.skip (V.region (VL.op (R.mvS rfl) (VL.op (R.mvI rfl) (VL.append1 el34 Try.runUnderlying34 Try.sizeOf3 Try.zeroValue3 rfl (bestF by_ l t d) rfl rfl rfl (ho.ext e5_4) rfl rfl rfl (by omega) (by unfold maxLen; omega) ((e.trans e5_4)).size fun a3 c3 w3 vt hO3 hM3 hF3 => VL.op (R.asS rfl) (VL.nil (⟨(d ++ [bestF by_ l t d], a3, c3), ?_, ⟨hd.step c24, hO3, (Mod.ownA (e.trans e5_4) hM3 (fun k hk => (OwnSl.blk (ho.ext e5_4) k hk).1))⟩, by simp; omega⟩))))))))))))))))))))))
  · have hf : rothersF by_ l t = d.drop 1 := by unfold rothersF; rw [if_neg c15, hd.fin c24]
    rw [hf, List.length_drop]; rfl
  · have hf : rothersF by_ l t = d.drop 1 := by unfold rothersF; rw [if_neg c15, hd.fin c24]
    rw [hf]
    exact ((ho.ext e5_4).sl).drop 1 c2 (ho.cap)
  · obtain ⟨x, y, hx⟩ := ho.sl.some (i := 0) (by omega)
    intro h
    exfalso
    subst hx
    simp only [cutA] at h
    split at h <;> simp at h
  · obtain ⟨x, y, hx⟩ := ho.sl.some (i := 0) (by omega)
    rintro k ⟨ad, h, rfl⟩
    have hge := (OwnSl.blk ho x ⟨_, hx, rfl⟩).1
    subst hx
    simp only [cutA] at h
    split at h <;> (injection h with h; rw [← h]; exact hge)
  · rw [List.length_append]; rfl
end Go.Proofs.Ytckihgamnmmbnaa


/- The comparing functions that are values. -/
namespace Go.Proofs.Ytckihgamnmmbnaa
open Go.Vc

def encCand (c : Cand) : List Value := encCell c.cell ++ [.int .i64 c.at_, .int .i64 c.trust, .int .i64 c.many]

theorem rule1_spec (a b : Cand) (w : World) : RetsP Try.prog 71 #[.agg (encCand a).toArray, .agg (encCand b).toArray] w (.int .i64 (cmpI b.cell.time a.cell.time)) := by
  refine enter (args := [_, _]) Try.func71 rfl Try.ntmps71 (by kernel_rfl) rfl ?_
  refine V.seq (V.region (VL.box (v := .agg _) rfl fun b0_0 w0_0 hb0_0 e0_0 hB0_0 => VL.box (v := .agg _) rfl fun b0_1 w0_1 hb0_1 e0_1 hB0_1 => VL.op (R.asI rfl) (VL.nil (V.seq (V.region (VL.op (R.fld' (o := 0) Try.runUnderlying112 rfl rfl Try.sizeOf57 rfl rfl) (VL.op (R.fld' (o := 4) Try.runUnderlying57 rfl rfl Try.sizeOf3 rfl rfl) (VL.op (R.ld1 Try.isAgg3 rfl ((hB0_1.cell _))) (VL.op (R.fld' (o := 0) Try.runUnderlying112 rfl rfl Try.sizeOf57 rfl rfl) (VL.op (R.fld' (o := 4) Try.runUnderlying57 rfl rfl Try.sizeOf3 rfl rfl) (VL.op (R.ld1 Try.isAgg3 rfl (((hB0_0.ext e0_1).cell _))) (?_))))))))))))
  refine VL.callP Try.call66 rfl (cmpI_spec _ _ _) fun w1_6 e1_6 => VL.op (R.asI rfl) (VL.nil (V.ret (fret1 (v := .int _ _) rfl rfl rfl (⟨rfl, ((e0_0.trans e0_1).trans e1_6)⟩))))
theorem rule2_spec (a b : Cand) (w : World) : RetsP Try.prog 72 #[.agg (encCand a).toArray, .agg (encCand b).toArray] w (.int .i64 (cmpI b.many a.many)) := by
  refine enter (args := [_, _]) Try.func72 rfl Try.ntmps72 (by kernel_rfl) rfl ?_
  refine V.seq (V.region (VL.box (v := .agg _) rfl fun b0_0 w0_0 hb0_0 e0_0 hB0_0 => VL.box (v := .agg _) rfl fun b0_1 w0_1 hb0_1 e0_1 hB0_1 => VL.op (R.asI rfl) (VL.nil (V.seq (V.region (VL.op (R.fld' (o := 7) Try.runUnderlying112 rfl rfl Try.sizeOf3 rfl rfl) (VL.op (R.ld1 Try.isAgg3 rfl ((hB0_1.cell _))) (VL.op (R.fld' (o := 7) Try.runUnderlying112 rfl rfl Try.sizeOf3 rfl rfl) (VL.op (R.ld1 Try.isAgg3 rfl (((hB0_0.ext e0_1).cell _))) (?_))))))))))
  refine VL.callP Try.call66 rfl (cmpI_spec _ _ _) fun w1_4 e1_4 => VL.op (R.asI rfl) (VL.nil (V.ret (fret1 (v := .int _ _) rfl rfl rfl (⟨rfl, ((e0_0.trans e0_1).trans e1_4)⟩))))
theorem rule3_spec (a b : Cand) (w : World) : RetsP Try.prog 73 #[.agg (encCand a).toArray, .agg (encCand b).toArray] w (.int .i64 (cmpI b.trust a.trust)) := by
  refine enter (args := [_, _]) Try.func73 rfl Try.ntmps73 (by kernel_rfl) rfl ?_
  refine V.seq (V.region (VL.box (v := .agg _) rfl fun b0_0 w0_0 hb0_0 e0_0 hB0_0 => VL.box (v := .agg _) rfl fun b0_1 w0_1 hb0_1 e0_1 hB0_1 => VL.op (R.asI rfl) (VL.nil (V.seq (V.region (VL.op (R.fld' (o := 6) Try.runUnderlying112 rfl rfl Try.sizeOf3 rfl rfl) (VL.op (R.ld1 Try.isAgg3 rfl ((hB0_1.cell _))) (VL.op (R.fld' (o := 6) Try.runUnderlying112 rfl rfl Try.sizeOf3 rfl rfl) (VL.op (R.ld1 Try.isAgg3 rfl (((hB0_0.ext e0_1).cell _))) (?_))))))))))
  refine VL.callP Try.call66 rfl (cmpI_spec _ _ _) fun w1_4 e1_4 => VL.op (R.asI rfl) (VL.nil (V.ret (fret1 (v := .int _ _) rfl rfl rfl (⟨rfl, ((e0_0.trans e0_1).trans e1_4)⟩))))
theorem rule4_spec (a b : Cand) (w : World) : RetsP Try.prog 74 #[.agg (encCand a).toArray, .agg (encCand b).toArray] w (.int .i64 (cmpI b.cell.val.text.size a.cell.val.text.size)) := by
  refine enter (args := [_, _]) Try.func74 rfl Try.ntmps74 (by kernel_rfl) rfl ?_
  refine V.seq (V.region (VL.box (v := .agg _) rfl fun b0_0 w0_0 hb0_0 e0_0 hB0_0 => VL.box (v := .agg _) rfl fun b0_1 w0_1 hb0_1 e0_1 hB0_1 => VL.op (R.asI rfl) (VL.nil (V.seq (V.region (VL.op (R.fld' (o := 0) Try.runUnderlying112 rfl rfl Try.sizeOf57 rfl rfl) (VL.op (R.fld' (o := 0) Try.runUnderlying57 rfl rfl Try.sizeOf55 rfl rfl) (VL.op (R.fld' (o := 2) Try.runUnderlying55 rfl rfl Try.sizeOf9 rfl rfl) (VL.op (R.ld1 Try.isAgg9 rfl ((hB0_1.cell _))) (VL.op (R.lenG Try.runUnderlying9 rfl) (VL.op (R.fld' (o := 0) Try.runUnderlying112 rfl rfl Try.sizeOf57 rfl rfl) (VL.op (R.fld' (o := 0) Try.runUnderlying57 rfl rfl Try.sizeOf55 rfl rfl) (VL.op (R.fld' (o := 2) Try.runUnderlying55 rfl rfl Try.sizeOf9 rfl rfl) (VL.op (R.ld1 Try.isAgg9 rfl (((hB0_0.ext e0_1).cell _))) (VL.op (R.lenG Try.runUnderlying9 rfl) (?_))))))))))))))))
  refine VL.callP Try.call66 rfl (cmpI_spec _ _ _) fun w1_10 e1_10 => VL.op (R.asI rfl) (VL.nil (V.ret (fret1 (v := .int _ _) rfl rfl rfl (⟨rfl, ((e0_0.trans e0_1).trans e1_10)⟩))))
theorem rule5_spec (a b : Cand) (w : World) : RetsP Try.prog 75 #[.agg (encCand a).toArray, .agg (encCand b).toArray] w (.int .i64 (cmpV a.cell.val b.cell.val)) := by
  refine enter (args := [_, _]) Try.func75 rfl Try.ntmps75 (by kernel_rfl) rfl ?_
  refine V.seq (V.region (VL.box (v := .agg _) rfl fun b0_0 w0_0 hb0_0 e0_0 hB0_0 => VL.box (v := .agg _) rfl fun b0_1 w0_1 hb0_1 e0_1 hB0_1 => VL.op (R.asI rfl) (VL.nil (V.seq (V.region (VL.op (R.fld' (o := 0) Try.runUnderlying112 rfl rfl Try.sizeOf57 rfl rfl) (VL.op (R.fld' (o := 0) Try.runUnderlying57 rfl rfl Try.sizeOf55 rfl rfl) (VL.op (R.ldA Try.isAgg55 Try.sizeOf55 rfl rfl (((hB0_0.ext e0_1).rowAt 0 3)) rfl) (VL.op (R.fld' (o := 0) Try.runUnderlying112 rfl rfl Try.sizeOf57 rfl rfl) (VL.op (R.fld' (o := 0) Try.runUnderlying57 rfl rfl Try.sizeOf55 rfl rfl) (VL.op (R.ldA Try.isAgg55 Try.sizeOf55 rfl rfl ((hB0_1.rowAt 0 3)) rfl) (?_))))))))))))
  refine VL.callP Try.call67 rfl (compare_spec a.cell.val b.cell.val _) fun w1_6 e1_6 => VL.op (R.asI rfl) (VL.nil (V.ret (fret1 (v := .int _ _) rfl rfl rfl (⟨rfl, ((e0_0.trans e0_1).trans e1_6)⟩))))
theorem rule6_spec (a b : Cand) (w : World) : RetsP Try.prog 76 #[.agg (encCand a).toArray, .agg (encCand b).toArray] w (.int .i64 (cmpV b.cell.val a.cell.val)) := by
  refine enter (args := [_, _]) Try.func76 rfl Try.ntmps76 (by kernel_rfl) rfl ?_
  refine V.seq (V.region (VL.box (v := .agg _) rfl fun b0_0 w0_0 hb0_0 e0_0 hB0_0 => VL.box (v := .agg _) rfl fun b0_1 w0_1 hb0_1 e0_1 hB0_1 => VL.op (R.asI rfl) (VL.nil (V.seq (V.region (VL.op (R.fld' (o := 0) Try.runUnderlying112 rfl rfl Try.sizeOf57 rfl rfl) (VL.op (R.fld' (o := 0) Try.runUnderlying57 rfl rfl Try.sizeOf55 rfl rfl) (VL.op (R.ldA Try.isAgg55 Try.sizeOf55 rfl rfl ((hB0_1.rowAt 0 3)) rfl) (VL.op (R.fld' (o := 0) Try.runUnderlying112 rfl rfl Try.sizeOf57 rfl rfl) (VL.op (R.fld' (o := 0) Try.runUnderlying57 rfl rfl Try.sizeOf55 rfl rfl) (VL.op (R.ldA Try.isAgg55 Try.sizeOf55 rfl rfl (((hB0_0.ext e0_1).rowAt 0 3)) rfl) (?_))))))))))))
  refine VL.callP Try.call67 rfl (compare_spec b.cell.val a.cell.val _) fun w1_6 e1_6 => VL.op (R.asI rfl) (VL.nil (V.ret (fret1 (v := .int _ _) rfl rfl rfl (⟨rfl, ((e0_0.trans e0_1).trans e1_6)⟩))))

/-- The rule's function. -/
def ruleF (by_ : Int) : Nat := if by_ = 1 then 71 else if by_ = 2 then 72 else if by_ = 3 then 73 else if by_ = 4 then 74 else if by_ = 5 then 75 else 76
theorem rule_spec (by_ : Int) (a b : Cand) (w : World) : RetsP Try.prog (ruleF by_) #[.agg (encCand a).toArray, .agg (encCand b).toArray] w (.int .i64 (better by_ a b)) := by
  unfold ruleF better
  (repeat' split)
  · exact rule1_spec a b w
  · exact rule2_spec a b w
  · exact rule3_spec a b w
  · exact rule4_spec a b w
  · exact rule5_spec a b w
  · exact rule6_spec a b w
theorem rule_fn (by_ : Int) : IsFn Try.prog (ruleF by_) := by
  unfold ruleF
  (repeat' split)
  · exact Try.call71
  · exact Try.call72
  · exact Try.call73
  · exact Try.call74
  · exact Try.call75
  · exact Try.call76
end Go.Proofs.Ytckihgamnmmbnaa


/- The comparison that the sort is handed. -/
namespace Go.Proofs.Ytckihgamnmmbnaa
open Go.Vc

theorem encI_len (l : List Int) : ∀ r ∈ l.map encI, r.length = 1 := by
  intro r hr
  obtain ⟨x, _, rfl⟩ := List.mem_map.1 hr
  rfl

set_option maxHeartbeats 1000000 in
theorem order_spec (by_ : Int) (a b : Cand) (p : Nat) (w : World) (hB : Blk w p (.cells #[.func (.func (ruleF by_)) #[] #[]] 120 (0, 0))) :
    RetsP Try.prog 64 #[.agg (encCand a).toArray, .agg (encCand b).toArray, .pointer (some ⟨p, 0, none⟩)] w (.int .i64 (cmpC by_ a b)) := by
  rw [cmpC_or]
  refine enter (args := [_, _, _]) Try.func64 rfl Try.ntmps64 (by kernel_rfl) rfl ?_
  refine V.seq (V.region (VL.box (v := .agg _) rfl fun b1 w1 hb1 e1 hX1 => VL.box (v := .agg _) rfl fun b2 w2 hb2 e2 hX2 => VL.op (R.asI rfl) (VL.nil (V.seq (V.regionQ mixed 28 (by kernel_rfl) rfl (fun w' => Ext _ w') (Ext.drawn _) (VQ.op (fun wq eq => R.ld1 Try.isAgg120 rfl ((hB.ext ((e1.trans e2).trans eq)).cell _)) (VQ.op (fun wq eq => R.ldA Try.isAgg112 Try.sizeOf112 rfl rfl ((((hX1.ext e2).ext eq).rowAt 0 8)) rfl) (VQ.op (fun wq eq => R.ldA Try.isAgg112 Try.sizeOf112 rfl rfl (((hX2.ext eq).rowAt 0 8)) rfl) (VQ.callCP (fun _ _ h k => Mod.trans h k) rfl (rule_fn by_) rfl (fun wq eq => rule_spec by_ a b _) (VQ.op (fun wq eq => R.fld' (o := 6) Try.runUnderlying112 rfl rfl Try.sizeOf3 rfl rfl) (VQ.op (fun wq eq => R.ld1 Try.isAgg3 rfl (((hX2.ext eq).cell _))) (VQ.op (fun wq eq => R.fld' (o := 6) Try.runUnderlying112 rfl rfl Try.sizeOf3 rfl rfl) (VQ.op (fun wq eq => R.ld1 Try.isAgg3 rfl ((((hX1.ext e2).ext eq).cell _))) (VQ.callP (fun _ _ h k => Mod.trans h k) Try.call66 rfl (fun wq eq => cmpI_spec _ _ _) (VQ.op (fun wq eq => R.fld' (o := 0) Try.runUnderlying112 rfl rfl Try.sizeOf57 rfl rfl) (VQ.op (fun wq eq => R.fld' (o := 4) Try.runUnderlying57 rfl rfl Try.sizeOf3 rfl rfl) (VQ.op (fun wq eq => R.ld1 Try.isAgg3 rfl (((hX2.ext eq).cell _))) (VQ.op (fun wq eq => R.fld' (o := 0) Try.runUnderlying112 rfl rfl Try.sizeOf57 rfl rfl) (VQ.op (fun wq eq => R.fld' (o := 4) Try.runUnderlying57 rfl rfl Try.sizeOf3 rfl rfl) (VQ.op (fun wq eq => R.ld1 Try.isAgg3 rfl ((((hX1.ext e2).ext eq).cell _))) (VQ.callP (fun _ _ h k => Mod.trans h k) Try.call66 rfl (fun wq eq => cmpI_spec _ _ _) (VQ.op (fun wq eq => R.fld' (o := 0) Try.runUnderlying112 rfl rfl Try.sizeOf57 rfl rfl) (VQ.op (fun wq eq => R.fld' (o := 0) Try.runUnderlying57 rfl rfl Try.sizeOf55 rfl rfl) (VQ.op (fun wq eq => R.ldA Try.isAgg55 Try.sizeOf55 rfl rfl ((((hX1.ext e2).ext eq).rowAt 0 3)) rfl) (VQ.op (fun wq eq => R.fld' (o := 0) Try.runUnderlying112 rfl rfl Try.sizeOf57 rfl rfl) (VQ.op (fun wq eq => R.fld' (o := 0) Try.runUnderlying57 rfl rfl Try.sizeOf55 rfl rfl) (VQ.op (fun wq eq => R.ldA Try.isAgg55 Try.sizeOf55 rfl rfl (((hX2.ext eq).rowAt 0 3)) rfl) (VQ.callP (fun _ _ h k => Mod.trans h k) Try.call67 rfl (fun wq eq => compare_spec a.cell.val b.cell.val _) (VQ.op (fun wq eq => R.fld' (o := 5) Try.runUnderlying112 rfl rfl Try.sizeOf3 rfl rfl) (VQ.op (fun wq eq => R.ld1 Try.isAgg3 rfl ((((hX1.ext e2).ext eq).cell _))) (VQ.op (fun wq eq => R.fld' (o := 5) Try.runUnderlying112 rfl rfl Try.sizeOf3 rfl rfl) (VQ.op (fun wq eq => R.ld1 Try.isAgg3 rfl (((hX2.ext eq).cell _))) (VQ.callP (fun _ _ h k => Mod.trans h k) Try.call66 rfl (fun wq eq => cmpI_spec _ _ _) (VQ.nil fun w1q e1q => VL.buildSl Try.runUnderlying34 Try.sizeOf3 Try.zeroValue3 rfl rfl rfl fun b3 w3 hb3 e3 hX3 => ?_))))))))))))))))))))))))))))))))))
  refine VL.callP Try.call65 rfl (or_spec _ 5 [better by_ a b, cmpI b.trust a.trust, cmpI b.cell.time a.cell.time, cmpV a.cell.val b.cell.val, cmpI a.at_ b.at_] _ (by simp) (OwnT.sl (B := 0) (e := 3) (cap := 5) (OwnT.of_blk (l := [better by_ a b, cmpI b.trust a.trust, cmpI b.cell.time a.cell.time, cmpV a.cell.val b.cell.val, cmpI a.at_ b.at_]) hX3 (Nat.zero_le _) rfl (encI_len _) (by simp [maxLen])))) fun w1_29 e1_29 => VL.op (R.asI rfl) (VL.nil (V.ret (fret1 (v := .int _ _) rfl rfl rfl (⟨rfl, ((((e1.trans e2).trans e1q).trans e3).trans e1_29)⟩))))
end Go.Proofs.Ytckihgamnmmbnaa

