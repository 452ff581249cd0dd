/- The reference's best, its choice and its others. -/
import Derived.Test.YtbckofoibdljgaaS5
namespace Go.Proofs.Ytbckofoibdljgaa
open Go.Vc

theorem toNat_of {i : Int} (h : 0 ≤ i) : ∃ n : Nat, i = n := ⟨i.toNat, by omega⟩
theorem before_specI (by_ : Int) (a b : Option Addr) (ca cb : Nat) (l : List Cell) (t : List Int) (i k : Int) (w : World) (h1 : 1 ≤ by_) (h6 : by_ ≤ 6) (hm : l.length ≤ 9223372036854775807) (hl : l.length = t.length) (hi0 : 0 ≤ i) (hi : i < l.length) (hk0 : 0 ≤ k) (hk : k < l.length)
    (hS : CellSl w a l) (hT : IntSl w b t) :
    RetsP Try.prog 33 #[.int .i64 by_, .slice a l.length ca, .slice b t.length cb, .int .i64 i, .int .i64 k] w (.bool (befB by_ l t i.toNat k.toNat)) := by
  obtain ⟨i, rfl⟩ := toNat_of hi0
  obtain ⟨k, rfl⟩ := toNat_of hk0
  exact before_spec by_ a b ca cb l t i k w h1 h6 hm hl (by omega) (by omega) hS hT

theorem bswap (x y z : Bool) : ((x && y) && z) = ((x && z) && y) := by cases x <;> cases y <;> cases z <;> rfl
def diffB (l : List Cell) (c : Cell) (j : Int) : Bool := decide (c.val ≠ (l.getD j.toNat default).val)
def okW (l : List Cell) (wl : List Int) (i : Nat) : Bool := counts (l.getD i default) && wl.all (diffB l (l.getD i default))
def bestK (by_ : Int) (l : List Cell) (t wl : List Int) : Nat → Int
  | 0 => -1
  | k + 1 => if (okW l wl k && (decide (bestK by_ l t wl k < 0) || befB by_ l t k (bestK by_ l t wl k).toNat)) = true then k else bestK by_ l t wl k
def bestF (by_ : Int) (l : List Cell) (t wl : List Int) : Int := bestK by_ l t wl l.length
theorem bestK_lt (by_ : Int) (l : List Cell) (t wl : List Int) (k : Nat) : -1 ≤ bestK by_ l t wl k ∧ bestK by_ l t wl k < k := by
  induction k with
  | zero => simp [bestK]
  | succ k ih =>
    unfold bestK
    split <;> omega

def inR (n : Nat) (wl : List Int) : Prop := ∀ j ∈ wl, 0 ≤ j ∧ j < (n : Int)
theorem inR.at {n : Nat} {wl : List Int} (h : inR n wl) {j : Nat} (hj : j < wl.length) : 0 ≤ wl.getD j 0 ∧ wl.getD j 0 < (n : Int) := by
  have : wl.getD j 0 ∈ wl := by simp [List.getD, hj]
  exact h _ this

set_option maxHeartbeats 1000000 in
theorem best_spec (by_ : Int) (a b c : Option Addr) (ca cb cc : Nat) (l : List Cell) (t wl : List Int) (w : World) (h1 : 1 ≤ by_) (h6 : by_ ≤ 6) (hm : l.length ≤ 9223372036854775806) (hl : l.length = t.length) (hwm : wl.length ≤ 9223372036854775806) (hin : inR l.length wl)
    (hS : CellSl w a l) (hT : IntSl w b t) (hW : IntSl w c wl) :
    RetsP Try.prog 23 #[.int .i64 by_, .slice a l.length ca, .slice b t.length cb, .slice c wl.length cc] w (.int .i64 (bestF by_ l t wl)) := by
  refine enter (args := [_, _, _, _]) Try.func23 rfl Try.ntmps23 (by kernel_rfl) rfl ?_
  refine V.seq (V.region (VL.op (R.asI rfl) (VL.nil (V.seq (V.region (VL.op (R.asI rfl) (VL.nil (V.seq (V.seq (V.region (VL.op (R.asI rfl) (VL.nil (V.block (?_))))))))))))))
  refine V.loop [0, 1, 2, 3, 9, 10] (fun k : Nat => [.int .i64 by_, .slice a l.length ca, .slice b t.length cb, .slice c wl.length cc, .int .i64 (bestK by_ l t wl k), .int .i64 k]) (fun k w' => k ≤ l.length ∧ Ext w w') (fun k => l.length - k) 0 rfl ⟨by omega, Mod.refl _ _⟩ ?_
  rintro ρ k w1 ⟨hk, e⟩
  obtain ⟨hb1, hb2⟩ := bestK_lt by_ l t wl k
  refine V.seq (V.seq (V.region (VL.op (R.mvI rfl) (VL.op (R.mvS rfl) (VL.op (R.lenS Try.runUnderlying22 rfl) (VL.op (R.lss rfl rfl) (VL.nil (V.condP rfl (fun c16 => V.skip (V.seq (V.block (V.seq (V.region (VL.op (R.mvS rfl) (VL.op (R.mvI rfl) (VL.op (R.ixS Try.runUnderlying22 Try.sizeOf34 rfl rfl (by omega) (by omega) (hS.some (i := k) (by omega))) (VL.op (R.ldA Try.isAgg34 Try.sizeOf34 rfl rfl (((hS.ext e).row (i := k) (by omega))) rfl) (VL.callP Try.call18 rfl (counts_spec (l.getD k default) _) fun w5_4 e5_4 => VL.op (R.asB rfl) (VL.nil (V.cut [0, 1, 2, 3, 9, 10, 11] (fun _ : Unit => [.int .i64 by_, .slice a l.length ca, .slice b t.length cb, .slice c wl.length cc, .int .i64 (bestK by_ l t wl k), .int .i64 k, .bool (okW l wl k)]) (fun _ w' => Ext _ w') (V.seq (V.region (VL.op (R.asI rfl) (VL.nil (V.block (?_)))))) (fun rgB2 _ wBB2 eBB2 => V.seq (V.regionCut [47, 48, 49, 50, 51, 52, 53, 54, 55, 56, 57, 58, 59] 59 (.bool (okW l wl k && (decide (bestK by_ l t wl k < 0) || befB by_ l t k (bestK by_ l t wl k).toNat))) (fun w' => Ext _ w') rfl (VL.op (R.mvB rfl) (VL.op (R.mvB rfl) (VL.and rfl rfl (fun g10_1 => VL.op (R.mvI rfl) (VL.gT rfl rfl (VL.op (R.lss rfl rfl) (VL.gT rfl rfl (VL.op (R.mvB rfl) (VL.orP rfl rfl (fun g10_4 => VL.op (R.mvI rfl) (VL.gT rfl rfl (VL.op (R.mvS rfl) (VL.gT rfl rfl (VL.op (R.mvS rfl) (VL.gT rfl rfl (VL.op (R.mvI rfl) (VL.gT rfl rfl (VL.op (R.mvI rfl) (VL.gT rfl rfl (VL.callP Try.call33 rfl (before_specI by_ a b ca cb l t k (bestK by_ l t wl k) _ h1 h6 (by omega) hl (by omega) (by omega) (by omega) (by omega) (hS.ext ((e.trans e5_4).trans eBB2)) (hT.ext ((e.trans e5_4).trans eBB2))) fun w10_10 e10_10 => VL.gT rfl rfl (VL.op (R.pickFB rfl rfl) (VL.op (R.pickTB rfl rfl) (VL.nil ⟨rfl, cutB rfl ?_, e10_10⟩)))))))))))))) (fun g10_4 => VL.gF rfl rfl (VL.gF rfl rfl (VL.gF rfl rfl (VL.gF rfl rfl (VL.gF rfl rfl (VL.gT rfl rfl (VL.op (R.pickTB rfl rfl) (VL.op (R.pickTB rfl rfl) (VL.nil ⟨rfl, cutB rfl ?_, Mod.refl _ _⟩))))))))))))))) (fun g10_1 => VL.gF rfl rfl (VL.gF rfl rfl (VL.gU rfl rfl (VL.gU rfl rfl (VL.gU rfl rfl (VL.gU rfl rfl (VL.gU rfl rfl (VL.gU rfl rfl (VL.gF rfl rfl (VL.op (R.pickFB rfl rfl) (VL.nil ⟨rfl, cutB rfl ?_, Mod.refl _ _⟩)))))))))))))) (fun rg10 w10c e10c => V.cond rfl (fun c59 => V.region (VL.op (R.mvI rfl) (VL.op (R.asI rfl) (VL.nil (V.region (VL.op (R.mvI rfl) (VL.op (R.add rfl rfl (by omega) (by omega)) (VL.op (R.asI rfl) (VL.nil (⟨k + 1, ?_, ⟨by omega, (((e.trans e5_4).trans eBB2).trans e10c)⟩, by omega⟩)))))))))) (fun c59 => V.skip (V.region (VL.op (R.mvI rfl) (VL.op (R.add rfl rfl (by omega) (by omega)) (VL.op (R.asI rfl) (VL.nil (⟨k + 1, ?_, ⟨by omega, (((e.trans e5_4).trans eBB2).trans e10c)⟩, by omega⟩)))))))))))))))))))))) (fun c16 => V.exit (V.seq (V.region (VL.op (R.mvI rfl) (VL.op (R.asI rfl) (VL.nil (V.ret (fret1 (v := .int _ _) rfl rfl rfl (⟨?_, e⟩)))))))))))))))))
  · refine V.loop [0, 1, 2, 3, 9, 10, 11, 12] (fun j : Nat => [.int .i64 by_, .slice a l.length ca, .slice b t.length cb, .slice c wl.length cc, .int .i64 (bestK by_ l t wl k), .int .i64 k, .bool ((wl.take j).all (diffB l (l.getD k default)) && counts (l.getD k default)), .int .i64 j]) (fun j w' => j ≤ wl.length ∧ Ext w5_4 w') (fun j => wl.length - j) 0 rfl ⟨by omega, Mod.refl _ _⟩ ?_
    rintro ρ j w2 ⟨hj, e2⟩
    have hsn : j < wl.length → _ := all_snoc (diffB l (l.getD k default)) wl j
    have hat : j < wl.length → _ := fun h => hin.at (j := j) h
    refine V.seq (V.seq (V.region (VL.op (R.mvI rfl) (VL.op (R.mvS rfl) (VL.op (R.lenS Try.runUnderlying23 rfl) (VL.op (R.lss rfl rfl) (VL.nil (V.condP rfl (fun c27 => V.skip (V.seq (V.block (V.regionQCut mixed 18 (by kernel_rfl) rfl (fun w' => Ext _ w') (Ext.drawn _) [11, 30, 31, 32, 33, 34, 35, 36, 37, 38, 39, 40, 41, 42, 43, 44, 45, 46] 11 (.bool (((wl.take j).all (diffB l (l.getD k default)) && counts (l.getD k default)) && diffB l (l.getD k default) (wl.getD j 0))) rfl (VQ.op (fun wq eq => R.mvB rfl) (VQ.op (fun wq eq => R.mvB rfl) (VQ.and rfl rfl (fun g9_1 => VQ.op (fun wq eq => R.mvS rfl) (VQ.gT rfl rfl (VQ.op (fun wq eq => R.mvI rfl) (VQ.gT rfl rfl (VQ.op (fun wq eq => R.ixS Try.runUnderlying22 Try.sizeOf34 rfl rfl (by omega) (by omega) (hS.some (i := k) (by omega))) (VQ.gT rfl rfl (VQ.op (fun wq eq => R.fld' (o := 0) Try.runUnderlying34 rfl rfl Try.sizeOf32 rfl rfl) (VQ.gT rfl rfl (VQ.op (fun wq eq => R.ldA Try.isAgg32 Try.sizeOf32 rfl rfl ((((hS.ext ((e.trans e5_4).trans (e2.trans eq))).row (i := k) (by omega)).sub 0 3 rfl)) rfl) (VQ.gT rfl rfl (VQ.op (fun wq eq => R.mvS rfl) (VQ.gT rfl rfl (VQ.op (fun wq eq => R.mvS rfl) (VQ.gT rfl rfl (VQ.op (fun wq eq => R.mvI rfl) (VQ.gT rfl rfl (VQ.op (fun wq eq => R.ixS Try.runUnderlying23 Try.sizeOf3 rfl rfl (by omega) (by omega) (hW.some (i := j) (by omega))) (VQ.gT rfl rfl (VQ.op (fun wq eq => R.ld1 Try.isAgg3 rfl ((((hW.ext ((e.trans e5_4).trans (e2.trans eq))).row (i := j) (by omega)).cell (i := 0) rfl))) (VQ.gT rfl rfl (VQ.op (fun wq eq => R.ixS Try.runUnderlying22 Try.sizeOf34 rfl rfl (hat (by omega)).1 (hat (by omega)).2 (hS.some (i := k) (by omega))) (VQ.gT rfl rfl (VQ.op (fun wq eq => R.fld' (o := 0) Try.runUnderlying34 rfl rfl Try.sizeOf32 rfl rfl) (VQ.gT rfl rfl (VQ.op (fun wq eq => R.ldA Try.isAgg32 Try.sizeOf32 rfl rfl ((((hS.ext ((e.trans e5_4).trans (e2.trans eq))).row (i := (wl.getD j 0).toNat) (by have := hat (by omega); omega)).sub 0 3 rfl)) rfl) (VQ.gT rfl rfl (VQ.op (fun wq eq => R.neqK key32 Try.eqGuardType32 encV_agg (l.getD k default).val (l.getD (wl.getD j 0).toNat default).val rfl rfl) (VQ.op (fun wq eq => R.pickTB rfl rfl) (VQ.op (fun wq eq => R.asB rfl) (VQ.nil (cutB rfl ?_))))))))))))))))))))))))))))))) (fun g9_1 => VQ.gF rfl rfl (VQ.gF rfl rfl (VQ.gF rfl rfl (VQ.gF rfl rfl (VQ.gF rfl rfl (VQ.gF rfl rfl (VQ.gF rfl rfl (VQ.gF rfl rfl (VQ.gF rfl rfl (VQ.gF rfl rfl (VQ.gF rfl rfl (VQ.gF rfl rfl (VQ.gF rfl rfl (VQ.op (fun wq eq => R.pickFB rfl rfl) (VQ.op (fun wq eq => R.asB rfl) (VQ.nil (cutB rfl ?_)))))))))))))))))))) (fun rg9 w9c e9c => V.region (VL.op (R.mvI rfl) (VL.op (R.add rfl rfl (by omega) (by omega)) (VL.op (R.asI rfl) (VL.nil (⟨j + 1, ?_, ⟨by omega, (e2.trans e9c)⟩, by omega⟩)))))))))) (fun c27 => V.exit (⟨(), ?_, e2⟩))))))))))
    · rw [g9_1]; rfl
    · rw [g9_1]; rfl
    · rw [hsn (by omega), bswap]; rfl
    · have : okW l wl k = ((wl.take j).all (diffB l (l.getD k default)) && counts (l.getD k default)) := by
        have hj : j = wl.length := by omega
        subst hj
        rw [List.take_length, Bool.and_comm]; rfl
      rw [this]; rfl
  · simp [g10_1, g10_4]
  · simp [g10_1, g10_4]
  · simp [g10_1]
  · have : bestK by_ l t wl (k + 1) = k := by unfold bestK; rw [if_pos c59]
    rw [this]; rfl
  · have : bestK by_ l t wl (k + 1) = bestK by_ l t wl k := by rw [bestK, if_neg (by rw [c59]; decide)]
    rw [this]; rfl
  · have : k = l.length := by omega
    subst this; rfl
theorem bestF_lt (by_ : Int) (l : List Cell) (t wl : List Int) : -1 ≤ bestF by_ l t wl ∧ bestF by_ l t wl < l.length := bestK_lt by_ l t wl l.length

def rchooseF (by_ : Int) (l : List Cell) (t : List Int) : Int := if rightB by_ l.length t.length = true then bestF by_ l t [] else -1
theorem rchoose_spec (by_ : Int) (a b : Option Addr) (ca cb : Nat) (l : List Cell) (t : List Int) (w : World) (hm : l.length ≤ 9223372036854775806)
    (hS : CellSl w a l) (hT : IntSl w b t) :
    RetsP Try.prog 13 #[.int .i64 by_, .slice a l.length ca, .slice b t.length cb] w (.int .i64 (rchooseF by_ l t)) := by
  unfold rchooseF
  by_cases hr : rightB by_ l.length t.length = true
  · have h := hr
    simp [rightB] at h
    refine enter (args := [_, _, _]) Try.func13 rfl Try.ntmps13 (by kernel_rfl) rfl ?_
    refine V.seq (V.region (VL.op (R.asI rfl) (VL.nil (V.seq (V.seq (V.region (VL.op (R.mvI rfl) (VL.op (R.mvS rfl) (VL.op (R.mvS rfl) (VL.callP Try.call17 rfl (right_spec by_ a b ca cb _ _ _) fun w1_3 e1_3 => VL.op (R.not rfl) (VL.nil (V.cond rfl (fun c11 => V.seq (V.region (VL.op (R.asI rfl) (VL.nil (V.ret (fret1 (v := .int _ _) rfl rfl rfl (⟨?_, e1_3⟩))))))) (fun c11 => V.skip (V.seq (V.region (VL.op (R.mvI rfl) (VL.op (R.mvS rfl) (VL.op (R.mvS rfl) (VL.callP Try.call23 rfl (best_spec by_ a b none ca cb 0 l t [] _ (by omega) (by omega) hm (by omega) (by simp) (by intro j hj; cases hj) (hS.ext e1_3) (hT.ext e1_3) (TSl.nil _ _ _ _)) fun w3_3 e3_3 => VL.op (R.asI rfl) (VL.nil (V.ret (fret1 (v := .int _ _) rfl rfl rfl (⟨?_, (e1_3.trans e3_3)⟩)))))))))))))))))))))))
    all_goals simp_all
  · refine enter (args := [_, _, _]) Try.func13 rfl Try.ntmps13 (by kernel_rfl) rfl ?_
    refine V.seq (V.region (VL.op (R.asI rfl) (VL.nil (V.seq (V.seq (V.region (VL.op (R.mvI rfl) (VL.op (R.mvS rfl) (VL.op (R.mvS rfl) (VL.callP Try.call17 rfl (right_spec by_ a b ca cb _ _ _) fun w1_3 e1_3 => VL.op (R.not rfl) (VL.nil (V.cond rfl (fun c11 => V.seq (V.region (VL.op (R.asI rfl) (VL.nil (V.ret (fret1 (v := .int _ _) rfl rfl rfl (⟨?_, e1_3⟩))))))) (fun c11 => V.skip (V.seq (?_)))))))))))))))
    all_goals simp_all
theorem rchooseF_lt (by_ : Int) (l : List Cell) (t : List Int) : -1 ≤ rchooseF by_ l t ∧ rchooseF by_ l t < l.length := by
  unfold rchooseF
  split
  · exact bestF_lt _ _ _ _
  · omega
end Go.Proofs.Ytbckofoibdljgaa
