/- Further functions with loops. -/
import Derived.Test.YtbckofoibdljgaaS3
namespace Go.Proofs.Ytbckofoibdljgaa
open Go.Vc

def orL (l : List Int) : Int := (l.find? fun x => decide (x ≠ 0)).getD 0
theorem orL_cons (x : Int) (l : List Int) : orL (x :: l) = if x = 0 then orL l else x := by
  unfold orL; by_cases h : x = 0 <;> simp [h]
theorem orL_at (l : List Int) (k : Nat) (hk : k < l.length) (h0 : ∀ i, i < k → l.getD i 0 = 0) (h1 : l.getD k 0 ≠ 0) : orL l = l.getD k 0 := by
  induction l generalizing k with
  | nil => simp at hk
  | cons x l ih =>
    rw [orL_cons]
    cases k with
    | zero => simp at h1 ⊢; intro h; exact absurd h h1
    | succ k =>
      have := h0 0 (by omega)
      simp at this
      rw [if_pos this]
      exact ih k (by simpa using hk) (fun i hi => by simpa using h0 (i + 1) (by omega)) (by simpa using h1)
theorem orL_none (l : List Int) (h0 : ∀ i, i < l.length → l.getD i 0 = 0) : orL l = 0 := by
  induction l with
  | nil => rfl
  | cons x l ih =>
    have := h0 0 (by simp)
    simp at this
    rw [orL_cons, if_pos this]
    exact ih fun i hi => by simpa using h0 (i + 1) (by simpa using hi)

theorem or_spec (a : Option Addr) (cap : Nat) (l : List Int) (w : World) (hm : l.length ≤ 9223372036854775807) (hS : IntSl w a l) :
    RetsP Try.prog 31 #[.slice a l.length cap] w (.int .i64 (orL l)) := by
  refine enter (args := [_]) Try.func31 rfl Try.ntmps31 (by kernel_rfl) rfl ?_
  refine V.seq (V.region (VL.op (R.asI rfl) (VL.nil (V.seq (V.region (VL.op (R.asI rfl) (VL.nil (V.seq (V.seq (V.region (VL.op (R.mvS rfl) (VL.op (R.lenS Try.runUnderlying23 rfl) (VL.op (R.mvI rfl) (VL.nil (V.block (?_))))))))))))))))
  refine V.loop [3, 6, 7, 8] (fun k : Nat => [.int .i64 0, .slice a l.length cap, .int .i64 l.length, .int .i64 k]) (fun k w' => k ≤ l.length ∧ (∀ i, i < k → l.getD i 0 = 0) ∧ Ext w w') (fun k => l.length - k) 0 rfl ⟨by omega, by intro i hi; omega, Mod.refl _ _⟩ ?_
  rintro ρ k w1 ⟨hk, hi, e⟩
  refine V.seq (V.region (VL.op (R.lss rfl rfl) (VL.nil (V.seq (V.condP rfl (fun c9 => V.skip (V.seq (V.block (V.seq (V.region (VL.op (R.ixS Try.runUnderlying23 Try.sizeOf3 rfl rfl (by omega) (by omega) (hS.some (i := k) (by omega))) (VL.op (R.ld1 Try.isAgg3 rfl ((((hS.ext (e.trans (Mod.refl _ _))).row (i := k) (by omega)).cell (i := 0) rfl))) (VL.op (R.asI rfl) (VL.nil (V.seq (V.region (VL.op (R.mvI rfl) (VL.op (R.mvI rfl) (VL.op (R.neq rfl rfl) (VL.nil (V.condP rfl (fun c14 => V.seq (V.region (VL.op (R.mvI rfl) (VL.op (R.asI rfl) (VL.nil (V.ret (fret1 (v := .int _ _) rfl rfl rfl (⟨?_, e.trans (Mod.refl _ _)⟩)))))))) (fun c14 => V.skip (V.region (VL.op (R.add rfl rfl (by omega) (by omega)) (VL.op (R.mvI rfl) (VL.nil (⟨k + 1, rfl, ⟨by omega, ?_, e.trans (Mod.refl _ _)⟩, by omega⟩)))))))))))))))))))))) (fun c9 => V.exit (V.seq (V.region (VL.op (R.mvI rfl) (VL.op (R.asI rfl) (VL.nil (V.ret (fret1 (v := .int _ _) rfl rfl rfl (⟨?_, e.trans (Mod.refl _ _)⟩))))))))))))))
  · rw [orL_at l k (by omega) hi c14]; rfl
  · intro i hik
    by_cases h : i = k
    · subst h; exact Classical.not_not.1 c14
    · exact hi i (by omega)
  · rw [orL_none l fun i hik => hi i (by omega)]

theorem getD_ext {l m : List Int} (h : l.length = m.length) (hi : ∀ i, i < l.length → l.getD i 0 = m.getD i 0) : l = m := by
  apply List.ext_getElem h
  intro i h1 h2
  have := hi i h1
  simpa [List.getD, h1, h2] using this

theorem ints_spec (a b : Option Addr) (ca cb : Nat) (l m : List Int) (w : World) (hl : l.length ≤ 9223372036854775807) (hm : m.length ≤ 9223372036854775807) (hS : IntSl w a l) (hT : IntSl w b m) :
    RetsP Try.prog 14 #[.slice a l.length ca, .slice b m.length cb] w (.bool (decide (l = m))) := by
  refine enter (args := [_, _]) Try.func14 rfl Try.ntmps14 (by kernel_rfl) rfl ?_
  refine V.seq (V.region (VL.op (R.asB rfl) (VL.nil (V.seq (V.seq (V.region (VL.op (R.mvS rfl) (VL.op (R.lenS Try.runUnderlying23 rfl) (VL.op (R.mvS rfl) (VL.op (R.lenS Try.runUnderlying23 rfl) (VL.op (R.neq rfl rfl) (VL.nil (V.condP rfl (fun c10 => V.seq (V.region (VL.op (R.asB rfl) (VL.nil (V.ret (fret1 (v := .bool _) rfl rfl rfl (⟨?_, (Mod.refl _ _)⟩))))))) (fun c10 => V.skip (V.seq (V.seq (V.region (VL.op (R.asI rfl) (VL.nil (V.block (?_)))))))))))))))))))))
  · have : l ≠ m := by rintro rfl; exact c10 rfl
    simp [this]
  have hlm : l.length = m.length := by have := Classical.not_not.1 c10; omega
  refine V.loop [0, 1, 5] (fun k : Nat => [.slice a l.length ca, .slice b m.length cb, .int .i64 k]) (fun k w' => k ≤ l.length ∧ (∀ i, i < k → l.getD i 0 = m.getD i 0) ∧ Ext w w') (fun k => l.length - k) 0 rfl ⟨by omega, by intro i hi; omega, Mod.refl _ _⟩ ?_
  rintro ρ k w1 ⟨hk, hi, e⟩
  refine V.seq (V.seq (V.region (VL.op (R.mvI rfl) (VL.op (R.mvS rfl) (VL.op (R.lenS Try.runUnderlying23 rfl) (VL.op (R.lss rfl rfl) (VL.nil (V.condP rfl (fun c14 => V.skip (V.seq (V.block (V.seq (V.regionQ mixed 9 (by kernel_rfl) rfl (fun w' => Ext _ w') (Ext.drawn _) (VQ.op (fun wq eq => R.mvS rfl) (VQ.op (fun wq eq => R.mvI rfl) (VQ.op (fun wq eq => R.ixS Try.runUnderlying23 Try.sizeOf3 rfl rfl (by omega) (by omega) (hS.some (i := k) (by omega))) (VQ.op (fun wq eq => R.ld1 Try.isAgg3 rfl ((((hS.ext (e.trans eq)).row (i := k) (by omega)).cell (i := 0) rfl))) (VQ.op (fun wq eq => R.mvS rfl) (VQ.op (fun wq eq => R.mvI rfl) (VQ.op (fun wq eq => R.ixS Try.runUnderlying23 Try.sizeOf3 rfl rfl (by omega) (by omega) (hT.some (i := k) (by omega))) (VQ.op (fun wq eq => R.ld1 Try.isAgg3 rfl ((((hT.ext (e.trans eq)).row (i := k) (by omega)).cell (i := 0) rfl))) (VQ.op (fun wq eq => R.neq rfl rfl) (VQ.nil fun w6q e6q => VL.nil (V.condP rfl (fun c25 => V.seq (V.region (VL.op (R.asB rfl) (VL.nil (V.ret (fret1 (v := .bool _) rfl rfl rfl (⟨?_, e.trans e6q⟩))))))) (fun c25 => V.skip (V.region (VL.op (R.mvI rfl) (VL.op (R.add rfl rfl (by omega) (by omega)) (VL.op (R.asI rfl) (VL.nil (⟨k + 1, rfl, ⟨by omega, ?_, e.trans e6q⟩, by omega⟩))))))))))))))))))))))) (fun c14 => V.exit (V.seq (V.region (VL.op (R.asB rfl) (VL.nil (V.ret (fret1 (v := .bool _) rfl rfl rfl (⟨?_, e.trans (Mod.refl _ _)⟩))))))))))))))))
  · have : l ≠ m := by rintro rfl; exact c25 rfl
    simp [this]
  · intro i hik
    by_cases h : i = k
    · subst h; exact Classical.not_not.1 c25
    · exact hi i (by omega)
  · have : l = m := getD_ext hlm fun i hik => hi i (by omega)
    simp [this]

def rightB (by_ : Int) (n m : Nat) : Bool := decide (1 ≤ by_) && decide (by_ ≤ 6) && decide (n = m)
theorem right_spec (by_ : Int) (a b : Option Addr) (ca cb n m : Nat) (w : World) :
    RetsP Try.prog 17 #[.int .i64 by_, .slice a n ca, .slice b m cb] w (.bool (rightB by_ n m)) := by
  refine enter (args := [_, _, _]) Try.func17 rfl Try.ntmps17 (by kernel_rfl) rfl ?_
  refine V.seq (V.region (VL.op (R.asB rfl) (VL.nil (V.seq (V.region (VL.op (R.mvI rfl) (VL.op (R.geq rfl rfl) (VL.op (R.mvB rfl) (VL.andP rfl rfl (fun g1_2 => VL.op (R.mvI rfl) (VL.gT rfl rfl (VL.op (R.leq rfl rfl) (VL.op (R.pickTB rfl rfl) (VL.op (R.mvB rfl) (VL.andP rfl rfl (fun g1_6 => VL.op (R.mvS rfl) (VL.gT rfl rfl (VL.op (R.lenS Try.runUnderlying22 rfl) (VL.gT rfl rfl (VL.op (R.mvS rfl) (VL.gT rfl rfl (VL.op (R.lenS Try.runUnderlying23 rfl) (VL.gT rfl rfl (VL.op (R.eql rfl rfl) (VL.op (R.pickTB rfl rfl) (VL.op (R.asB rfl) (VL.nil (V.ret (fret1 (v := .bool _) rfl rfl rfl (⟨?_, (Mod.refl _ _)⟩))))))))))))))) (fun g1_6 => VL.gF rfl rfl (VL.gF rfl rfl (VL.gF rfl rfl (VL.gF rfl rfl (VL.op (R.pickFB rfl rfl) (VL.op (R.asB rfl) (VL.nil (V.ret (fret1 (v := .bool _) rfl rfl rfl (⟨?_, (Mod.refl _ _)⟩)))))))))))))))) (fun g1_2 => VL.gF rfl rfl (VL.op (R.pickFB rfl rfl) (VL.op (R.mvB rfl) (VL.gF rfl rfl (VL.gF rfl rfl (VL.gF rfl rfl (VL.gF rfl rfl (VL.gF rfl rfl (VL.op (R.pickFB rfl rfl) (VL.op (R.asB rfl) (VL.nil (V.ret (fret1 (v := .bool _) rfl rfl rfl (⟨?_, (Mod.refl _ _)⟩)))))))))))))))))))))))
  all_goals first | (simp_all [rightB]; done) | (simp_all [rightB]; omega)

theorem encV_agg (v : Val) : ∃ cs, encV v = .agg cs := ⟨_, rfl⟩

def countV (l : List Cell) (v : Val) : Nat := (l.filter fun c => decide (c.val = v)).length
theorem filter_snoc {α : Type} [Inhabited α] (p : α → Bool) (l : List α) (k : Nat) (hk : k < l.length) : ((l.take (k + 1)).filter p).length = ((l.take k).filter p).length + (if p (l.getD k default) = true then 1 else 0) := by
  rw [List.take_succ_eq_append_getElem hk, List.filter_append, List.length_append]
  simp only [List.getD, List.getElem?_eq_getElem hk, Option.getD_some, List.filter_cons, List.filter_nil]
  split <;> rfl
theorem filter_le {α : Type} (p : α → Bool) (l : List α) (k : Nat) : ((l.take k).filter p).length ≤ k := Nat.le_trans (List.length_filter_le _ _) (List.length_take_le _ _)

theorem count_spec (a : Option Addr) (cap : Nat) (l : List Cell) (v : Val) (w : World) (hm : l.length ≤ 9223372036854775807) (hS : CellSl w a l) :
    RetsP Try.prog 19 #[.slice a l.length cap, .agg (encVal v).toArray] w (.int .i64 (countV l v)) := by
  refine enter (args := [_, _]) Try.func19 rfl Try.ntmps19 (by kernel_rfl) rfl ?_
  refine V.seq (V.region (VL.box (v := .agg _) rfl fun b1 w1 hb1 e1 hB1 => VL.op (R.asI rfl) (VL.nil (V.seq (V.region (VL.op (R.asI rfl) (VL.nil (V.seq (V.seq (V.region (VL.op (R.asI rfl) (VL.nil (V.block (?_))))))))))))))
  refine V.loop [0, 3, 5, 6] (fun k : Nat => [.slice a l.length cap, .pointer (some ⟨b1, 0, none⟩), .int .i64 ((l.take k).filter fun c => decide (c.val = v)).length, .int .i64 k]) (fun k w' => k ≤ l.length ∧ Ext w1 w') (fun k => l.length - k) 0 rfl ⟨by omega, Mod.refl _ _⟩ ?_
  rintro ρ k w2 ⟨hk, e⟩
  have hle := filter_le (fun c => decide (c.val = v)) l k
  refine V.seq (V.seq (V.region (VL.op (R.mvI rfl) (VL.op (R.mvS rfl) (VL.op (R.lenS Try.runUnderlying22 rfl) (VL.op (R.lss rfl rfl) (VL.nil (V.condP rfl (fun c10 => V.skip (V.seq (V.block (V.seq (V.regionQ mixed 7 (by kernel_rfl) rfl (fun w' => Ext _ w') (Ext.drawn _) (VQ.op (fun wq eq => R.mvS rfl) (VQ.op (fun wq eq => R.mvI rfl) (VQ.op (fun wq eq => R.ixS Try.runUnderlying22 Try.sizeOf34 rfl rfl (by omega) (by omega) (hS.some (i := k) (by omega))) (VQ.op (fun wq eq => R.fld' (o := 0) Try.runUnderlying34 rfl rfl Try.sizeOf32 rfl rfl) (VQ.op (fun wq eq => R.ldA Try.isAgg32 Try.sizeOf32 rfl rfl ((((hS.ext (e1.trans (e.trans eq))).row (i := k) (by omega)).sub 0 3 rfl)) rfl) (VQ.op (fun wq eq => R.ldA Try.isAgg32 Try.sizeOf32 rfl rfl ((hB1.ext (e.trans eq)).rowAt 0 3) rfl) (VQ.op (fun wq eq => R.eqlK key32 Try.eqGuardType32 encV_agg (l.getD k default).val v rfl rfl) (VQ.nil fun w5q e5q => VL.nil (V.condP rfl (fun c19 => V.region (VL.op (R.mvI rfl) (VL.op (R.add rfl rfl (by omega) (by omega)) (VL.op (R.asI rfl) (VL.nil (V.region (VL.op (R.mvI rfl) (VL.op (R.add rfl rfl (by omega) (by omega)) (VL.op (R.asI rfl) (VL.nil (⟨k + 1, ?_, ⟨by omega, e.trans e5q⟩, by omega⟩))))))))))) (fun c19 => V.skip (V.region (VL.op (R.mvI rfl) (VL.op (R.add rfl rfl (by omega) (by omega)) (VL.op (R.asI rfl) (VL.nil (⟨k + 1, ?_, ⟨by omega, e.trans e5q⟩, by omega⟩))))))))))))))))))))) (fun c10 => V.exit (V.seq (V.region (VL.op (R.mvI rfl) (VL.op (R.asI rfl) (VL.nil (V.ret (fret1 (v := .int _ _) rfl rfl rfl (⟨?_, e1.trans (e.trans (Mod.refl _ _))⟩)))))))))))))))))
  · have h := filter_snoc (fun c : Cell => decide (c.val = v)) l k (by omega)
    rw [if_pos (by simpa using c19)] at h
    rw [h]; rfl
  · have h := filter_snoc (fun c : Cell => decide (c.val = v)) l k (by omega)
    rw [if_neg (by simpa using c19)] at h
    rw [h]; rfl
  · have : k = l.length := by omega
    subst this
    rw [List.take_length]; rfl

def freqV (l : List Cell) (v : Val) : Nat := (l.filter fun c => counts c && decide (c.val = v)).length
theorem frequent_spec (a : Option Addr) (cap : Nat) (l : List Cell) (i : Nat) (w : World) (hm : l.length ≤ 9223372036854775807) (hi : i < l.length) (hS : CellSl w a l) :
    RetsP Try.prog 44 #[.slice a l.length cap, .int .i64 i] w (.int .i64 (freqV l (l.getD i default).val)) := by
  refine enter (args := [_, _]) Try.func44 rfl Try.ntmps44 (by kernel_rfl) rfl ?_
  refine V.seq (V.region (VL.op (R.asI rfl) (VL.nil (V.seq (V.region (VL.op (R.asI rfl) (VL.nil (V.seq (V.seq (V.region (VL.op (R.asI rfl) (VL.nil (V.block (?_))))))))))))))
  refine V.loop [0, 1, 5, 6] (fun k : Nat => [.slice a l.length cap, .int .i64 i, .int .i64 ((l.take k).filter fun c => counts c && decide (c.val = (l.getD i default).val)).length, .int .i64 k]) (fun k w' => k ≤ l.length ∧ Ext w w') (fun k => l.length - k) 0 rfl ⟨by omega, Mod.refl _ _⟩ ?_
  rintro ρ k w1 ⟨hk, e⟩
  have hle := filter_le (fun c => counts c && decide (c.val = (l.getD i default).val)) l k
  have hsn : k < l.length → _ := filter_snoc (fun c : Cell => counts c && decide (c.val = (l.getD i default).val)) l k
  refine V.seq (V.seq (V.region (VL.op (R.mvI rfl) (VL.op (R.mvS rfl) (VL.op (R.lenS Try.runUnderlying22 rfl) (VL.op (R.lss rfl rfl) (VL.nil (V.condP rfl (fun c10 => V.skip (V.seq (V.block (V.seq (V.regionQCut mixed 18 (by kernel_rfl) rfl (fun w' => Ext _ w') (Ext.drawn _) [13, 14, 15, 16, 17, 18, 19, 20, 21, 22, 23, 24, 25, 26, 27, 28, 29, 30] 30 (.bool (counts (l.getD k default) && decide ((l.getD k default).val = (l.getD i default).val))) rfl (VQ.op (fun wq eq => R.mvS rfl) (VQ.op (fun wq eq => R.mvI rfl) (VQ.op (fun wq eq => R.ixS Try.runUnderlying22 Try.sizeOf34 rfl rfl (by omega) (by omega) (hS.some (i := k) (by omega))) (VQ.op (fun wq eq => R.ldA Try.isAgg34 Try.sizeOf34 rfl rfl (((hS.ext (e.trans eq)).row (i := k) (by omega))) rfl) (VQ.callP (fun _ _ h k => Mod.trans h k) Try.call18 rfl (fun wq eq => counts_spec (l.getD k default) _) (VQ.op (fun wq eq => R.mvB rfl) (VQ.and rfl rfl (fun g5_5 => VQ.op (fun wq eq => R.mvS rfl) (VQ.gT rfl rfl (VQ.op (fun wq eq => R.mvI rfl) (VQ.gT rfl rfl (VQ.op (fun wq eq => R.ixS Try.runUnderlying22 Try.sizeOf34 rfl rfl (by omega) (by omega) (hS.some (i := k) (by omega))) (VQ.gT rfl rfl (VQ.op (fun wq eq => R.fld' (o := 0) Try.runUnderlying34 rfl rfl Try.sizeOf32 rfl rfl) (VQ.gT rfl rfl (VQ.op (fun wq eq => R.ldA Try.isAgg32 Try.sizeOf32 rfl rfl ((((hS.ext (e.trans eq)).row (i := k) (by omega)).sub 0 3 rfl)) rfl) (VQ.gT rfl rfl (VQ.op (fun wq eq => R.mvS rfl) (VQ.gT rfl rfl (VQ.op (fun wq eq => R.mvI rfl) (VQ.gT rfl rfl (VQ.op (fun wq eq => R.ixS Try.runUnderlying22 Try.sizeOf34 rfl rfl (by omega) (by omega) (hS.some (i := i) (by omega))) (VQ.gT rfl rfl (VQ.op (fun wq eq => R.fld' (o := 0) Try.runUnderlying34 rfl rfl Try.sizeOf32 rfl rfl) (VQ.gT rfl rfl (VQ.op (fun wq eq => R.ldA Try.isAgg32 Try.sizeOf32 rfl rfl ((((hS.ext (e.trans eq)).row (i := i) (by omega)).sub 0 3 rfl)) rfl) (VQ.gT rfl rfl (VQ.op (fun wq eq => R.eqlK key32 Try.eqGuardType32 encV_agg (l.getD k default).val (l.getD i default).val rfl rfl) (VQ.op (fun wq eq => R.pickTB rfl rfl) (VQ.nil (cutB rfl ?_)))))))))))))))))))))))) (fun g5_5 => VQ.gF rfl rfl (VQ.gF rfl rfl (VQ.gF rfl rfl (VQ.gF rfl rfl (VQ.gF rfl rfl (VQ.gF rfl rfl (VQ.gF rfl rfl (VQ.gF rfl rfl (VQ.gF rfl rfl (VQ.gF rfl rfl (VQ.op (fun wq eq => R.pickFB rfl rfl) (VQ.nil (cutB rfl ?_)))))))))))))))))))) (fun rg5 w5c e5c => V.cond rfl (fun c30 => V.region (VL.op (R.mvI rfl) (VL.op (R.add rfl rfl (by omega) (by omega)) (VL.op (R.asI rfl) (VL.nil (V.region (VL.op (R.mvI rfl) (VL.op (R.add rfl rfl (by omega) (by omega)) (VL.op (R.asI rfl) (VL.nil (⟨k + 1, ?_, ⟨by omega, e.trans e5c⟩, by omega⟩))))))))))) (fun c30 => V.skip (V.region (VL.op (R.mvI rfl) (VL.op (R.add rfl rfl (by omega) (by omega)) (VL.op (R.asI rfl) (VL.nil (⟨k + 1, ?_, ⟨by omega, e.trans e5c⟩, by omega⟩))))))))))))) (fun c10 => V.exit (V.seq (V.region (VL.op (R.mvI rfl) (VL.op (R.asI rfl) (VL.nil (V.ret (fret1 (v := .int _ _) rfl rfl rfl (⟨?_, e.trans (Mod.refl _ _)⟩)))))))))))))))))
  · rw [g5_5]; simp
  · rw [g5_5]; simp
  · have h := hsn (by omega)
    rw [if_pos c30] at h
    rw [h]; rfl
  · have h := hsn (by omega)
    rw [if_neg (by rw [c30]; simp)] at h
    rw [h]; rfl
  · have : k = l.length := by omega
    subst this
    rw [List.take_length]; rfl
end Go.Proofs.Ytbckofoibdljgaa
