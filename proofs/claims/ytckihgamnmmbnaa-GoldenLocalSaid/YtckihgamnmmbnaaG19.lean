/- Golden: comparisons of facts; few. -/
import Derived.Test.YtckihgamnmmbnaaG18
namespace Go.Proofs.Ytckihgamnmmbnaa
open Go.Vc Go.Sort

theorem getD_ext' {α : Type} [Inhabited α] {l m : List α} (h : l.length = m.length) (hh : ∀ i, i < l.length → l.getD i default = m.getD i default) : l = m := by
  refine List.ext_getElem h fun i h1 h2 => ?_
  have := hh i h1
  simpa [List.getD, h1, h2] using this
set_option maxRecDepth 100000 in
set_option maxHeartbeats 4000000 in
theorem rows_spec (a b : Option Addr) (ca cb : Nat) (l m : List Val) (w : World) (hl : l.length ≤ 9223372036854775807) (hm : m.length ≤ 9223372036854775807) (hS : ValSl w a l) (hT : ValSl w b m) :
    RetsP Try.prog 15 #[.slice a l.length ca, .slice b m.length cb] w (.bool (decide (l = m))) := by
  refine enter (args := [_, _]) Try.func15 rfl Try.ntmps15 (by kernel_rfl) rfl ?_
  refine V.seq (V.region (VL.op (R.asB rfl) (VL.nil (V.seq (V.seq (V.region (VL.op (R.mvS rfl) (VL.op (R.lenS Try.runUnderlying37 rfl) (VL.op (R.mvS rfl) (VL.op (R.lenS Try.runUnderlying37 rfl) (VL.op (R.neq rfl rfl) (VL.nil (V.condP rfl (fun c10 => V.seq (V.region (VL.op (R.asB rfl) (VL.nil (V.ret (fret1 (v := .bool _) rfl rfl rfl (⟨?_, (Mod.refl _ _)⟩))))))) (fun c10 => V.skip (V.seq (V.seq (V.region (VL.op (R.asI rfl) (VL.nil (V.block (?_)))))))))))))))))))))
  · have : l ≠ m := by rintro rfl; exact c10 rfl
    simp [this]
  have hlm : l.length = m.length := by have := Classical.not_not.1 c10; omega
  refine V.loop [0, 1, 5] (fun k : Nat => [.slice a l.length ca, .slice b m.length cb, .int .i64 k]) (fun k w' => k ≤ l.length ∧ (∀ i, i < k → l.getD i default = m.getD i default) ∧ Ext w w') (fun k => l.length - k) 0 rfl ⟨by omega, by intro i hi; omega, Mod.refl _ _⟩ ?_
  rintro ρ k w1 ⟨hk, hi, e⟩
  refine V.seq (V.seq (V.region (VL.op (R.mvI rfl) (VL.op (R.mvS rfl) (VL.op (R.lenS Try.runUnderlying37 rfl) (VL.op (R.lss rfl rfl) (VL.nil (V.condP rfl (fun c14 => V.skip (V.seq (V.block (V.seq (V.regionQ mixed 9 (by kernel_rfl) rfl (fun w' => Ext _ w') (Ext.drawn _) (VQ.op (fun wq eq => R.mvS rfl) (VQ.op (fun wq eq => R.mvI rfl) (VQ.op (fun wq eq => R.ixS Try.runUnderlying37 Try.sizeOf55 rfl rfl (by omega) (by omega) ((hS).some (i := k) (by omega))) (VQ.op (fun wq eq => R.ldA Try.isAgg55 Try.sizeOf55 rfl rfl ((((hS).ext (e.trans eq)).row (i := k) (by omega))) rfl) (VQ.op (fun wq eq => R.mvS rfl) (VQ.op (fun wq eq => R.mvI rfl) (VQ.op (fun wq eq => R.ixS Try.runUnderlying37 Try.sizeOf55 rfl rfl (by omega) (by omega) ((hT).some (i := k) (by omega))) (VQ.op (fun wq eq => R.ldA Try.isAgg55 Try.sizeOf55 rfl rfl ((((hT).ext (e.trans eq)).row (i := k) (by omega))) rfl) (VQ.op (fun wq eq => R.neqK key55 Try.eqGuardType55 encV_agg (l.getD k default) (m.getD k default) rfl rfl) (VQ.nil fun w6q e6q => VL.nil (V.condP rfl (fun c25 => V.seq (V.region (VL.op (R.asB rfl) (VL.nil (V.ret (fret1 (v := .bool _) rfl rfl rfl (⟨?_, (e.trans e6q)⟩))))))) (fun c25 => V.skip (V.region (VL.op (R.mvI rfl) (VL.op (R.add rfl rfl (by omega) (by omega)) (VL.op (R.asI rfl) (VL.nil (⟨k + 1, rfl, ⟨by omega, ?_, (e.trans e6q)⟩, by omega⟩))))))))))))))))))))))) (fun c14 => V.exit (V.seq (V.region (VL.op (R.asB rfl) (VL.nil (V.ret (fret1 (v := .bool _) rfl rfl rfl (⟨?_, e⟩))))))))))))))))
  · have : l ≠ m := by rintro rfl; exact c25 rfl
    simp [this]
  · intro i hik
    by_cases h : i = k
    · subst h; exact Classical.not_not.1 c25
    · exact hi i (by omega)
  · have : l = m := getD_ext' hlm fun i hik => hi i (by omega)
    simp [this]
set_option maxRecDepth 100000 in
set_option maxHeartbeats 4000000 in
theorem ints_spec (a b : Option Addr) (ca cb : Nat) (l m : List Int) (w : World) (hl : l.length ≤ 9223372036854775807) (hm : m.length ≤ 9223372036854775807) (hS : IntSl w a l) (hT : IntSl w b m) :
    RetsP Try.prog 17 #[.slice a l.length ca, .slice b m.length cb] w (.bool (decide (l = m))) := by
  refine enter (args := [_, _]) Try.func17 rfl Try.ntmps17 (by kernel_rfl) rfl ?_
  refine V.seq (V.region (VL.op (R.asB rfl) (VL.nil (V.seq (V.seq (V.region (VL.op (R.mvS rfl) (VL.op (R.lenS Try.runUnderlying34 rfl) (VL.op (R.mvS rfl) (VL.op (R.lenS Try.runUnderlying34 rfl) (VL.op (R.neq rfl rfl) (VL.nil (V.condP rfl (fun c10 => V.seq (V.region (VL.op (R.asB rfl) (VL.nil (V.ret (fret1 (v := .bool _) rfl rfl rfl (⟨?_, (Mod.refl _ _)⟩))))))) (fun c10 => V.skip (V.seq (V.seq (V.region (VL.op (R.asI rfl) (VL.nil (V.block (?_)))))))))))))))))))))
  · have : l ≠ m := by rintro rfl; exact c10 rfl
    simp [this]
  have hlm : l.length = m.length := by have := Classical.not_not.1 c10; omega
  refine V.loop [0, 1, 5] (fun k : Nat => [.slice a l.length ca, .slice b m.length cb, .int .i64 k]) (fun k w' => k ≤ l.length ∧ (∀ i, i < k → l.getD i default = m.getD i default) ∧ Ext w w') (fun k => l.length - k) 0 rfl ⟨by omega, by intro i hi; omega, Mod.refl _ _⟩ ?_
  rintro ρ k w1 ⟨hk, hi, e⟩
  refine V.seq (V.seq (V.region (VL.op (R.mvI rfl) (VL.op (R.mvS rfl) (VL.op (R.lenS Try.runUnderlying34 rfl) (VL.op (R.lss rfl rfl) (VL.nil (V.condP rfl (fun c14 => V.skip (V.seq (V.block (V.seq (V.regionQ mixed 9 (by kernel_rfl) rfl (fun w' => Ext _ w') (Ext.drawn _) (VQ.op (fun wq eq => R.mvS rfl) (VQ.op (fun wq eq => R.mvI rfl) (VQ.op (fun wq eq => R.ixS Try.runUnderlying34 Try.sizeOf3 rfl rfl (by omega) (by omega) ((hS).some (i := k) (by omega))) (VQ.op (fun wq eq => R.ld1 Try.isAgg3 rfl (((((hS).ext (e.trans eq)).row (i := k) (by omega)).cell (i := 0) rfl))) (VQ.op (fun wq eq => R.mvS rfl) (VQ.op (fun wq eq => R.mvI rfl) (VQ.op (fun wq eq => R.ixS Try.runUnderlying34 Try.sizeOf3 rfl rfl (by omega) (by omega) ((hT).some (i := k) (by omega))) (VQ.op (fun wq eq => R.ld1 Try.isAgg3 rfl (((((hT).ext (e.trans eq)).row (i := k) (by omega)).cell (i := 0) rfl))) (VQ.op (fun wq eq => R.neq rfl rfl) (VQ.nil fun w6q e6q => VL.nil (V.condP rfl (fun c25 => V.seq (V.region (VL.op (R.asB rfl) (VL.nil (V.ret (fret1 (v := .bool _) rfl rfl rfl (⟨?_, (e.trans e6q)⟩))))))) (fun c25 => V.skip (V.region (VL.op (R.mvI rfl) (VL.op (R.add rfl rfl (by omega) (by omega)) (VL.op (R.asI rfl) (VL.nil (⟨k + 1, rfl, ⟨by omega, ?_, (e.trans e6q)⟩, by omega⟩))))))))))))))))))))))) (fun c14 => V.exit (V.seq (V.region (VL.op (R.asB rfl) (VL.nil (V.ret (fret1 (v := .bool _) rfl rfl rfl (⟨?_, e⟩))))))))))))))))
  · have : l ≠ m := by rintro rfl; exact c25 rfl
    simp [this]
  · intro i hik
    by_cases h : i = k
    · subst h; exact Classical.not_not.1 c25
    · exact hi i (by omega)
  · have : l = m := getD_ext' hlm fun i hik => hi i (by omega)
    simp [this]
set_option maxRecDepth 100000 in
set_option maxHeartbeats 4000000 in
theorem sameFact_spec (x y : Fct) (w : World) (hx : FctW w x) (hy : FctW w y) (h1 : x.f.row.length ≤ 1000000) (h2 : x.f.frm.length ≤ 1000000) (h3 : y.f.row.length ≤ 1000000) (h4 : y.f.frm.length ≤ 1000000) :
    RetsP Try.prog 37 #[.agg (encFct x).toArray, .agg (encFct y).toArray] w (.bool (decide (x.f = y.f))) := by
  refine enter (args := [_, _]) Try.func37 rfl Try.ntmps37 (by kernel_rfl) rfl ?_
  refine V.seq (V.region (VL.box (v := .agg _) rfl fun b1 w1 hb1 e1 hX1 => VL.box (v := .agg _) rfl fun b2 w2 hb2 e2 hX2 => VL.op (R.asB rfl) (VL.nil (V.seq (V.region (VL.op (R.fld' (o := 0) Try.runUnderlying48 rfl rfl Try.sizeOf3 rfl rfl) (VL.op (R.ld1 Try.isAgg3 rfl (((hX1.ext e2).cell _))) (VL.op (R.fld' (o := 0) Try.runUnderlying48 rfl rfl Try.sizeOf3 rfl rfl) (VL.op (R.ld1 Try.isAgg3 rfl ((hX2.cell _))) (VL.op (R.eql rfl rfl) (VL.op (R.mvB rfl) (VL.andP rfl rfl (fun g1_5 => VL.op (R.fld' (o := 1) Try.runUnderlying48 rfl rfl Try.sizeOf3 rfl rfl) (VL.gT rfl rfl (VL.op (R.ld1 Try.isAgg3 rfl (((hX1.ext e2).cell _))) (VL.gT rfl rfl (VL.op (R.fld' (o := 1) Try.runUnderlying48 rfl rfl Try.sizeOf3 rfl rfl) (VL.gT rfl rfl (VL.op (R.ld1 Try.isAgg3 rfl ((hX2.cell _))) (VL.gT rfl rfl (VL.op (R.eql rfl rfl) (VL.op (R.pickTB rfl rfl) (VL.op (R.mvB rfl) (VL.andP rfl rfl (fun g1_12 => VL.op (R.fld' (o := 2) Try.runUnderlying48 rfl rfl Try.sizeOf3 rfl rfl) (VL.gT rfl rfl (VL.op (R.ld1 Try.isAgg3 rfl (((hX1.ext e2).cell _))) (VL.gT rfl rfl (VL.op (R.fld' (o := 2) Try.runUnderlying48 rfl rfl Try.sizeOf3 rfl rfl) (VL.gT rfl rfl (VL.op (R.ld1 Try.isAgg3 rfl ((hX2.cell _))) (VL.gT rfl rfl (VL.op (R.eql rfl rfl) (VL.op (R.pickTB rfl rfl) (VL.op (R.mvB rfl) (VL.andP rfl rfl (fun g1_19 => VL.op (R.fld' (o := 4) Try.runUnderlying48 rfl rfl Try.sizeOf3 rfl rfl) (VL.gT rfl rfl (VL.op (R.ld1 Try.isAgg3 rfl (((hX1.ext e2).cell _))) (VL.gT rfl rfl (VL.op (R.fld' (o := 4) Try.runUnderlying48 rfl rfl Try.sizeOf3 rfl rfl) (VL.gT rfl rfl (VL.op (R.ld1 Try.isAgg3 rfl ((hX2.cell _))) (VL.gT rfl rfl (VL.op (R.eql rfl rfl) (VL.op (R.pickTB rfl rfl) (VL.op (R.mvB rfl) (VL.andP rfl rfl (fun g1_26 => VL.op (R.fld' (o := 3) Try.runUnderlying48 rfl rfl Try.sizeOf37 rfl rfl) (VL.gT rfl rfl (VL.op (R.ld1 Try.isAgg37 rfl (((hX1.ext e2).cell _))) (VL.gT rfl rfl (VL.op (R.fld' (o := 3) Try.runUnderlying48 rfl rfl Try.sizeOf37 rfl rfl) (VL.gT rfl rfl (VL.op (R.ld1 Try.isAgg37 rfl ((hX2.cell _))) (VL.gT rfl rfl (VL.callP Try.call15 rfl (rows_spec x.ra y.ra x.rc y.rc x.f.row y.f.row _ (by omega) (by omega) (hx.row.ext (e1.trans e2)) (hy.row.ext (e1.trans e2))) fun w1_31 e1_31 => VL.op (R.pickTB rfl rfl) (VL.op (R.mvB rfl) (VL.and rfl rfl (fun g1_33 => VL.op (R.fld' (o := 5) Try.runUnderlying48 rfl rfl Try.sizeOf34 rfl rfl) (VL.gT rfl rfl (VL.op (R.ld1 Try.isAgg34 rfl ((((hX1.ext e2).ext e1_31).cell _))) (VL.gT rfl rfl (VL.op (R.fld' (o := 5) Try.runUnderlying48 rfl rfl Try.sizeOf34 rfl rfl) (VL.gT rfl rfl (VL.op (R.ld1 Try.isAgg34 rfl (((hX2.ext e1_31).cell _))) (VL.gT rfl rfl (VL.callP Try.call17 rfl (ints_spec x.fa y.fa x.fc y.fc x.f.frm y.f.frm _ (by omega) (by omega) (hx.frm.ext ((e1.trans e2).trans e1_31)) (hy.frm.ext ((e1.trans e2).trans e1_31))) fun w1_38 e1_38 => VL.op (R.pickTB rfl rfl) (VL.op (R.asB rfl) (VL.nil (V.ret (fret1 (v := .bool _) rfl rfl rfl (⟨?_, (((e1.trans e2).trans e1_31).trans e1_38)⟩)))))))))))))) (fun g1_33 => VL.gF rfl rfl (VL.gF rfl rfl (VL.gF rfl rfl (VL.gF rfl rfl (VL.op (R.pickFB rfl rfl) (VL.op (R.asB rfl) (VL.nil (V.ret (fret1 (v := .bool _) rfl rfl rfl (⟨?_, ((e1.trans e2).trans e1_31)⟩))))))))))))))))))))) (fun g1_26 => VL.gF rfl rfl (VL.gF rfl rfl (VL.gF rfl rfl (VL.gF rfl rfl (VL.op (R.pickFB rfl rfl) (VL.op (R.mvB rfl) (VL.gF rfl rfl (VL.gF rfl rfl (VL.gF rfl rfl (VL.gF rfl rfl (VL.gF rfl rfl (VL.op (R.pickFB rfl rfl) (VL.op (R.asB rfl) (VL.nil (V.ret (fret1 (v := .bool _) rfl rfl rfl (⟨?_, (e1.trans e2)⟩))))))))))))))))))))))))))))) (fun g1_19 => VL.gF rfl rfl (VL.gF rfl rfl (VL.gF rfl rfl (VL.gF rfl rfl (VL.op (R.pickFB rfl rfl) (VL.op (R.mvB rfl) (VL.gF rfl rfl (VL.gF rfl rfl (VL.gF rfl rfl (VL.gF rfl rfl (VL.gF rfl rfl (VL.op (R.pickFB rfl rfl) (VL.op (R.mvB rfl) (VL.gF rfl rfl (VL.gF rfl rfl (VL.gF rfl rfl (VL.gF rfl rfl (VL.gF rfl rfl (VL.op (R.pickFB rfl rfl) (VL.op (R.asB rfl) (VL.nil (V.ret (fret1 (v := .bool _) rfl rfl rfl (⟨?_, (e1.trans e2)⟩)))))))))))))))))))))))))))))))))))) (fun g1_12 => VL.gF rfl rfl (VL.gF rfl rfl (VL.gF rfl rfl (VL.gF rfl rfl (VL.op (R.pickFB rfl rfl) (VL.op (R.mvB rfl) (VL.gF rfl rfl (VL.gF rfl rfl (VL.gF rfl rfl (VL.gF rfl rfl (VL.gF rfl rfl (VL.op (R.pickFB rfl rfl) (VL.op (R.mvB rfl) (VL.gF rfl rfl (VL.gF rfl rfl (VL.gF rfl rfl (VL.gF rfl rfl (VL.gF rfl rfl (VL.op (R.pickFB rfl rfl) (VL.op (R.mvB rfl) (VL.gF rfl rfl (VL.gF rfl rfl (VL.gF rfl rfl (VL.gF rfl rfl (VL.gF rfl rfl (VL.op (R.pickFB rfl rfl) (VL.op (R.asB rfl) (VL.nil (V.ret (fret1 (v := .bool _) rfl rfl rfl (⟨?_, (e1.trans e2)⟩))))))))))))))))))))))))))))))))))))))))))) (fun g1_5 => VL.gF rfl rfl (VL.gF rfl rfl (VL.gF rfl rfl (VL.gF rfl rfl (VL.op (R.pickFB rfl rfl) (VL.op (R.mvB rfl) (VL.gF rfl rfl (VL.gF rfl rfl (VL.gF rfl rfl (VL.gF rfl rfl (VL.gF rfl rfl (VL.op (R.pickFB rfl rfl) (VL.op (R.mvB rfl) (VL.gF rfl rfl (VL.gF rfl rfl (VL.gF rfl rfl (VL.gF rfl rfl (VL.gF rfl rfl (VL.op (R.pickFB rfl rfl) (VL.op (R.mvB rfl) (VL.gF rfl rfl (VL.gF rfl rfl (VL.gF rfl rfl (VL.gF rfl rfl (VL.gF rfl rfl (VL.op (R.pickFB rfl rfl) (VL.op (R.mvB rfl) (VL.gF rfl rfl (VL.gF rfl rfl (VL.gF rfl rfl (VL.gF rfl rfl (VL.gF rfl rfl (VL.op (R.pickFB rfl rfl) (VL.op (R.asB rfl) (VL.nil (V.ret (fret1 (v := .bool _) rfl rfl rfl (⟨?_, (e1.trans e2)⟩))))))))))))))))))))))))))))))))))))))))))))))))))
  · have : (x.f.frm = y.f.frm) ↔ x.f = y.f := ⟨fun h => by
      obtain ⟨⟨_, _, _, _, _, _⟩, _, _, _, _⟩ := x
      obtain ⟨⟨_, _, _, _, _, _⟩, _, _, _, _⟩ := y
      have h5 := of_decide_eq_true g1_33
      dsimp only at *
      subst h5 h g1_5 g1_12 g1_19 g1_26
      rfl, fun h => by rw [h]⟩
    rw [decide_eq_decide.2 this]
  · rw [decide_eq_false fun h : x.f = y.f => of_decide_eq_false g1_33 (by rw [h])]
  · rw [decide_eq_false fun h : x.f = y.f => g1_26 (by rw [h])]
  · rw [decide_eq_false fun h : x.f = y.f => g1_19 (by rw [h])]
  · rw [decide_eq_false fun h : x.f = y.f => g1_12 (by rw [h])]
  · rw [decide_eq_false fun h : x.f = y.f => g1_5 (by rw [h])]
/-- Short facts. -/
def ShortF (x : Fac) : Prop := x.row.length ≤ 1000000 ∧ x.frm.length ≤ 1000000
structure FctL (w : World) (a : Option Addr) (l : List Fct) : Prop where
  sl : TSl encFct 6 w a l
  each : ∀ x ∈ l, FctW w x
  short : ∀ x ∈ l, ShortF x.f
theorem FctL.ext {w w' : World} {a : Option Addr} {l : List Fct} (h : FctL w a l) (e : Ext w w') : FctL w' a l := ⟨h.sl.ext e, fun x hx => (h.each x hx).ext e, h.short⟩
set_option maxRecDepth 100000 in
set_option maxHeartbeats 4000000 in
theorem same_spec (a b : Option Addr) (ca cb : Nat) (l m : List Fct) (w : World) (hl : l.length ≤ 9223372036854775807) (hm : m.length ≤ 9223372036854775807) (hS : FctL w a l) (hT : FctL w b m) :
    RetsP Try.prog 16 #[.slice a l.length ca, .slice b m.length cb] w (.bool (decide (l.map (·.f) = m.map (·.f)))) := by
  refine enter (args := [_, _]) Try.func16 rfl Try.ntmps16 (by kernel_rfl) rfl ?_
  refine V.seq (V.region (VL.op (R.asB rfl) (VL.nil (V.seq (V.seq (V.region (VL.op (R.mvS rfl) (VL.op (R.lenS Try.runUnderlying41 rfl) (VL.op (R.mvS rfl) (VL.op (R.lenS Try.runUnderlying41 rfl) (VL.op (R.neq rfl rfl) (VL.nil (V.condP rfl (fun c10 => V.seq (V.region (VL.op (R.asB rfl) (VL.nil (V.ret (fret1 (v := .bool _) rfl rfl rfl (⟨?_, (Mod.refl _ _)⟩))))))) (fun c10 => V.skip (V.seq (V.seq (V.region (VL.op (R.asI rfl) (VL.nil (V.block (?_)))))))))))))))))))))
  · have : l.map (·.f) ≠ m.map (·.f) := fun h => by
      have := congrArg List.length h
      rw [List.length_map, List.length_map] at this
      omega
    simp [this]
  have hlm : l.length = m.length := by have := Classical.not_not.1 c10; omega
  refine V.loop [0, 1, 5] (fun k : Nat => [.slice a l.length ca, .slice b m.length cb, .int .i64 k]) (fun k w' => k ≤ l.length ∧ (∀ i, i < k → (l.getD i default).f = (m.getD i default).f) ∧ Ext w w') (fun k => l.length - k) 0 rfl ⟨by omega, by intro i hi; omega, Mod.refl _ _⟩ ?_
  rintro ρ k w1 ⟨hk, hi, e⟩
  have hS1 := hS.ext e
  have hT1 := hT.ext e
  have hgd : ∀ i, i < l.length → (l.map (·.f)).getD i default = (l.getD i default).f ∧ (m.map (·.f)).getD i default = (m.getD i default).f := fun i hi => by
    simp [List.getD, hi, show i < m.length by omega]
  have hkm : k < l.length → k < m.length := by omega
  refine V.seq (V.seq (V.region (VL.op (R.mvI rfl) (VL.op (R.mvS rfl) (VL.op (R.lenS Try.runUnderlying41 rfl) (VL.op (R.lss rfl rfl) (VL.nil (V.condP rfl (fun c14 => V.skip (V.seq (V.block (V.seq (?_))))) (fun c14 => V.exit (V.seq (V.region (VL.op (R.asB rfl) (VL.nil (V.ret (fret1 (v := .bool _) rfl rfl rfl (?_))))))))))))))))
  · have hkl : k < l.length := by omega
    have k1 := gmem hkl
    have k2 := gmem (hkm hkl)
    refine V.regionQ mixed 10 (by kernel_rfl) rfl (fun w' => Ext _ w') (Ext.drawn _) (VQ.op (fun wq eq => R.mvS rfl) (VQ.op (fun wq eq => R.mvI rfl) (VQ.op (fun wq eq => R.ixS Try.runUnderlying41 Try.sizeOf48 rfl rfl (by omega) (by omega) ((hS1.sl).some (i := k) (by omega))) (VQ.op (fun wq eq => R.ldA Try.isAgg48 Try.sizeOf48 rfl rfl ((show RowAt _ _ _ (encFct (l.getD k default)) from (((hS1.sl).ext eq).row (i := k) (by omega)))) rfl) (VQ.op (fun wq eq => R.mvS rfl) (VQ.op (fun wq eq => R.mvI rfl) (VQ.op (fun wq eq => R.ixS Try.runUnderlying41 Try.sizeOf48 rfl rfl (by omega) (by omega) ((hT1.sl).some (i := k) (by omega))) (VQ.op (fun wq eq => R.ldA Try.isAgg48 Try.sizeOf48 rfl rfl ((show RowAt _ _ _ (encFct (m.getD k default)) from (((hT1.sl).ext eq).row (i := k) (by omega)))) rfl) (VQ.callP (fun _ _ h k => Mod.trans h k) Try.call37 rfl (fun wq eq => sameFact_spec (l.getD k default) (m.getD k default) _ ((hS1.each _ k1).ext eq) ((hT1.each _ k2).ext eq) (hS1.short _ k1).1 (hS1.short _ k1).2 (hT1.short _ k2).1 (hT1.short _ k2).2) (VQ.op (fun wq eq => R.not rfl) (VQ.nil fun w6q e6q => VL.nil (V.cond rfl (fun c26 => V.seq (?_)) (fun c26 => V.skip (V.region (VL.op (R.mvI rfl) (VL.op (R.add rfl rfl (by omega) (by omega)) (VL.op (R.asI rfl) (VL.nil (?_)))))))))))))))))))
    · have hne : (l.getD k default).f ≠ (m.getD k default).f := of_decide_eq_false (by simpa using c26)
      have : l.map (·.f) ≠ m.map (·.f) := fun h => hne (by rw [← (hgd k hkl).1, ← (hgd k hkl).2, h])
      rw [decide_eq_false this]
      refine V.region (VL.op (R.asB rfl) (VL.nil (V.ret (fret1 (v := .bool _) rfl rfl rfl (⟨rfl, e.trans (by assumption)⟩)))))
    · have heq : (l.getD k default).f = (m.getD k default).f := of_decide_eq_true (by simpa using c26)
      refine ⟨k + 1, rfl, ⟨by omega, fun i hik => ?_, e.trans (by assumption)⟩, by omega⟩
      by_cases h : i = k
      · subst h; exact heq
      · exact hi i (by omega)
  · have hkl : k = l.length := by omega
    subst hkl
    refine ⟨?_, e⟩
    have : l.map (·.f) = m.map (·.f) := by
      refine getD_ext' (by rw [List.length_map, List.length_map]; exact hlm) fun i hi2 => ?_
      rw [List.length_map] at hi2
      rw [(hgd i hi2).1, (hgd i hi2).2]
      exact hi i hi2
    rw [decide_eq_true this]
set_option maxRecDepth 100000 in
set_option maxHeartbeats 4000000 in
/-- Small schemas have few tables. -/
theorem small_spec (s : Set_) (w : World) (hS : SetW w s) (hl : s.tabs.length ≤ 9223372036854775807) (ha : ∀ t ∈ s.tabs, t.attrs.length ≤ 9223372036854775807) :
    RetsX Try.prog 24 #[.agg [Value.slice s.ta s.tabs.length s.tc].toArray] w (fun b : Bool => .bool b) (fun b _ => b = true → s.tabs.length ≤ 24) := by
  refine enter (args := [_]) Try.func24 rfl Try.ntmps24 (by kernel_rfl) rfl ?_
  refine V.seq (V.region (VL.box (v := .agg _) rfl fun b1 w1 hb1 e1 hX1 => VL.op (R.asB rfl) (VL.nil (V.seq (V.seq (V.region (VL.op (R.fld' (o := 0) Try.runUnderlying24 rfl rfl Try.sizeOf22 rfl rfl) (VL.op (R.ld1 Try.isAgg22 rfl ((hX1.cell _))) (VL.op (R.lenS Try.runUnderlying22 rfl) (VL.op (R.gtr rfl rfl) (VL.nil (V.condP rfl (fun c9 => V.seq (V.region (VL.op (R.asB rfl) (VL.nil (V.ret (fret1 (v := .bool _) rfl rfl rfl (⟨false, rfl, (fun h => nomatch h), e1⟩))))))) (fun c9 => V.skip (V.seq (V.seq (V.region (VL.op (R.asI rfl) (VL.nil (V.block (?_))))))))))))))))))))
  have h24 : s.tabs.length ≤ 24 := by omega
  have hS1 := hS.ext e1
  refine V.loop [1, 3] (fun k : Nat => [.pointer (some ⟨b1, 0, none⟩), .int .i64 k]) (fun k w' => k ≤ s.tabs.length ∧ Ext w1 w') (fun k => s.tabs.length - k) 0 rfl ⟨by omega, Mod.refl _ _⟩ ?_
  rintro ρ k w2 ⟨hk, e2⟩
  have hS2 := hS1.ext e2
  have hX2 := hX1.ext e2
  refine V.seq (V.seq (V.region (VL.op (R.mvI rfl) (VL.op (R.fld' (o := 0) Try.runUnderlying24 rfl rfl Try.sizeOf22 rfl rfl) (VL.op (R.ld1 Try.isAgg22 rfl (((hX2.ext (Mod.refl _ _)).cell 0))) (VL.op (R.lenS Try.runUnderlying22 rfl) (VL.op (R.lss rfl rfl) (VL.nil (V.condP rfl (fun c14 => V.skip (V.seq (V.block (V.seq (?_))))) (fun c14 => V.exit (V.seq (V.region (VL.op (R.asB rfl) (VL.nil (V.ret (fret1 (v := .bool _) rfl rfl rfl (⟨true, rfl, (fun _ => h24), e1.trans e2⟩)))))))))))))))))
  have hkl : k < s.tabs.length := by omega
  have hat := hS2.attrs _ (gmem hkl)
  have hal := ha _ (gmem hkl)
  refine V.region (VL.op (R.fld' (o := 0) Try.runUnderlying24 rfl rfl Try.sizeOf22 rfl rfl) (VL.op (R.ld1 Try.isAgg22 rfl (((hX2.ext (Mod.refl _ _)).cell 0))) (VL.op (R.mvI rfl) (VL.op (R.ixS Try.runUnderlying22 Try.sizeOf78 rfl rfl (by omega) (by omega) (hS2.tabs.some (i := k) (by omega))) (VL.op (R.ldA Try.isAgg78 Try.sizeOf78 rfl rfl ((show RowAt _ _ _ (encTab (s.tabs.getD k default)) from ((hS2.tabs.ext (Mod.refl _ _)).row (i := k) (by omega)))) rfl) (VL.allocSt (v := .agg (encTab (s.tabs.getD k default)).toArray) Try.zeroValue78 Try.sizeOf78 rfl rfl rfl rfl rfl fun b6_5 w6_5 hb6_5 e6_5 hB6_5 => VL.nil (V.seq (V.seq (V.region (VL.op (R.fld' (o := 1) Try.runUnderlying78 rfl rfl Try.sizeOf76 rfl rfl) (VL.op (R.ld1 Try.isAgg76 rfl ((hB6_5.cell _))) (VL.op (R.lenS Try.runUnderlying76 rfl) (VL.op (R.gtr rfl rfl) (VL.op (R.mvB rfl) (VL.orP rfl rfl (fun g7_4 => VL.op (R.fld' (o := 2) Try.runUnderlying78 rfl rfl Try.sizeOf34 rfl rfl) (VL.gT rfl rfl (VL.op (R.ld1 Try.isAgg34 rfl ((hB6_5.cell _))) (VL.gT rfl rfl (VL.op (R.lenS Try.runUnderlying34 rfl) (VL.gT rfl rfl (VL.op (R.gtr rfl rfl) (VL.op (R.pickFB rfl rfl) (VL.op (R.mvB rfl) (VL.orP rfl rfl (fun g7_10 => VL.op (R.fld' (o := 0) Try.runUnderlying78 rfl rfl Try.sizeOf9 rfl rfl) (VL.gT rfl rfl (VL.op (R.ld1 Try.isAgg9 rfl ((hB6_5.cell _))) (VL.gT rfl rfl (VL.op (R.lenG Try.runUnderlying9 rfl) (VL.gT rfl rfl (VL.op (R.gtr rfl rfl) (VL.op (R.pickFB rfl rfl) (VL.nil (V.condP rfl (fun c37 => V.seq (?_)) (fun c37 => V.skip (V.seq (?_))))))))))))) (fun g7_10 => VL.gF rfl rfl (VL.gF rfl rfl (VL.gF rfl rfl (VL.op (R.pickTB rfl rfl) (VL.nil (V.condT rfl (V.seq (?_)))))))))))))))))) (fun g7_4 => VL.gF rfl rfl (VL.gF rfl rfl (VL.gF rfl rfl (VL.op (R.pickTB rfl rfl) (VL.op (R.mvB rfl) (VL.gF rfl rfl (VL.gF rfl rfl (VL.gF rfl rfl (VL.gF rfl rfl (VL.op (R.pickTB rfl rfl) (VL.nil (V.condT rfl (V.seq (?_)))))))))))))))))))))))))))))
  · refine V.region (VL.op (R.asB rfl) (VL.nil (V.ret (fret1 (v := .bool _) rfl rfl rfl (⟨false, rfl, (fun h => nomatch h), e1.trans (e2.trans e6_5)⟩)))))
  · have hat6 := hat.ext e6_5
    have hX6 := hX2.ext e6_5
    obtain ⟨tb, htb⟩ : ∃ tb, tb = s.tabs.getD k default := ⟨_, rfl⟩
    rw [← htb] at hat6 hB6_5 hal
    refine V.region (VL.op (R.asI rfl) (VL.nil (V.block (?_))))
    refine V.loop [1, 3, 4, 5] (fun j : Nat => [.pointer (some ⟨b1, 0, none⟩), .int .i64 k, .pointer (some ⟨b6_5, 0, none⟩), .int .i64 j]) (fun j w' => j ≤ tb.attrs.length ∧ Ext w6_5 w') (fun j => tb.attrs.length - j) 0 rfl ⟨by omega, Mod.refl _ _⟩ ?_
    rintro ρ j w7 ⟨hj, e7⟩
    have hB7 := hB6_5.ext e7
    have hat7 := hat6.ext e7
    have E7 := e1.trans (e2.trans (e6_5.trans e7))
    refine V.seq (V.seq (V.region (VL.op (R.mvI rfl) (VL.op (R.fld' (o := 1) Try.runUnderlying78 rfl rfl Try.sizeOf76 rfl rfl) (VL.op (R.ld1 Try.isAgg76 rfl (((hB7.ext (Mod.refl _ _)).cell 1))) (VL.op (R.lenS Try.runUnderlying76 rfl) (VL.op (R.lss rfl rfl) (VL.nil (V.condP rfl (fun c42 => V.skip (V.seq (V.block (V.seq (?_))))) (fun c42 => V.exit (V.region (VL.op (R.mvI rfl) (VL.op (R.add rfl rfl (by omega) (by omega)) (VL.op (R.asI rfl) (VL.nil (⟨k + 1, rfl, ⟨by omega, e2.trans (e6_5.trans e7)⟩, by omega⟩))))))))))))))))
    have hjl : j < tb.attrs.length := by omega
    refine V.region (VL.op (R.fld' (o := 1) Try.runUnderlying78 rfl rfl Try.sizeOf76 rfl rfl) (VL.op (R.ld1 Try.isAgg76 rfl (((hB7.ext (Mod.refl _ _)).cell 1))) (VL.op (R.mvI rfl) (VL.op (R.ixS Try.runUnderlying76 Try.sizeOf93 rfl rfl (by omega) (by omega) (hat7.some (i := j) (by omega))) (VL.op (R.fld' (o := 2) Try.runUnderlying93 rfl rfl Try.sizeOf91 rfl rfl) (VL.op (R.ld1 Try.isAgg91 rfl ((((hat7.ext (Mod.refl _ _)).row (i := j) (by omega)).cell (i := 2) rfl))) (VL.op (R.lenS Try.runUnderlying91 rfl) (VL.op (R.gtr rfl rfl) (VL.op (R.mvB rfl) (VL.orP rfl rfl (fun g12_8 => VL.op (R.fld' (o := 1) Try.runUnderlying78 rfl rfl Try.sizeOf76 rfl rfl) (VL.gT rfl rfl (VL.op (R.ld1 Try.isAgg76 rfl (((hB7.ext (Mod.refl _ _)).cell 1))) (VL.gT rfl rfl (VL.op (R.mvI rfl) (VL.gT rfl rfl (VL.op (R.ixS Try.runUnderlying76 Try.sizeOf93 rfl rfl (by omega) (by omega) (hat7.some (i := j) (by omega))) (VL.gT rfl rfl (VL.op (R.fld' (o := 3) Try.runUnderlying93 rfl rfl Try.sizeOf55 rfl rfl) (VL.gT rfl rfl (VL.op (R.fld' (o := 2) Try.runUnderlying55 rfl rfl Try.sizeOf9 rfl rfl) (VL.gT rfl rfl (VL.op (R.ld1 Try.isAgg9 rfl ((((hat7.ext (Mod.refl _ _)).row (i := j) (by omega)).cell (i := 5) rfl))) (VL.gT rfl rfl (VL.op (R.lenG Try.runUnderlying9 rfl) (VL.gT rfl rfl (VL.op (R.gtr rfl rfl) (VL.op (R.pickFB rfl rfl) (VL.nil (V.condP rfl (fun c63 => V.seq (V.region (VL.op (R.asB rfl) (VL.nil (V.ret (fret1 (v := .bool _) rfl rfl rfl (⟨false, rfl, (fun h => nomatch h), E7⟩))))))) (fun c63 => V.skip (V.region (VL.op (R.mvI rfl) (VL.op (R.add rfl rfl (by omega) (by omega)) (VL.op (R.asI rfl) (VL.nil (⟨j + 1, rfl, ⟨by omega, e7⟩, by omega⟩))))))))))))))))))))))))))) (fun g12_8 => VL.gF rfl rfl (VL.gF rfl rfl (VL.gF rfl rfl (VL.gF rfl rfl (VL.gF rfl rfl (VL.gF rfl rfl (VL.gF rfl rfl (VL.gF rfl rfl (VL.op (R.pickTB rfl rfl) (VL.nil (V.condT rfl (V.seq (V.region (VL.op (R.asB rfl) (VL.nil (V.ret (fret1 (v := .bool _) rfl rfl rfl (⟨false, rfl, (fun h => nomatch h), E7⟩))))))))))))))))))))))))))))
  · refine V.region (VL.op (R.asB rfl) (VL.nil (V.ret (fret1 (v := .bool _) rfl rfl rfl (⟨false, rfl, (fun h => nomatch h), e1.trans (e2.trans e6_5)⟩)))))
  · refine V.region (VL.op (R.asB rfl) (VL.nil (V.ret (fret1 (v := .bool _) rfl rfl rfl (⟨false, rfl, (fun h => nomatch h), e1.trans (e2.trans e6_5)⟩)))))
/-- The sizes that a law asks for. -/
structure FewOk (s : Set_) (recs : List Rec) (n : Int) : Prop where
  nt : s.tabs.length ≤ 24
  no : s.orgs.length ≤ 100
  nk : s.keeps.length ≤ 100
  nr : (recs.length : Int) ≤ n
  nc : ∀ r ∈ recs, r.cells.length ≤ 20
set_option maxRecDepth 100000 in
set_option maxHeartbeats 4000000 in
theorem few_spec (s : Set_) (recs : List Rec) (ra : Option Addr) (rc : Nat) (n : Int) (w : World) (hS : SetW w s) (hR : RecsW w ra recs) (hl : s.tabs.length ≤ 9223372036854775807) (ha : ∀ t ∈ s.tabs, t.attrs.length ≤ 9223372036854775807) (hr : recs.length ≤ 9223372036854775807) :
    RetsX Try.prog 10 #[.agg (encSet s).toArray, .slice ra recs.length rc, .int .i64 n] w (fun b : Bool => .bool b) (fun b _ => b = true → FewOk s recs n) := by
  refine enter (args := [_, _, _]) Try.func10 rfl Try.ntmps10 (by kernel_rfl) rfl ?_
  refine V.seq (V.region (VL.box (v := .agg _) rfl fun b1 w1 hb1 e1 hX1 => VL.op (R.asB rfl) (VL.nil (V.seq (V.seq (V.region (VL.op (R.asI rfl) (VL.nil (V.block (?_))))))))))
  have hS1 := hS.ext e1
  have hR1 := hR.ext e1
  refine V.loop [1, 2, 3, 7] (fun k : Nat => [.slice ra recs.length rc, .int .i64 n, .pointer (some ⟨b1, 0, none⟩), .int .i64 k]) (fun k w' => k ≤ recs.length ∧ (∀ i, i < k → (recs.getD i default).cells.length ≤ 20) ∧ Ext w1 w') (fun k => recs.length - k) 0 rfl ⟨by omega, fun i h => absurd h (Nat.not_lt_zero i), Mod.refl _ _⟩ ?_
  rintro ρ k w2 ⟨hk, hi, e2⟩
  have hS2 := hS1.ext e2
  have hR2 := hR1.ext e2
  have hX2 := hX1.ext e2
  refine V.seq (V.seq (V.region (VL.op (R.mvI rfl) (VL.op (R.mvS rfl) (VL.op (R.lenS Try.runUnderlying33 rfl) (VL.op (R.lss rfl rfl) (VL.nil (V.condP rfl (fun c11 => V.skip (V.seq (V.block (V.seq (?_))))) (fun c11 => V.exit (V.seq (?_)))))))))))
  · have hkl : k < recs.length := by omega
    refine V.region (VL.op (R.mvS rfl) (VL.op (R.mvI rfl) (VL.op (R.ixS Try.runUnderlying33 Try.sizeOf53 rfl rfl (by omega) (by omega) ((hR2.sl).some (i := k) (by omega))) (VL.op (R.fld' (o := 5) Try.runUnderlying53 rfl rfl Try.sizeOf51 rfl rfl) (VL.op (R.ld1 Try.isAgg51 rfl (((((hR2.sl).ext (Mod.refl _ _)).row (i := k) (by omega)).cell (i := 5) rfl))) (VL.op (R.lenS Try.runUnderlying51 rfl) (VL.op (R.gtr rfl rfl) (VL.nil (V.condP rfl (fun c20 => V.seq (V.region (VL.op (R.asB rfl) (VL.nil (V.ret (fret1 (v := .bool _) rfl rfl rfl (⟨false, rfl, (fun h => nomatch h), e1.trans e2⟩))))))) (fun c20 => V.skip (V.region (VL.op (R.mvI rfl) (VL.op (R.add rfl rfl (by omega) (by omega)) (VL.op (R.asI rfl) (VL.nil (⟨k + 1, rfl, ⟨by omega, fun i hik => ?_, e2⟩, by omega⟩))))))))))))))))
    by_cases h : i = k
    · subst h; omega
    · exact hi i (by omega)
  · have hkl : k = recs.length := by omega
    subst hkl
    have hcs : ∀ r ∈ recs, r.cells.length ≤ 20 := fun r hr => by
      obtain ⟨i, hi2, rfl⟩ := List.getElem_of_mem hr
      have := hi i hi2
      simpa [List.getD, hi2] using this
    refine V.region (VL.op (R.fld' (o := 0) Try.runUnderlying32 rfl rfl Try.sizeOf24 rfl rfl) (VL.op (R.ldA Try.isAgg24 Try.sizeOf24 rfl rfl ((show RowAt _ _ _ [Value.slice s.ta s.tabs.length s.tc] from ((hX2.ext (Mod.refl _ _)).rowAt 0 7).sub 0 1 rfl)) rfl) (VL.callX Try.call24 rfl (small_spec s _ (hS2.ext (Mod.refl _ _)) hl ha) fun b5 w5 hb5 e5 => VL.op (R.mvB rfl) (VL.and rfl rfl (fun g6_3 => VL.op (R.fld' (o := 1) Try.runUnderlying32 rfl rfl Try.sizeOf25 rfl rfl) (VL.gT rfl rfl (VL.op (R.ld1 Try.isAgg25 rfl (((hX2.ext e5).cell 1))) (VL.gT rfl rfl (VL.op (R.lenS Try.runUnderlying25 rfl) (VL.gT rfl rfl (VL.op (R.leq rfl rfl) (VL.op (R.pickTB rfl rfl) (VL.op (R.mvB rfl) (VL.andP rfl rfl (fun g6_9 => VL.op (R.fld' (o := 4) Try.runUnderlying32 rfl rfl Try.sizeOf28 rfl rfl) (VL.gT rfl rfl (VL.op (R.ld1 Try.isAgg28 rfl (((hX2.ext e5).cell 4))) (VL.gT rfl rfl (VL.op (R.lenS Try.runUnderlying28 rfl) (VL.gT rfl rfl (VL.op (R.leq rfl rfl) (VL.op (R.pickTB rfl rfl) (VL.op (R.mvB rfl) (VL.andP rfl rfl (fun g6_15 => VL.op (R.mvS rfl) (VL.gT rfl rfl (VL.op (R.lenS Try.runUnderlying33 rfl) (VL.gT rfl rfl (VL.op (R.mvI rfl) (VL.gT rfl rfl (VL.op (R.leq rfl rfl) (VL.op (R.pickTB rfl rfl) (VL.op (R.asB rfl) (VL.nil (V.ret (fret1 (v := .bool _) rfl rfl rfl (⟨_, rfl, ?_, e1.trans (e2.trans e5)⟩))))))))))))) (fun g6_15 => VL.gF rfl rfl (VL.gF rfl rfl (VL.gF rfl rfl (VL.op (R.pickFB rfl rfl) (VL.op (R.asB rfl) (VL.nil (V.ret (fret1 (v := .bool _) rfl rfl rfl (⟨_, rfl, ?_, e1.trans (e2.trans e5)⟩))))))))))))))))))) (fun g6_9 => VL.gF rfl rfl (VL.gF rfl rfl (VL.gF rfl rfl (VL.op (R.pickFB rfl rfl) (VL.op (R.mvB rfl) (VL.gF rfl rfl (VL.gF rfl rfl (VL.gF rfl rfl (VL.gF rfl rfl (VL.op (R.pickFB rfl rfl) (VL.op (R.asB rfl) (VL.nil (V.ret (fret1 (v := .bool _) rfl rfl rfl (⟨_, rfl, ?_, e1.trans (e2.trans e5)⟩))))))))))))))))))))))))) (fun g6_3 => VL.gF rfl rfl (VL.gF rfl rfl (VL.gF rfl rfl (VL.op (R.pickFB rfl rfl) (VL.op (R.mvB rfl) (VL.gF rfl rfl (VL.gF rfl rfl (VL.gF rfl rfl (VL.gF rfl rfl (VL.op (R.pickFB rfl rfl) (VL.op (R.mvB rfl) (VL.gF rfl rfl (VL.gF rfl rfl (VL.gF rfl rfl (VL.gF rfl rfl (VL.op (R.pickFB rfl rfl) (VL.op (R.asB rfl) (VL.nil (V.ret (fret1 (v := .bool _) rfl rfl rfl (⟨_, rfl, ?_, e1.trans (e2.trans e5)⟩)))))))))))))))))))))))))
    · intro h
      exact ⟨hb5 g6_3, by omega, by omega, of_decide_eq_true h, hcs⟩
    all_goals (intro h; cases h)
end Go.Proofs.Ytckihgamnmmbnaa
