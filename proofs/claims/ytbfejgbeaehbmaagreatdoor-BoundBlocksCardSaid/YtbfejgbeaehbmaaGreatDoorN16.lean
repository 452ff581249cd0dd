/- Bound: the reference's functions on vertices, edges and blocks. -/
import Derived.Test.YtbfejgbeaehbmaaGreatDoorN14
import Derived.Test.YtbfejgbeaehbmaaGreatDoorVcBlk
namespace Go.Proofs.YtbfejgbeaehbmaaGreatDoor
open Go.Vc
theorem two_eq {l : List Int} (h : (l.length : Int) = 2) : l = [l.getD 0 default, l.getD 1 default] := by
  have h : l.length = 2 := by omega
  match l, h with
  | [a, b], _ => rfl
theorem one_eq {l : List Int} (h : (l.length : Int) = 1) : l = [l.getD 0 default] := by
  have h : l.length = 1 := by omega
  match l, h with
  | [a], _ => rfl
theorem vals_mem {E : List SlI} {x : List Int} : x ∈ vals E ↔ ∃ i, i < E.length ∧ (E.getD i default).l = x := by
  constructor
  · intro h
    obtain ⟨y, hy, rfl⟩ := List.mem_map.1 h
    obtain ⟨i, hi, rfl⟩ := List.getElem_of_mem hy
    exact ⟨i, hi, by rw [gget hi]⟩
  · rintro ⟨i, hi, rfl⟩
    exact List.mem_map_of_mem (gmem hi)
theorem rfree32_spec (g : GrW) (v : Int) (w : World) (hG : GOk w g) (hl : GLen g) :
    RetsP Tryz.prog 70 #[.agg (encGr g).toArray, .int .i64 v] w (.bool (!inE (vals g.edges) v)) := by
  have hel := hl.e
  refine enter (args := [_, _]) Tryz.func70 rfl Tryz.ntmps70 (by kernel_rfl) rfl ?_
  refine V.seq (V.region (VL.box (v := .agg _) rfl fun b0_0 w0_0 hb0_0 e0_0 hB0_0 => VL.op (R.asB rfl) (VL.nil (V.seq (V.seq (V.region (VL.op (R.asI rfl) (VL.nil (V.block (?_))))))))))
  refine V.loop [1, 2, 5] (fun k : Nat => [.int .i64 v, .pointer (some ⟨b0_0, 0, none⟩), .int .i64 (k : Nat)]) (fun k w' => k ≤ g.edges.length ∧ (∀ i, i < k → v ∉ (g.edges.getD i default).l) ∧ Ext w0_0 w') (fun k => g.edges.length - k) 0 rfl ⟨Nat.zero_le _, fun i h => absurd h (Nat.not_lt_zero i), Vc.Mod.refl _ _⟩ ?_
  rintro ρ k w1 ⟨hk, hi, e⟩
  have hB1 := hB0_0.ext e
  have hE1 := (hG.ext (e0_0.trans e)).e
  refine V.seq (V.seq (V.region (VL.op (R.mvI rfl) (VL.op (R.fld' (o := 2) Tryz.runUnderlying25 rfl rfl Tryz.sizeOf23 rfl rfl) (VL.op (R.ld1 Tryz.isAgg23 rfl ((show w1.cell? ⟨b0_0, 2, none⟩ = some (Value.slice g.ea g.edges.length g.ec) from hB1.cell 2))) (VL.op (R.lenS Tryz.runUnderlying23 rfl) (VL.op (R.lss rfl rfl) (VL.nil (V.condP rfl (fun c10 => V.skip (V.seq (V.block (V.seq (?_))))) (fun c10 => V.exit (V.seq (V.region (VL.op (R.asB rfl) (VL.nil (V.ret (fret1 (v := .bool _) rfl rfl rfl (?_)))))))))))))))))
  · have hkl : k < g.edges.length := by omega
    have hxl := (hl.each _ (gmem hkl)).1
    refine V.region (VL.op (R.fld' (o := 2) Tryz.runUnderlying25 rfl rfl Tryz.sizeOf23 rfl rfl) (VL.op (R.ld1 Tryz.isAgg23 rfl ((show w1.cell? ⟨b0_0, 2, none⟩ = some (Value.slice g.ea g.edges.length g.ec) from hB1.cell 2))) (VL.op (R.mvI rfl) (VL.op (R.ixS Tryz.runUnderlying23 Tryz.sizeOf22 rfl rfl (by omega) (by omega) (hE1.sl.some (i := k) hkl)) (VL.op (R.ld1 Tryz.isAgg22 rfl (((hE1.sl.row (i := k) hkl).cell (i := 0) rfl))) (VL.op (R.mvI rfl) (VL.callP Tryz.call71 rfl (in_spec (g.edges.getD k default).a (g.edges.getD k default).c (g.edges.getD k default).l v _ (by omega) (hE1.at hkl)) fun w4_6 e4_6 => VL.nil (V.cond rfl (fun c19 => V.seq (V.region (VL.op (R.asB rfl) (VL.nil (V.ret (fret1 (v := .bool _) rfl rfl rfl (⟨?_, (e0_0.trans e).trans e4_6⟩))))))) (fun c19 => V.skip (V.region (VL.op (R.mvI rfl) (VL.op (R.add rfl rfl (by omega) (by omega)) (VL.op (R.asI rfl) (VL.nil (⟨k + 1, rfl, ⟨by omega, fun i h => ?_, e.trans e4_6⟩, by omega⟩)))))))))))))))
    · congr 1
      rw [inE_iff.2 ⟨_, vals_mem.2 ⟨k, hkl, rfl⟩, by simpa using c19⟩]; rfl
    · by_cases h2 : i = k
      · subst h2; simpa using c19
      · exact hi i (by omega)
  · have hke : k = g.edges.length := by omega
    subst hke
    refine ⟨?_, e0_0.trans e⟩
    congr 1
    symm
    rw [Bool.not_eq_true', ← Bool.not_eq_true]
    intro h
    obtain ⟨x, hx, hv⟩ := inE_iff.1 h
    obtain ⟨i, hil, rfl⟩ := vals_mem.1 hx
    exact hi i hil hv
theorem rbarred_spec (g : GrW) (v : Int) (w : World) (hG : GOk w g) (hl : GLen g) :
    RetsP Tryz.prog 34 #[.agg (encGr g).toArray, .int .i64 v] w (.bool (barE (vals g.edges) v)) := by
  have hel := hl.e
  refine enter (args := [_, _]) Tryz.func34 rfl Tryz.ntmps34 (by kernel_rfl) rfl ?_
  refine V.seq (V.region (VL.box (v := .agg _) rfl fun b0_0 w0_0 hb0_0 e0_0 hB0_0 => VL.op (R.asB rfl) (VL.nil (V.seq (V.seq (V.region (VL.op (R.asI rfl) (VL.nil (V.block (?_))))))))))
  refine V.loop [1, 2, 5] (fun k : Nat => [.int .i64 v, .pointer (some ⟨b0_0, 0, none⟩), .int .i64 (k : Nat)]) (fun k w' => k ≤ g.edges.length ∧ (∀ i, i < k → (g.edges.getD i default).l ≠ [v]) ∧ Ext w0_0 w') (fun k => g.edges.length - k) 0 rfl ⟨Nat.zero_le _, fun i h => absurd h (Nat.not_lt_zero i), Vc.Mod.refl _ _⟩ ?_
  rintro ρ k w1 ⟨hk, hi, e⟩
  have hB1 := hB0_0.ext e
  have hE1 := (hG.ext (e0_0.trans e)).e
  refine V.seq (V.seq (V.region (VL.op (R.mvI rfl) (VL.op (R.fld' (o := 2) Tryz.runUnderlying25 rfl rfl Tryz.sizeOf23 rfl rfl) (VL.op (R.ld1 Tryz.isAgg23 rfl ((show w1.cell? ⟨b0_0, 2, none⟩ = some (Value.slice g.ea g.edges.length g.ec) from hB1.cell 2))) (VL.op (R.lenS Tryz.runUnderlying23 rfl) (VL.op (R.lss rfl rfl) (VL.nil (V.condP rfl (fun c10 => V.skip (V.seq (V.block (V.seq (?_))))) (fun c10 => V.exit (V.seq (V.region (VL.op (R.asB rfl) (VL.nil (V.ret (fret1 (v := .bool _) rfl rfl rfl (?_)))))))))))))))))
  · have hkl : k < g.edges.length := by omega
    have hx1 := hE1.at hkl
    have next : (g.edges.getD k default).l ≠ [v] → ∀ i, i < k + 1 → (g.edges.getD i default).l ≠ [v] := fun h i hik => by
      by_cases h2 : i = k
      · subst h2; exact h
      · exact hi i (by omega)
    refine V.region (VL.op (R.fld' (o := 2) Tryz.runUnderlying25 rfl rfl Tryz.sizeOf23 rfl rfl) (VL.op (R.ld1 Tryz.isAgg23 rfl ((show w1.cell? ⟨b0_0, 2, none⟩ = some (Value.slice g.ea g.edges.length g.ec) from hB1.cell 2))) (VL.op (R.mvI rfl) (VL.op (R.ixS Tryz.runUnderlying23 Tryz.sizeOf22 rfl rfl (by omega) (by omega) (hE1.sl.some (i := k) hkl)) (VL.op (R.ld1 Tryz.isAgg22 rfl (((hE1.sl.row (i := k) hkl).cell (i := 0) rfl))) (VL.op (R.lenS Tryz.runUnderlying22 rfl) (VL.op (R.eql rfl rfl) (VL.op (R.mvB rfl) (VL.andP rfl rfl (fun g4_7 => VL.op (R.fld' (o := 2) Tryz.runUnderlying25 rfl rfl Tryz.sizeOf23 rfl rfl) (VL.gT rfl rfl (VL.op (R.ld1 Tryz.isAgg23 rfl ((show w1.cell? ⟨b0_0, 2, none⟩ = some (Value.slice g.ea g.edges.length g.ec) from hB1.cell 2))) (VL.gT rfl rfl (VL.op (R.mvI rfl) (VL.gT rfl rfl (VL.op (R.ixS Tryz.runUnderlying23 Tryz.sizeOf22 rfl rfl (by omega) (by omega) (hE1.sl.some (i := k) hkl)) (VL.gT rfl rfl (VL.op (R.ld1 Tryz.isAgg22 rfl (((hE1.sl.row (i := k) hkl).cell (i := 0) rfl))) (VL.gT rfl rfl (VL.op (R.ixS Tryz.runUnderlying22 Tryz.sizeOf3 rfl rfl (by omega) (by omega) (hx1.some (i := 0) (by omega))) (VL.gT rfl rfl (VL.op (R.ld1 Tryz.isAgg3 rfl (((hx1.row (i := 0) (by omega)).cell (i := 0) rfl))) (VL.gT rfl rfl (VL.op (R.mvI rfl) (VL.gT rfl rfl (VL.op (R.eql rfl rfl) (VL.op (R.pickTB rfl rfl) (VL.nil (V.condP rfl (fun c30 => V.seq (V.region (VL.op (R.asB rfl) (VL.nil (V.ret (fret1 (v := .bool _) rfl rfl rfl (⟨?_, (e0_0.trans e).trans (Mod.refl _ _)⟩))))))) (fun c30 => V.skip (V.region (VL.op (R.mvI rfl) (VL.op (R.add rfl rfl (by omega) (by omega)) (VL.op (R.asI rfl) (VL.nil (⟨k + 1, rfl, ⟨by omega, next ?_, e.trans (Mod.refl _ _)⟩, by omega⟩))))))))))))))))))))))))))) (fun g4_7 => VL.gF rfl rfl (VL.gF rfl rfl (VL.gF rfl rfl (VL.gF rfl rfl (VL.gF rfl rfl (VL.gF rfl rfl (VL.gF rfl rfl (VL.gF rfl rfl (VL.op (R.pickFB rfl rfl) (VL.nil (V.condF rfl (V.skip (V.region (VL.op (R.mvI rfl) (VL.op (R.add rfl rfl (by omega) (by omega)) (VL.op (R.asI rfl) (VL.nil (⟨k + 1, rfl, ⟨by omega, next ?_, e.trans (Mod.refl _ _)⟩, by omega⟩)))))))))))))))))))))))))))
    · congr 1
      refine (barE_iff.2 (vals_mem.2 ⟨k, hkl, ?_⟩)).symm
      rw [one_eq (l := (g.edges.getD k default).l) (by assumption), ‹(g.edges.getD k default).l.getD 0 default = v›]
    · intro h
      have h1 : (g.edges.getD k default).l.getD 0 default = v := by rw [h]; rfl
      contradiction
    · intro h
      have h1 : ((g.edges.getD k default).l.length : Int) = 1 := by rw [h]; rfl
      contradiction
  · have hke : k = g.edges.length := by omega
    subst hke
    refine ⟨?_, e0_0.trans e⟩
    congr 1
    symm
    rw [← Bool.not_eq_true]
    intro h
    obtain ⟨i, hil, hx⟩ := vals_mem.1 (barE_iff.1 h)
    exact hi i hil hx
theorem redge_spec (g : GrW) (a b : Int) (w : World) (hG : GOk w g) (hl : GLen g) :
    RetsP Tryz.prog 53 #[.agg (encGr g).toArray, .int .i64 a, .int .i64 b] w (.bool (decide ([a, b] ∈ vals g.edges))) := by
  have hel := hl.e
  refine enter (args := [_, _, _]) Tryz.func53 rfl Tryz.ntmps53 (by kernel_rfl) rfl ?_
  refine V.seq (V.region (VL.box (v := .agg _) rfl fun b0_0 w0_0 hb0_0 e0_0 hB0_0 => VL.op (R.asB rfl) (VL.nil (V.seq (V.seq (V.region (VL.op (R.asI rfl) (VL.nil (V.block (?_))))))))))
  refine V.loop [1, 2, 3, 7] (fun k : Nat => [.int .i64 a, .int .i64 b, .pointer (some ⟨b0_0, 0, none⟩), .int .i64 (k : Nat)]) (fun k w' => k ≤ g.edges.length ∧ (∀ i, i < k → (g.edges.getD i default).l ≠ [a, b]) ∧ Ext w0_0 w') (fun k => g.edges.length - k) 0 rfl ⟨Nat.zero_le _, fun i h => absurd h (Nat.not_lt_zero i), Vc.Mod.refl _ _⟩ ?_
  rintro ρ k w1 ⟨hk, hi, e⟩
  have hB1 := hB0_0.ext e
  have hE1 := (hG.ext (e0_0.trans e)).e
  refine V.seq (V.seq (V.region (VL.op (R.mvI rfl) (VL.op (R.fld' (o := 2) Tryz.runUnderlying25 rfl rfl Tryz.sizeOf23 rfl rfl) (VL.op (R.ld1 Tryz.isAgg23 rfl ((show w1.cell? ⟨b0_0, 2, none⟩ = some (Value.slice g.ea g.edges.length g.ec) from hB1.cell 2))) (VL.op (R.lenS Tryz.runUnderlying23 rfl) (VL.op (R.lss rfl rfl) (VL.nil (V.condP rfl (fun c12 => V.skip (V.seq (V.block (V.seq (?_))))) (fun c12 => V.exit (V.seq (V.region (VL.op (R.asB rfl) (VL.nil (V.ret (fret1 (v := .bool _) rfl rfl rfl (?_)))))))))))))))))
  · have hkl : k < g.edges.length := by omega
    have hx1 := hE1.at hkl
    have next : (g.edges.getD k default).l ≠ [a, b] → ∀ i, i < k + 1 → (g.edges.getD i default).l ≠ [a, b] := fun h i hik => by
      by_cases h2 : i = k
      · subst h2; exact h
      · exact hi i (by omega)
    refine V.region (VL.op (R.fld' (o := 2) Tryz.runUnderlying25 rfl rfl Tryz.sizeOf23 rfl rfl) (VL.op (R.ld1 Tryz.isAgg23 rfl ((show w1.cell? ⟨b0_0, 2, none⟩ = some (Value.slice g.ea g.edges.length g.ec) from hB1.cell 2))) (VL.op (R.mvI rfl) (VL.op (R.ixS Tryz.runUnderlying23 Tryz.sizeOf22 rfl rfl (by omega) (by omega) (hE1.sl.some (i := k) hkl)) (VL.op (R.ld1 Tryz.isAgg22 rfl (((hE1.sl.row (i := k) hkl).cell (i := 0) rfl))) (VL.op (R.lenS Tryz.runUnderlying22 rfl) (VL.op (R.eql rfl rfl) (VL.op (R.mvB rfl) (VL.andP rfl rfl (fun g4_7 => VL.op (R.fld' (o := 2) Tryz.runUnderlying25 rfl rfl Tryz.sizeOf23 rfl rfl) (VL.gT rfl rfl (VL.op (R.ld1 Tryz.isAgg23 rfl ((show w1.cell? ⟨b0_0, 2, none⟩ = some (Value.slice g.ea g.edges.length g.ec) from hB1.cell 2))) (VL.gT rfl rfl (VL.op (R.mvI rfl) (VL.gT rfl rfl (VL.op (R.ixS Tryz.runUnderlying23 Tryz.sizeOf22 rfl rfl (by omega) (by omega) (hE1.sl.some (i := k) hkl)) (VL.gT rfl rfl (VL.op (R.ld1 Tryz.isAgg22 rfl (((hE1.sl.row (i := k) hkl).cell (i := 0) rfl))) (VL.gT rfl rfl (VL.op (R.ixS Tryz.runUnderlying22 Tryz.sizeOf3 rfl rfl (by omega) (by omega) (hx1.some (i := 0) (by omega))) (VL.gT rfl rfl (VL.op (R.ld1 Tryz.isAgg3 rfl (((hx1.row (i := 0) (by omega)).cell (i := 0) rfl))) (VL.gT rfl rfl (VL.op (R.mvI rfl) (VL.gT rfl rfl (VL.op (R.eql rfl rfl) (VL.op (R.pickTB rfl rfl) (VL.op (R.mvB rfl) (VL.andP rfl rfl (fun g4_18 => VL.op (R.fld' (o := 2) Tryz.runUnderlying25 rfl rfl Tryz.sizeOf23 rfl rfl) (VL.gT rfl rfl (VL.op (R.ld1 Tryz.isAgg23 rfl ((show w1.cell? ⟨b0_0, 2, none⟩ = some (Value.slice g.ea g.edges.length g.ec) from hB1.cell 2))) (VL.gT rfl rfl (VL.op (R.mvI rfl) (VL.gT rfl rfl (VL.op (R.ixS Tryz.runUnderlying23 Tryz.sizeOf22 rfl rfl (by omega) (by omega) (hE1.sl.some (i := k) hkl)) (VL.gT rfl rfl (VL.op (R.ld1 Tryz.isAgg22 rfl (((hE1.sl.row (i := k) hkl).cell (i := 0) rfl))) (VL.gT rfl rfl (VL.op (R.ixS Tryz.runUnderlying22 Tryz.sizeOf3 rfl rfl (by omega) (by omega) (hx1.some (i := 1) (by omega))) (VL.gT rfl rfl (VL.op (R.ld1 Tryz.isAgg3 rfl (((hx1.row (i := 1) (by omega)).cell (i := 0) rfl))) (VL.gT rfl rfl (VL.op (R.mvI rfl) (VL.gT rfl rfl (VL.op (R.eql rfl rfl) (VL.op (R.pickTB rfl rfl) (VL.nil (V.condP rfl (fun c43 => V.seq (V.region (VL.op (R.asB rfl) (VL.nil (V.ret (fret1 (v := .bool _) rfl rfl rfl (⟨?_, (e0_0.trans e).trans (Mod.refl _ _)⟩))))))) (fun c43 => V.skip (V.region (VL.op (R.mvI rfl) (VL.op (R.add rfl rfl (by omega) (by omega)) (VL.op (R.asI rfl) (VL.nil (⟨k + 1, rfl, ⟨by omega, next fun h => ?_, e.trans (Mod.refl _ _)⟩, by omega⟩))))))))))))))))))))))))))) (fun g4_18 => VL.gF rfl rfl (VL.gF rfl rfl (VL.gF rfl rfl (VL.gF rfl rfl (VL.gF rfl rfl (VL.gF rfl rfl (VL.gF rfl rfl (VL.gF rfl rfl (VL.op (R.pickFB rfl rfl) (VL.nil (V.condF rfl (V.skip (V.region (VL.op (R.mvI rfl) (VL.op (R.add rfl rfl (by omega) (by omega)) (VL.op (R.asI rfl) (VL.nil (⟨k + 1, rfl, ⟨by omega, next fun h => ?_, e.trans (Mod.refl _ _)⟩, by omega⟩)))))))))))))))))))))))))))))))))))))) (fun g4_7 => VL.gF rfl rfl (VL.gF rfl rfl (VL.gF rfl rfl (VL.gF rfl rfl (VL.gF rfl rfl (VL.gF rfl rfl (VL.gF rfl rfl (VL.gF rfl rfl (VL.op (R.pickFB rfl rfl) (VL.op (R.mvB rfl) (VL.gF rfl rfl (VL.gF rfl rfl (VL.gF rfl rfl (VL.gF rfl rfl (VL.gF rfl rfl (VL.gF rfl rfl (VL.gF rfl rfl (VL.gF rfl rfl (VL.gF rfl rfl (VL.op (R.pickFB rfl rfl) (VL.nil (V.condF rfl (V.skip (V.region (VL.op (R.mvI rfl) (VL.op (R.add rfl rfl (by omega) (by omega)) (VL.op (R.asI rfl) (VL.nil (⟨k + 1, rfl, ⟨by omega, next fun h => ?_, e.trans (Mod.refl _ _)⟩, by omega⟩))))))))))))))))))))))))))))))))))))))
    all_goals have hlen := fun h : (g.edges.getD k default).l = [a, b] => show ((g.edges.getD k default).l.length : Int) = 2 by rw [h]; rfl
    all_goals have h0 := fun h : (g.edges.getD k default).l = [a, b] => show (g.edges.getD k default).l.getD 0 default = a by rw [h]; rfl
    all_goals have h1 := fun h : (g.edges.getD k default).l = [a, b] => show (g.edges.getD k default).l.getD 1 default = b by rw [h]; rfl
    · congr 1
      refine (decide_eq_true (vals_mem.2 ⟨k, hkl, ?_⟩)).symm
      rw [two_eq (l := (g.edges.getD k default).l) (by assumption), ‹(g.edges.getD k default).l.getD 0 default = a›, ‹(g.edges.getD k default).l.getD 1 default = b›]
    all_goals first | exact absurd (h1 h) (by assumption) | exact absurd (h0 h) (by assumption) | exact absurd (hlen h) (by assumption)
  · have hke : k = g.edges.length := by omega
    subst hke
    refine ⟨?_, e0_0.trans e⟩
    congr 1
    symm
    rw [decide_eq_false_iff_not]
    intro h
    obtain ⟨i, hil, hx⟩ := vals_mem.1 h
    exact hi i hil hx
/-- A block, as the reference finds it. -/
def blkR (E : List (List Int)) (C : List Int) : Bool := decide (2 ≤ C.length) && (List.range C.length).all fun j => (List.range j).all fun i => decide ([C.getD i default, C.getD j default] ∈ E)
theorem blkR_iff {E : List (List Int)} {C : List Int} : blkR E C = true ↔ 2 ≤ C.length ∧ ∀ i j, i < j → j < C.length → [C.getD i default, C.getD j default] ∈ E := by
  unfold blkR
  rw [Bool.and_eq_true, decide_eq_true_eq, List.all_eq_true]
  refine and_congr_right fun _ => ⟨fun h i j hij hj => ?_, fun h j hj => List.all_eq_true.2 fun i hi => decide_eq_true (h i j (List.mem_range.1 hi) (List.mem_range.1 hj))⟩
  exact of_decide_eq_true (List.all_eq_true.1 (h j (List.mem_range.2 hj)) i (List.mem_range.2 hij))
theorem rblock_spec (g : GrW) (a : Option Addr) (c : Nat) (C : List Int) (w : World) (hG : GOk w g) (hl : GLen g) (hC : IntSl w a C) (hm : C.length ≤ 1000000) :
    RetsP Tryz.prog 22 #[.agg (encGr g).toArray, .slice a C.length c] w (.bool (blkR (vals g.edges) C)) := by
  refine enter (args := [_, _]) Tryz.func22 rfl Tryz.ntmps22 (by kernel_rfl) rfl ?_
  refine V.seq (V.region (VL.box (v := .agg _) rfl fun b0_0 w0_0 hb0_0 e0_0 hB0_0 => VL.op (R.asB rfl) (VL.nil (V.seq (V.seq (V.region (VL.op (R.asI rfl) (VL.nil (V.block (?_))))))))))
  refine V.loop [1, 2, 5] (fun k : Nat => [.slice a C.length c, .pointer (some ⟨b0_0, 0, none⟩), .int .i64 (k : Nat)]) (fun k w' => k ≤ C.length ∧ (∀ i j, i < k → i < j → j < C.length → [C.getD i default, C.getD j default] ∈ vals g.edges) ∧ Ext w0_0 w') (fun k => C.length - k) 0 rfl ⟨Nat.zero_le _, fun i j h => absurd h (Nat.not_lt_zero i), Vc.Mod.refl _ _⟩ ?_
  rintro ρ k w1 ⟨hk, hi, e⟩
  refine V.seq (V.seq (V.region (VL.op (R.mvI rfl) (VL.op (R.mvS rfl) (VL.op (R.lenS Tryz.runUnderlying22 rfl) (VL.op (R.lss rfl rfl) (VL.nil (V.condP rfl (fun c10 => V.skip (V.seq (V.block (V.seq (?_))))) (fun c10 => V.exit (V.seq (V.region (VL.op (R.mvS rfl) (VL.op (R.lenS Tryz.runUnderlying22 rfl) (VL.op (R.geq rfl rfl) (VL.op (R.asB rfl) (VL.nil (V.ret (fret1 (v := .bool _) rfl rfl rfl (?_)))))))))))))))))))
  · have hkl : k < C.length := by omega
    refine V.region (VL.op (R.mvI rfl) (VL.op (R.add rfl rfl (by omega) (by omega)) (VL.op (R.asI rfl) (VL.nil (V.block (?_))))))
    refine V.loop [1, 2, 5, 6] (fun q : Nat => [.slice a C.length c, .pointer (some ⟨b0_0, 0, none⟩), .int .i64 (k : Nat), .int .i64 (q : Nat)]) (fun q w' => k < q ∧ q ≤ C.length ∧ (∀ j, k < j → j < q → [C.getD k default, C.getD j default] ∈ vals g.edges) ∧ Ext w0_0 w') (fun q => C.length - q) (k + 1) rfl ⟨Nat.lt_succ_self _, hkl, fun j h1 h2 => by omega, e⟩ ?_
    rintro ρ q w2 ⟨hkq, hq, hj, e2⟩
    have hB2 := hB0_0.ext e2
    have hC2 := hC.ext (e0_0.trans e2)
    refine V.seq (V.seq (V.region (VL.op (R.mvI rfl) (VL.op (R.mvS rfl) (VL.op (R.lenS Tryz.runUnderlying22 rfl) (VL.op (R.lss rfl rfl) (VL.nil (V.condP rfl (fun c18 => V.skip (V.seq (V.block (V.seq (?_))))) (fun c18 => V.exit (V.region (VL.op (R.mvI rfl) (VL.op (R.add rfl rfl (by omega) (by omega)) (VL.op (R.asI rfl) (VL.nil (?_)))))))))))))))
    · have hql : q < C.length := by omega
      refine V.regionQ mixed 11 (by kernel_rfl) rfl (fun w' => Ext _ w') (Ext.drawn _) (VQ.op (fun wq eq => R.ldA Tryz.isAgg25 Tryz.sizeOf25 rfl rfl ((show RowAt _ _ _ (encGr g) from (hB2.ext eq).rowAt 0 3)) rfl) (VQ.op (fun wq eq => R.mvS rfl) (VQ.op (fun wq eq => R.mvI rfl) (VQ.op (fun wq eq => R.ixS Tryz.runUnderlying22 Tryz.sizeOf3 rfl rfl (by omega) (by omega) ((hC2.ext eq).some (i := k) hkl)) (VQ.op (fun wq eq => R.ld1 Tryz.isAgg3 rfl ((((hC2.ext eq).row (i := k) hkl).cell (i := 0) rfl))) (VQ.op (fun wq eq => R.mvS rfl) (VQ.op (fun wq eq => R.mvI rfl) (VQ.op (fun wq eq => R.ixS Tryz.runUnderlying22 Tryz.sizeOf3 rfl rfl (by omega) (by omega) ((hC2.ext eq).some (i := q) hql)) (VQ.op (fun wq eq => R.ld1 Tryz.isAgg3 rfl ((((hC2.ext eq).row (i := q) hql).cell (i := 0) rfl))) (VQ.callP (fun _ _ h k => Mod.trans h k) Tryz.call53 rfl (fun wq eq => redge_spec g (C.getD k default) (C.getD q default) _ (hG.ext ((e0_0.trans e2).trans eq)) hl) (VQ.op (fun wq eq => R.not rfl) (VQ.nil fun w7q e7q => VL.nil (V.cond rfl (fun c31 => V.seq (V.region (VL.op (R.asB rfl) (VL.nil (V.ret (fret1 (v := .bool _) rfl rfl rfl (⟨?_, (e0_0.trans e2).trans e7q⟩))))))) (fun c31 => V.skip (V.region (VL.op (R.mvI rfl) (VL.op (R.add rfl rfl (by omega) (by omega)) (VL.op (R.asI rfl) (VL.nil (⟨q + 1, rfl, ⟨by omega, by omega, fun j h1 h2 => ?_, e2.trans e7q⟩, by omega⟩))))))))))))))))))))
      · congr 1
        symm
        rw [← Bool.not_eq_true]
        intro h
        have := (blkR_iff.1 h).2 k q hkq hql
        rw [decide_eq_true this] at c31; cases c31
      · by_cases h3 : j = q
        · subst h3; simpa using c31
        · exact hj j h1 (by omega)
    · have hqe : q = C.length := by omega
      subst hqe
      refine ⟨k + 1, rfl, ⟨by omega, fun i j h1 h2 h3 => ?_, e2⟩, by omega⟩
      by_cases h4 : i = k
      · subst h4; exact hj j h2 h3
      · exact hi i j (by omega) h2 h3
  · have hke : k = C.length := by omega
    subst hke
    refine ⟨?_, e0_0.trans e⟩
    congr 1
    rw [Bool.eq_iff_iff, blkR_iff, decide_eq_true_eq]
    exact ⟨fun h => ⟨by omega, fun i j h1 h2 => hi i j (by omega) h1 h2⟩, fun h => by have := h.1; omega⟩
theorem blkR_block {g : Gr} (hg : validG g = true) {c : List Int} (hc : c ∈ compsG g) : blkR g.edges c = blockB g.edges c := by
  rw [Bool.eq_iff_iff, blkR_iff, block_iff hg hc]
  have hi := comp_inc hg hc
  refine and_congr ⟨fun h => by omega, fun h => by omega⟩ ⟨fun h e he => ?_, fun h i j hij hj => h _ ((prsL_mem hi).2 ⟨_, _, rfl, gmem (by omega), gmem hj, inc_at hi hij hj⟩)⟩
  obtain ⟨x, y, rfl, hx, hy, hxy⟩ := (prsL_mem hi).1 he
  obtain ⟨i, hil, rfl⟩ := List.getElem_of_mem hx
  obtain ⟨j, hjl, rfl⟩ := List.getElem_of_mem hy
  have hij : i < j := by
    rcases Nat.lt_trichotomy i j with h | h | h
    · exact h
    · subst h; omega
    · have := inc_at hi h hil
      rw [gget hil, gget hjl] at this; omega
  have := h i j hij hjl
  rwa [gget hil, gget hjl] at this
end Go.Proofs.YtbfejgbeaehbmaaGreatDoor
