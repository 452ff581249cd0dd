/- Bound: the reference's Ready and Quick. -/
import Derived.Test.YtbfejgbeaehbmaaGreatDoorN16
import Derived.Test.YtbfejgbeaehbmaaGreatDoorQ1
namespace Go.Proofs.YtbfejgbeaehbmaaGreatDoor
open Go.Vc
theorem rformed_spec (x : WyI) (n : Int) (w : World) (hx : WyOk w x) (hl : WLen x) :
    RetsP Tryz.prog 52 #[.agg (encWy x).toArray, .int .i64 n] w (.bool (wyB n (wyV x))) := by
  have hlp := hl.p
  have hln := hl.n
  refine enter (args := [_, _]) Tryz.func52 rfl Tryz.ntmps52 (by kernel_rfl) rfl ?_
  refine V.seq (V.region (VL.box (v := .agg _) rfl fun b0_0 w0_0 hb0_0 e0_0 hB0_0 => VL.op (R.asB rfl) (VL.nil (V.seq (V.region (VL.op (R.fld' (o := 0) Tryz.runUnderlying46 rfl rfl Tryz.sizeOf22 rfl rfl) (VL.op (R.ld1 Tryz.isAgg22 rfl ((show w0_0.cell? ⟨b0_0, 0, none⟩ = some (Value.slice x.p.a x.p.l.length x.p.c) from hB0_0.cell 0))) (VL.op (R.mvI rfl) (VL.callP Tryz.call60 rfl (verts_spec x.p.a x.p.c x.p.l n _ (by omega) (hx.p.ext e0_0)) fun w1_3 e1_3 => VL.op (R.mvB rfl) (VL.and rfl rfl (fun g1_4 => VL.op (R.fld' (o := 1) Tryz.runUnderlying46 rfl rfl Tryz.sizeOf22 rfl rfl) (VL.gT rfl rfl (VL.op (R.ld1 Tryz.isAgg22 rfl ((show w1_3.cell? ⟨b0_0, 1, none⟩ = some (Value.slice x.n.a x.n.l.length x.n.c) from (hB0_0.ext e1_3).cell 1))) (VL.gT rfl rfl (VL.op (R.mvI rfl) (VL.gT rfl rfl (VL.callP Tryz.call60 rfl (verts_spec x.n.a x.n.c x.n.l n _ (by omega) (hx.n.ext (e0_0.trans e1_3))) fun w1_8 e1_8 => VL.op (R.pickTB rfl rfl) (VL.op (R.asB rfl) (VL.nil (V.ret (fret1 (v := .bool _) rfl rfl rfl (⟨?_, ((e0_0.trans e1_3).trans e1_8)⟩)))))))))))) (fun g1_4 => VL.gF rfl rfl (VL.gF rfl rfl (VL.gF rfl rfl (VL.op (R.pickFB rfl rfl) (VL.op (R.asB rfl) (VL.nil (V.ret (fret1 (v := .bool _) rfl rfl rfl (⟨?_, (e0_0.trans e1_3)⟩)))))))))))))))))))
  · unfold wyB wyV; dsimp only; rw [g1_4, Bool.true_and]
  · unfold wyB wyV; dsimp only; rw [g1_4, Bool.false_and]
theorem ready_iff {g : Gr} {W : List Wy} : readyG g W = true ↔ validG g = true ∧ W.length ≤ 400 ∧ ∀ x ∈ W, wyB g.n x = true := by
  unfold readyG
  rw [Bool.and_eq_true, Bool.and_eq_true, decide_eq_true_eq, List.all_eq_true, and_assoc]
theorem rready_spec (g : GrW) (W : List WyI) (a : Option Addr) (c : Nat) (w : World) (hG : GOk w g) (hl : GLen g) (hW : WL w a W) (hwm : W.length ≤ 9223372036854775807) (hwl : ∀ x ∈ W, WLen x) :
    RetsP Tryz.prog 21 #[.agg (encGr g).toArray, .slice a W.length c] w (.bool (readyG (grV g) (W.map wyV))) := by
  refine enter (args := [_, _]) Tryz.func21 rfl Tryz.ntmps21 (by kernel_rfl) rfl ?_
  refine V.seq (V.region (VL.box (v := .agg _) rfl fun b0_0 w0_0 hb0_0 e0_0 hB0_0 => VL.op (R.asB rfl) (VL.nil (V.seq (V.seq (V.region (VL.op (R.ldA Tryz.isAgg25 Tryz.sizeOf25 rfl rfl ((show RowAt _ _ _ (encGr g) from (hB0_0.rowAt 0 3))) rfl) (VL.callP Tryz.call32 rfl (rvalid_spec g _ (hG.ext e0_0) hl) fun w1_1 e1_1 => VL.op (R.not rfl) (VL.op (R.mvB rfl) (VL.or rfl rfl (fun g1_3 => VL.op (R.mvS rfl) (VL.gT rfl rfl (VL.op (R.lenS Tryz.runUnderlying26 rfl) (VL.gT rfl rfl (VL.op (R.gtr rfl rfl) (VL.op (R.pickFB rfl rfl) (VL.nil (V.condP rfl (fun c13 => V.seq (V.region (VL.op (R.asB rfl) (VL.nil (V.ret (fret1 (v := .bool _) rfl rfl rfl (⟨?_, (e0_0.trans e1_1)⟩))))))) (fun c13 => V.skip (V.seq (V.seq (?_)))))))))))) (fun g1_3 => VL.gF rfl rfl (VL.gF rfl rfl (VL.op (R.pickTB rfl rfl) (VL.nil (V.condT rfl (V.seq (V.region (VL.op (R.asB rfl) (VL.nil (V.ret (fret1 (v := .bool _) rfl rfl rfl (⟨?_, (e0_0.trans e1_1)⟩))))))))))))))))))))))
  · congr 1; symm; rw [← Bool.not_eq_true]; intro h
    have := (ready_iff.1 h).2.1
    rw [List.length_map] at this
    omega
  · have hv : validG (grV g) = true := by simpa using g1_3
    have hlen : W.length ≤ 400 := by omega
    refine V.region (VL.op (R.asI rfl) (VL.nil (V.block (?_))))
    refine V.loop [1, 2, 5] (fun k : Nat => [.slice a W.length c, .pointer (some ⟨b0_0, 0, none⟩), .int .i64 (k : Nat)]) (fun k w' => k ≤ W.length ∧ (∀ i, i < k → wyB g.n (wyV (W.getD i default)) = true) ∧ Ext w0_0 w') (fun k => W.length - k) 0 rfl ⟨Nat.zero_le _, fun i h => absurd h (Nat.not_lt_zero i), e1_1⟩ ?_
    rintro ρ k w2 ⟨hk, hi, e⟩
    have hB2 := hB0_0.ext e
    have hW2 := hW.ext (e0_0.trans e)
    refine V.seq (V.seq (V.region (VL.op (R.mvI rfl) (VL.op (R.mvS rfl) (VL.op (R.lenS Tryz.runUnderlying26 rfl) (VL.op (R.lss rfl rfl) (VL.nil (V.condP rfl (fun c17 => V.skip (V.seq (V.block (V.seq (?_))))) (fun c17 => V.exit (V.seq (V.region (VL.op (R.asB rfl) (VL.nil (V.ret (fret1 (v := .bool _) rfl rfl rfl (?_))))))))))))))))
    · have hkl : k < W.length := by omega
      refine V.regionQ mixed 8 (by kernel_rfl) rfl (fun w' => Ext _ w') (Ext.drawn _) (VQ.op (fun wq eq => R.mvS rfl) (VQ.op (fun wq eq => R.mvI rfl) (VQ.op (fun wq eq => R.ixS Tryz.runUnderlying26 Tryz.sizeOf46 rfl rfl (by omega) (by omega) ((hW2.sl.ext eq).some (i := k) hkl)) (VQ.op (fun wq eq => R.ldA Tryz.isAgg46 Tryz.sizeOf46 rfl rfl ((show RowAt _ _ _ (encWy (W.getD k default)) from ((hW2.sl.ext eq).row (i := k) hkl))) rfl) (VQ.op (fun wq eq => R.fld' (o := 0) Tryz.runUnderlying25 rfl rfl Tryz.sizeOf3 rfl rfl) (VQ.op (fun wq eq => R.ld1 Tryz.isAgg3 rfl ((show wq.cell? ⟨b0_0, 0, none⟩ = some (Value.int .i64 g.n) from (hB2.ext eq).cell 0))) (VQ.callP (fun _ _ h k => Mod.trans h k) Tryz.call52 rfl (fun wq eq => rformed_spec (W.getD k default) g.n _ ((hW2.at hkl).ext eq) (hwl _ (gmem hkl))) (VQ.op (fun wq eq => R.not rfl) (VQ.nil fun w6q e6q => VL.nil (V.cond rfl (fun c27 => V.seq (V.region (VL.op (R.asB rfl) (VL.nil (V.ret (fret1 (v := .bool _) rfl rfl rfl (⟨?_, (e0_0.trans e).trans e6q⟩))))))) (fun c27 => V.skip (V.region (VL.op (R.mvI rfl) (VL.op (R.add rfl rfl (by omega) (by omega)) (VL.op (R.asI rfl) (VL.nil (⟨k + 1, rfl, ⟨by omega, fun i h => ?_, e.trans e6q⟩, by omega⟩)))))))))))))))))
      · congr 1; symm; rw [← Bool.not_eq_true]; intro h
        have := (ready_iff.1 h).2.2 _ (List.mem_map_of_mem (gmem hkl))
        rw [show wyB (grV g).n _ = wyB g.n _ from rfl] at this
        rw [this] at c27; cases c27
      · by_cases h2 : i = k
        · subst h2; simpa using c27
        · exact hi i (by omega)
    · have hke : k = W.length := by omega
      subst hke
      refine ⟨?_, e0_0.trans e⟩
      congr 1; symm
      refine ready_iff.2 ⟨hv, by rw [List.length_map]; exact hlen, fun x hx => ?_⟩
      obtain ⟨y, hy, rfl⟩ := List.mem_map.1 hx
      obtain ⟨i, hil, rfl⟩ := List.getElem_of_mem hy
      rw [← gget hil]; exact hi i hil
  · congr 1; symm; rw [← Bool.not_eq_true]; intro h
    have := (ready_iff.1 h).1
    rw [this] at g1_3; cases g1_3
theorem rcertain_spec (g : GrW) (x : WyI) (w : World) (hG : GOk w g) (hl : GLen g) (hx : WyOk w x) (hwl : WLen x) :
    RetsP Tryz.prog 41 #[.agg (encGr g).toArray, .agg (encWy x).toArray] w (.bool (certW (vals g.edges) (wyV x))) := by
  have hlp := hwl.p
  have hln := hwl.n
  refine enter (args := [_, _]) Tryz.func41 rfl Tryz.ntmps41 (by kernel_rfl) rfl ?_
  refine V.seq (V.region (VL.box (v := .agg _) rfl fun b0_0 w0_0 hb0_0 e0_0 hB0_0 => VL.box (v := .agg _) rfl fun b0_1 w0_1 hb0_1 e0_1 hB0_1 => VL.op (R.asB rfl) (VL.nil (V.cut [2, 3] (fun _ : Unit => [.pointer (some ⟨b0_0, 0, none⟩), .pointer (some ⟨b0_1, 0, none⟩)]) (fun _ w' => (∀ i, i < x.p.l.length → inE (vals g.edges) (x.p.l.getD i default) = false) ∧ Ext w0_1 w') (V.seq (V.region (VL.op (R.asI rfl) (VL.nil (V.block (?_)))))) (fun rgB0 xB0 wBB0 hBB0 => V.seq (V.seq (?_)))))))
  · refine V.loop [2, 3, 5] (fun k : Nat => [.pointer (some ⟨b0_0, 0, none⟩), .pointer (some ⟨b0_1, 0, none⟩), .int .i64 (k : Nat)]) (fun k w' => k ≤ x.p.l.length ∧ (∀ i, i < k → inE (vals g.edges) (x.p.l.getD i default) = false) ∧ Ext w0_1 w') (fun k => x.p.l.length - k) 0 rfl ⟨Nat.zero_le _, fun i h => absurd h (Nat.not_lt_zero i), Vc.Mod.refl _ _⟩ ?_
    rintro ρ k w1 ⟨hk, hi, e⟩
    have hA := (hB0_0.ext e0_1).ext e
    have hB := hB0_1.ext e
    have eT := (e0_0.trans e0_1).trans e
    have hx1 := hx.ext eT
    refine V.seq (V.seq (V.region (VL.op (R.mvI rfl) (VL.op (R.fld' (o := 0) Tryz.runUnderlying46 rfl rfl Tryz.sizeOf22 rfl rfl) (VL.op (R.ld1 Tryz.isAgg22 rfl ((show w1.cell? ⟨b0_1, 0, none⟩ = some (Value.slice x.p.a x.p.l.length x.p.c) from hB.cell 0))) (VL.op (R.lenS Tryz.runUnderlying22 rfl) (VL.op (R.lss rfl rfl) (VL.nil (V.condP rfl (fun c11 => V.skip (V.seq (V.block (V.seq (?_))))) (fun c11 => V.exit (?_)))))))))))
    · have hkl : k < x.p.l.length := by omega
      refine V.regionQ mixed 8 (by kernel_rfl) rfl (fun w' => Ext _ w') (Ext.drawn _) (VQ.op (fun wq eq => R.ldA Tryz.isAgg25 Tryz.sizeOf25 rfl rfl ((show RowAt _ _ _ (encGr g) from (hA.ext eq).rowAt 0 3)) rfl) (VQ.op (fun wq eq => R.fld' (o := 0) Tryz.runUnderlying46 rfl rfl Tryz.sizeOf22 rfl rfl) (VQ.op (fun wq eq => R.ld1 Tryz.isAgg22 rfl ((show wq.cell? ⟨b0_1, 0, none⟩ = some (Value.slice x.p.a x.p.l.length x.p.c) from (hB.ext eq).cell 0))) (VQ.op (fun wq eq => R.mvI rfl) (VQ.op (fun wq eq => R.ixS Tryz.runUnderlying22 Tryz.sizeOf3 rfl rfl (by omega) (by omega) ((hx1.p.ext eq).some (i := k) hkl)) (VQ.op (fun wq eq => R.ld1 Tryz.isAgg3 rfl ((((hx1.p.ext eq).row (i := k) hkl).cell (i := 0) rfl))) (VQ.callP (fun _ _ h k => Mod.trans h k) Tryz.call70 rfl (fun wq eq => rfree32_spec g (x.p.l.getD k default) _ (hG.ext (eT.trans eq)) hl) (VQ.op (fun wq eq => R.not rfl) (VQ.nil fun w4q e4q => VL.nil (V.cond rfl (fun c21 => V.seq (V.region (VL.op (R.asB rfl) (VL.nil (V.ret (fret1 (v := .bool _) rfl rfl rfl (⟨?_, eT.trans e4q⟩))))))) (fun c21 => V.skip (V.region (VL.op (R.mvI rfl) (VL.op (R.add rfl rfl (by omega) (by omega)) (VL.op (R.asI rfl) (VL.nil (⟨k + 1, rfl, ⟨by omega, fun i h => ?_, e.trans e4q⟩, by omega⟩)))))))))))))))))
      · unfold certW wyV
        dsimp only
        have : (x.p.l.all fun v => !inE (vals g.edges) v) = false := List.all_eq_false.2 ⟨_, gmem hkl, by simpa using c21⟩
        rw [this]; rfl
      · by_cases h2 : i = k
        · subst h2; simpa using c21
        · exact hi i (by omega)
    · have hke : k = x.p.l.length := by omega
      subst hke
      exact ⟨(), rfl, hi, e⟩
  · obtain ⟨hp, e1⟩ := hBB0
    refine V.region (VL.op (R.asI rfl) (VL.nil (V.block (?_))))
    refine V.loop [2, 3, 6] (fun k : Nat => [.pointer (some ⟨b0_0, 0, none⟩), .pointer (some ⟨b0_1, 0, none⟩), .int .i64 (k : Nat)]) (fun k w' => k ≤ x.n.l.length ∧ (∀ i, i < k → barE (vals g.edges) (x.n.l.getD i default) = true) ∧ Ext w0_1 w') (fun k => x.n.l.length - k) 0 rfl ⟨Nat.zero_le _, fun i h => absurd h (Nat.not_lt_zero i), e1⟩ ?_
    rintro ρ k w1 ⟨hk, hi, e⟩
    have hA := (hB0_0.ext e0_1).ext e
    have hB := hB0_1.ext e
    have eT := (e0_0.trans e0_1).trans e
    have hx1 := hx.ext eT
    refine V.seq (V.seq (V.region (VL.op (R.mvI rfl) (VL.op (R.fld' (o := 1) Tryz.runUnderlying46 rfl rfl Tryz.sizeOf22 rfl rfl) (VL.op (R.ld1 Tryz.isAgg22 rfl ((show w1.cell? ⟨b0_1, 1, none⟩ = some (Value.slice x.n.a x.n.l.length x.n.c) from hB.cell 1))) (VL.op (R.lenS Tryz.runUnderlying22 rfl) (VL.op (R.lss rfl rfl) (VL.nil (V.condP rfl (fun c26 => V.skip (V.seq (V.block (V.seq (?_))))) (fun c26 => V.exit (V.seq (V.region (VL.op (R.asB rfl) (VL.nil (V.ret (fret1 (v := .bool _) rfl rfl rfl (?_)))))))))))))))))
    · have hkl : k < x.n.l.length := by omega
      refine V.regionQ mixed 8 (by kernel_rfl) rfl (fun w' => Ext _ w') (Ext.drawn _) (VQ.op (fun wq eq => R.ldA Tryz.isAgg25 Tryz.sizeOf25 rfl rfl ((show RowAt _ _ _ (encGr g) from (hA.ext eq).rowAt 0 3)) rfl) (VQ.op (fun wq eq => R.fld' (o := 1) Tryz.runUnderlying46 rfl rfl Tryz.sizeOf22 rfl rfl) (VQ.op (fun wq eq => R.ld1 Tryz.isAgg22 rfl ((show wq.cell? ⟨b0_1, 1, none⟩ = some (Value.slice x.n.a x.n.l.length x.n.c) from (hB.ext eq).cell 1))) (VQ.op (fun wq eq => R.mvI rfl) (VQ.op (fun wq eq => R.ixS Tryz.runUnderlying22 Tryz.sizeOf3 rfl rfl (by omega) (by omega) ((hx1.n.ext eq).some (i := k) hkl)) (VQ.op (fun wq eq => R.ld1 Tryz.isAgg3 rfl ((((hx1.n.ext eq).row (i := k) hkl).cell (i := 0) rfl))) (VQ.callP (fun _ _ h k => Mod.trans h k) Tryz.call34 rfl (fun wq eq => rbarred_spec g (x.n.l.getD k default) _ (hG.ext (eT.trans eq)) hl) (VQ.op (fun wq eq => R.not rfl) (VQ.nil fun w9q e9q => VL.nil (V.cond rfl (fun c36 => V.seq (V.region (VL.op (R.asB rfl) (VL.nil (V.ret (fret1 (v := .bool _) rfl rfl rfl (⟨?_, eT.trans e9q⟩))))))) (fun c36 => V.skip (V.region (VL.op (R.mvI rfl) (VL.op (R.add rfl rfl (by omega) (by omega)) (VL.op (R.asI rfl) (VL.nil (⟨k + 1, rfl, ⟨by omega, fun i h => ?_, e.trans e9q⟩, by omega⟩)))))))))))))))))
      · unfold certW wyV
        dsimp only
        have : (x.n.l.all fun v => barE (vals g.edges) v) = false := List.all_eq_false.2 ⟨_, gmem hkl, by simpa using c36⟩
        rw [this, Bool.and_false]
      · by_cases h2 : i = k
        · subst h2; simpa using c36
        · exact hi i (by omega)
    · have hke : k = x.n.l.length := by omega
      subst hke
      refine ⟨?_, eT⟩
      unfold certW wyV
      dsimp only
      congr 1; symm
      rw [Bool.and_eq_true, List.all_eq_true, List.all_eq_true]
      refine ⟨fun v hv => ?_, fun v hv => ?_⟩
      all_goals
        obtain ⟨i, hil, rfl⟩ := List.getElem_of_mem hv
        rw [← gget hil]
      · rw [hp i hil]; rfl
      · exact hi i hil
theorem rnever_spec (g : GrW) (x : WyI) (w : World) (hG : GOk w g) (hl : GLen g) (hx : WyOk w x) (hwl : WLen x) (hE : ∀ e ∈ vals g.edges, Inc e) (hP : Inc x.p.l) :
    RetsP Tryz.prog 42 #[.agg (encGr g).toArray, .agg (encWy x).toArray] w (.bool (neverW (vals g.edges) (wyV x))) := by
  have hlp := hwl.p
  have hln := hwl.n
  have hel := hl.e
  refine enter (args := [_, _]) Tryz.func42 rfl Tryz.ntmps42 (by kernel_rfl) rfl ?_
  refine V.seq (V.region (VL.box (v := .agg _) rfl fun b0_0 w0_0 hb0_0 e0_0 hB0_0 => VL.box (v := .agg _) rfl fun b0_1 w0_1 hb0_1 e0_1 hB0_1 => VL.op (R.asB rfl) (VL.nil (V.cut [2, 3] (fun _ : Unit => [.pointer (some ⟨b0_0, 0, none⟩), .pointer (some ⟨b0_1, 0, none⟩)]) (fun _ w' => (∀ i, i < g.edges.length → subB (g.edges.getD i default).l x.p.l = false) ∧ Ext w0_1 w') (V.seq (V.region (VL.op (R.asI rfl) (VL.nil (V.block (?_)))))) (fun rgB0 xB0 wBB0 hBB0 => V.seq (V.seq (?_)))))))
  · refine V.loop [2, 3, 5] (fun k : Nat => [.pointer (some ⟨b0_0, 0, none⟩), .pointer (some ⟨b0_1, 0, none⟩), .int .i64 (k : Nat)]) (fun k w' => k ≤ g.edges.length ∧ (∀ i, i < k → subB (g.edges.getD i default).l x.p.l = false) ∧ Ext w0_1 w') (fun k => g.edges.length - k) 0 rfl ⟨Nat.zero_le _, fun i h => absurd h (Nat.not_lt_zero i), Vc.Mod.refl _ _⟩ ?_
    rintro ρ k w1 ⟨hk, hi, e⟩
    have hA := (hB0_0.ext e0_1).ext e
    have hB := hB0_1.ext e
    have eT := (e0_0.trans e0_1).trans e
    have hx1 := hx.ext eT
    have hE1 := (hG.ext eT).e
    refine V.seq (V.seq (V.region (VL.op (R.mvI rfl) (VL.op (R.fld' (o := 2) Tryz.runUnderlying25 rfl rfl Tryz.sizeOf23 rfl rfl) (VL.op (R.ld1 Tryz.isAgg23 rfl ((show w1.cell? ⟨b0_0, 2, none⟩ = some (Value.slice g.ea g.edges.length g.ec) from hA.cell 2))) (VL.op (R.lenS Tryz.runUnderlying23 rfl) (VL.op (R.lss rfl rfl) (VL.nil (V.condP rfl (fun c11 => V.skip (V.seq (V.block (V.seq (?_))))) (fun c11 => V.exit (?_)))))))))))
    · have hkl : k < g.edges.length := by omega
      have hxl := (hl.each _ (gmem hkl)).1
      have hct : contF x.p.l (g.edges.getD k default).l = subB (g.edges.getD k default).l x.p.l := contF_sub hP (hE _ (vals_mem.2 ⟨k, hkl, rfl⟩))
      refine V.regionQ mixed 8 (by kernel_rfl) rfl (fun w' => Ext _ w') (Ext.drawn _) (VQ.op (fun wq eq => R.fld' (o := 0) Tryz.runUnderlying46 rfl rfl Tryz.sizeOf22 rfl rfl) (VQ.op (fun wq eq => R.ld1 Tryz.isAgg22 rfl ((show wq.cell? ⟨b0_1, 0, none⟩ = some (Value.slice x.p.a x.p.l.length x.p.c) from (hB.ext eq).cell 0))) (VQ.op (fun wq eq => R.fld' (o := 2) Tryz.runUnderlying25 rfl rfl Tryz.sizeOf23 rfl rfl) (VQ.op (fun wq eq => R.ld1 Tryz.isAgg23 rfl ((show wq.cell? ⟨b0_0, 2, none⟩ = some (Value.slice g.ea g.edges.length g.ec) from (hA.ext eq).cell 2))) (VQ.op (fun wq eq => R.mvI rfl) (VQ.op (fun wq eq => R.ixS Tryz.runUnderlying23 Tryz.sizeOf22 rfl rfl (by omega) (by omega) ((hE1.sl.ext eq).some (i := k) hkl)) (VQ.op (fun wq eq => R.ld1 Tryz.isAgg22 rfl ((((hE1.sl.ext eq).row (i := k) hkl).cell (i := 0) rfl))) (VQ.callP (fun _ _ h k => Mod.trans h k) Tryz.call62 rfl (fun wq eq => cont_spec x.p.a (g.edges.getD k default).a x.p.c (g.edges.getD k default).c x.p.l (g.edges.getD k default).l _ (by omega) (by omega) (hx1.p.ext eq) ((hE1.at hkl).ext eq)) (VQ.nil fun w4q e4q => VL.nil (V.cond rfl (fun c21 => V.seq (V.region (VL.op (R.asB rfl) (VL.nil (V.ret (fret1 (v := .bool _) rfl rfl rfl (⟨?_, eT.trans e4q⟩))))))) (fun c21 => V.skip (V.region (VL.op (R.mvI rfl) (VL.op (R.add rfl rfl (by omega) (by omega)) (VL.op (R.asI rfl) (VL.nil (⟨k + 1, rfl, ⟨by omega, fun i h => ?_, e.trans e4q⟩, by omega⟩)))))))))))))))))
      · unfold neverW wyV
        dsimp only
        rw [hct] at c21
        have : ((vals g.edges).any fun e => subB e x.p.l) = true := List.any_eq_true.2 ⟨_, vals_mem.2 ⟨k, hkl, rfl⟩, c21⟩
        rw [this, Bool.or_true, Bool.or_true]
      · by_cases h2 : i = k
        · subst h2; rw [← hct]; exact c21
        · exact hi i (by omega)
    · have hke : k = g.edges.length := by omega
      subst hke
      exact ⟨(), rfl, hi, e⟩
  · obtain ⟨hp, e1⟩ := hBB0
    refine V.region (VL.op (R.asI rfl) (VL.nil (V.block (?_))))
    refine V.loop [2, 3, 6] (fun k : Nat => [.pointer (some ⟨b0_0, 0, none⟩), .pointer (some ⟨b0_1, 0, none⟩), .int .i64 (k : Nat)]) (fun k w' => k ≤ x.n.l.length ∧ (∀ i, i < k → inE (vals g.edges) (x.n.l.getD i default) = true ∧ x.n.l.getD i default ∉ x.p.l) ∧ Ext w0_1 w') (fun k => x.n.l.length - k) 0 rfl ⟨Nat.zero_le _, fun i h => absurd h (Nat.not_lt_zero i), e1⟩ ?_
    rintro ρ k w1 ⟨hk, hi, e⟩
    have hA := (hB0_0.ext e0_1).ext e
    have hB := hB0_1.ext e
    have eT := (e0_0.trans e0_1).trans e
    have hx1 := hx.ext eT
    refine V.seq (V.seq (V.region (VL.op (R.mvI rfl) (VL.op (R.fld' (o := 1) Tryz.runUnderlying46 rfl rfl Tryz.sizeOf22 rfl rfl) (VL.op (R.ld1 Tryz.isAgg22 rfl ((show w1.cell? ⟨b0_1, 1, none⟩ = some (Value.slice x.n.a x.n.l.length x.n.c) from hB.cell 1))) (VL.op (R.lenS Tryz.runUnderlying22 rfl) (VL.op (R.lss rfl rfl) (VL.nil (V.condP rfl (fun c26 => V.skip (V.seq (V.block (V.seq (?_))))) (fun c26 => V.exit (V.seq (V.region (VL.op (R.asB rfl) (VL.nil (V.ret (fret1 (v := .bool _) rfl rfl rfl (?_)))))))))))))))))
    · have hkl : k < x.n.l.length := by omega
      refine V.regionQ mixed 17 (by kernel_rfl) rfl (fun w' => Ext _ w') (Ext.drawn _) (VQ.op (fun wq eq => R.ldA Tryz.isAgg25 Tryz.sizeOf25 rfl rfl ((show RowAt _ _ _ (encGr g) from (hA.ext eq).rowAt 0 3)) rfl) (VQ.op (fun wq eq => R.fld' (o := 1) Tryz.runUnderlying46 rfl rfl Tryz.sizeOf22 rfl rfl) (VQ.op (fun wq eq => R.ld1 Tryz.isAgg22 rfl ((show wq.cell? ⟨b0_1, 1, none⟩ = some (Value.slice x.n.a x.n.l.length x.n.c) from (hB.ext eq).cell 1))) (VQ.op (fun wq eq => R.mvI rfl) (VQ.op (fun wq eq => R.ixS Tryz.runUnderlying22 Tryz.sizeOf3 rfl rfl (by omega) (by omega) ((hx1.n.ext eq).some (i := k) hkl)) (VQ.op (fun wq eq => R.ld1 Tryz.isAgg3 rfl ((((hx1.n.ext eq).row (i := k) hkl).cell (i := 0) rfl))) (VQ.callP (fun _ _ h k => Mod.trans h k) Tryz.call70 rfl (fun wq eq => rfree32_spec g (x.n.l.getD k default) _ (hG.ext (eT.trans eq)) hl) (VQ.op (fun wq eq => R.mvB rfl) (VQ.or rfl rfl (fun g9_7 => VQ.op (fun wq eq => R.fld' (o := 0) Tryz.runUnderlying46 rfl rfl Tryz.sizeOf22 rfl rfl) (VQ.gT rfl rfl (VQ.op (fun wq eq => R.ld1 Tryz.isAgg22 rfl ((show wq.cell? ⟨b0_1, 0, none⟩ = some (Value.slice x.p.a x.p.l.length x.p.c) from (hB.ext eq).cell 0))) (VQ.gT rfl rfl (VQ.op (fun wq eq => R.fld' (o := 1) Tryz.runUnderlying46 rfl rfl Tryz.sizeOf22 rfl rfl) (VQ.gT rfl rfl (VQ.op (fun wq eq => R.ld1 Tryz.isAgg22 rfl ((show wq.cell? ⟨b0_1, 1, none⟩ = some (Value.slice x.n.a x.n.l.length x.n.c) from (hB.ext eq).cell 1))) (VQ.gT rfl rfl (VQ.op (fun wq eq => R.mvI rfl) (VQ.gT rfl rfl (VQ.op (fun wq eq => R.ixS Tryz.runUnderlying22 Tryz.sizeOf3 rfl rfl (by omega) (by omega) ((hx1.n.ext eq).some (i := k) hkl)) (VQ.gT rfl rfl (VQ.op (fun wq eq => R.ld1 Tryz.isAgg3 rfl ((((hx1.n.ext eq).row (i := k) hkl).cell (i := 0) rfl))) (VQ.gT rfl rfl (VQ.callP (fun _ _ h k => Mod.trans h k) Tryz.call71 rfl (fun wq eq => in_spec x.p.a x.p.c x.p.l (x.n.l.getD k default) _ (by omega) (hx1.p.ext eq)) (VQ.op (fun wq eq => R.pickFB rfl rfl) (VQ.nil fun w9q e9q => VL.nil (V.cond rfl (fun c45 => V.seq (V.region (VL.op (R.asB rfl) (VL.nil (V.ret (fret1 (v := .bool _) rfl rfl rfl (⟨?_, eT.trans e9q⟩))))))) (fun c45 => V.skip (V.region (VL.op (R.mvI rfl) (VL.op (R.add rfl rfl (by omega) (by omega)) (VL.op (R.asI rfl) (VL.nil (⟨k + 1, rfl, ⟨by omega, fun i h => ?_, e.trans e9q⟩, by omega⟩))))))))))))))))))))))))) (fun g9_7 => VQ.gF rfl rfl (VQ.gF rfl rfl (VQ.gF rfl rfl (VQ.gF rfl rfl (VQ.gF rfl rfl (VQ.gF rfl rfl (VQ.gF rfl rfl (VQ.op (fun wq eq => R.pickTB rfl rfl) (VQ.nil fun w9q e9q => VL.nil (V.condT rfl (V.seq (V.region (VL.op (R.asB rfl) (VL.nil (V.ret (fret1 (v := .bool _) rfl rfl rfl (⟨?_, eT.trans e9q⟩))))))))))))))))))))))))))
      · unfold neverW wyV
        dsimp only
        have : (x.n.l.any fun v => decide (v ∈ x.p.l)) = true := List.any_eq_true.2 ⟨_, gmem hkl, c45⟩
        rw [this, Bool.true_or, Bool.or_true]
      · by_cases h2 : i = k
        · subst h2; exact ⟨by simpa using g9_7, of_decide_eq_false c45⟩
        · exact hi i (by omega)
      · unfold neverW wyV
        dsimp only
        have : (x.n.l.any fun v => !inE (vals g.edges) v) = true := List.any_eq_true.2 ⟨_, gmem hkl, g9_7⟩
        rw [this, Bool.true_or]
    · have hke : k = x.n.l.length := by omega
      subst hke
      refine ⟨?_, eT⟩
      unfold neverW wyV
      dsimp only
      congr 1; symm
      rw [Bool.or_eq_false_iff, Bool.or_eq_false_iff, List.any_eq_false, List.any_eq_false, List.any_eq_false]
      refine ⟨fun v hv => ?_, fun v hv => ?_, fun y hy => ?_⟩
      · obtain ⟨i, hil, rfl⟩ := List.getElem_of_mem hv
        rw [← gget hil, (hi i hil).1]; decide
      · obtain ⟨i, hil, rfl⟩ := List.getElem_of_mem hv
        rw [← gget hil, decide_eq_false (hi i hil).2]; decide
      · obtain ⟨i, hil, rfl⟩ := vals_mem.1 hy
        rw [hp i hil]; decide
end Go.Proofs.YtbfejgbeaehbmaaGreatDoor
