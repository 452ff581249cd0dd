/- Repair: the walk of law RepairFixed. -/
import Derived.Test.YtlnbkoojelhjdaaGreatDoorXR21
namespace Go.Proofs.YtlnbkoojelhjdaaGreatDoor
open Go.Vc
theorem fix_all {g : Gr} (hg : validG g = true) {v : Int} (h0 : 0 ≤ v) (h1 : v < g.n) : (∀ R, IsRep g R → v ∈ R) ↔ inE g.edges v = false := by
  constructor
  · intro h
    rw [← Bool.not_eq_true]
    intro hin
    obtain ⟨e, he, hve⟩ := inE_iff.1 hin
    obtain ⟨_, hi, hr⟩ := (validG_iff.1 hg).2.2.1 e he
    have hS : loadB g (e.filter fun x => decide (x ≠ v)) = true := by
      refine loadB_iff.2 ⟨hg, setB_iff.2 ⟨hi.sublist List.filter_sublist, fun x hx => hr x (List.mem_filter.1 hx).1⟩, indB_iff.2 fun f hf => ?_⟩
      rw [← Bool.not_eq_true]
      intro hs
      have hs := subB_iff.1 hs
      have := (validG_iff2.1 hg).2.2.2.2 e he f hf (subB_iff.2 fun x hx => (List.mem_filter.1 (hs x hx)).1)
      subst this
      have := (List.mem_filter.1 (hs v hve)).2
      simp at this
    obtain ⟨hR, hin⟩ := ext_rep hS
    have := hR.free e he
    rw [subB_iff.2 fun x hx => by
      by_cases hxv : x = v
      · rw [hxv]; exact h _ hR
      · exact hin x (List.mem_filter.2 ⟨hx, decide_eq_true hxv⟩)] at this
    cases this
  · exact fun h R hR => hR.in h0 h1 h
theorem fix_none {g : Gr} (hg : validG g = true) {v : Int} (h0 : 0 ≤ v) (h1 : v < g.n) : (∀ R, IsRep g R → v ∉ R) ↔ [v] ∈ g.edges := by
  constructor
  · intro h
    refine Classical.byContradiction fun hn => ?_
    have hS : loadB g [v] = true := by
      refine loadB_iff.2 ⟨hg, setB_iff.2 ⟨List.pairwise_singleton _ _, fun x hx => by rw [List.mem_singleton.1 hx]; exact ⟨h0, h1⟩⟩, indB_iff.2 fun f hf => ?_⟩
      rw [← Bool.not_eq_true]
      intro hs
      obtain ⟨hne, hi, _⟩ := (validG_iff.1 hg).2.2.1 f hf
      have hs := subB_iff.1 hs
      refine hn ?_
      have : f = [v] := inc_ext hi (List.pairwise_singleton _ _) fun x => ⟨hs x, fun hx => by
        obtain ⟨y, hy⟩ := List.exists_mem_of_ne_nil f hne
        rw [List.mem_singleton.1 hx, ← List.mem_singleton.1 (hs y hy)]; exact hy⟩
      rwa [this] at hf
    obtain ⟨hR, hin⟩ := ext_rep hS
    exact h _ hR (hin v (by simp))
  · exact fun h R hR => hR.out (barE_iff.2 h)
def cntV (L : List SlI) (v : Int) (k : Nat) : Nat := ((L.take k).filter fun y => decide (v ∈ y.l)).length
theorem cntV_succ {L : List SlI} {v : Int} {k : Nat} (h : k < L.length) : cntV L v (k + 1) = cntV L v k + if v ∈ (L.getD k default).l then 1 else 0 := by
  unfold cntV
  rw [List.take_succ_eq_append_getElem h, List.filter_append, List.length_append, gget h]
  by_cases hv : v ∈ L[k].l
  · simp [hv]
  · simp [hv]
theorem cntV_le (L : List SlI) (v : Int) (k : Nat) : cntV L v k ≤ k := Nat.le_trans (List.length_filter_le _ _) (List.length_take_le _ _)
theorem cntV_all {L : List SlI} {v : Int} : cntV L v L.length = L.length ↔ ∀ R ∈ vals L, v ∈ R := by
  unfold cntV
  rw [List.take_length, List.length_filter_eq_length_iff]
  exact ⟨fun h R hR => by obtain ⟨y, hy, rfl⟩ := List.mem_map.1 hR; exact of_decide_eq_true (h y hy), fun h y hy => decide_eq_true (h y.l (List.mem_map_of_mem hy))⟩
theorem cntV_none {L : List SlI} {v : Int} : cntV L v L.length = 0 ↔ ∀ R ∈ vals L, v ∉ R := by
  unfold cntV
  rw [List.take_length, List.length_eq_zero_iff, List.filter_eq_nil_iff]
  exact ⟨fun h R hR => by obtain ⟨y, hy, rfl⟩ := List.mem_map.1 hR; exact fun hv => h y hy (decide_eq_true hv), fun h y hy => fun hv => h y.l (List.mem_map_of_mem hy) (of_decide_eq_true hv)⟩
set_option maxRecDepth 100000 in
set_option maxHeartbeats 16000000 in
theorem fixed28_law (g : GrW) (B : Nat) (w : World) (hI : GIn w g) (hB : B ≤ w.heap.size) (hT : TabW B w) :
    RetsP Tryz.prog 10 #[.agg (encGr g).toArray] w (.bool true) := by
  refine enter (args := [_]) Tryz.func10 rfl Tryz.ntmps10 (by kernel_rfl) rfl ?_
  refine V.seq (V.region (VL.box (v := .agg _) rfl fun b0_0 w0_0 hb0_0 e0_0 hB0_0 => VL.op (R.asB rfl) (VL.nil (V.seq (V.region (VL.callP Tryz.call11 rfl (head_spec28 B _ (Nat.le_trans hB (e0_0).size) (hT.ext hB e0_0)) fun w1_0 e1_0 => VL.op (R.asB rfl) (VL.nil (V.seq (V.seq (V.region (VL.op (R.ldA Tryz.isAgg25 Tryz.sizeOf25 rfl rfl ((show RowAt _ _ _ (encGr g) from ((hB0_0.ext e1_0).rowAt 0 3))) rfl) (VL.callP Tryz.call12 rfl (small_spec g 12 _ (hI.ok.ext (e0_0.trans e1_0)) hI.c hI.e.len (fun x hx => (hI.e.each x hx).1) (by decide) (by decide)) fun w2_1 e2_1 => VL.op (R.not rfl) (VL.op (R.mvB rfl) (VL.or rfl rfl (fun g2_3 => VL.op (R.ldA Tryz.isAgg25 Tryz.sizeOf25 rfl rfl ((show RowAt _ _ _ (encGr g) from (((hB0_0.ext e1_0).ext e2_1).rowAt 0 3))) rfl) (VL.gT rfl rfl (VL.callP Tryz.call28 rfl (valid_spec g B _ (hI.ok.ext ((e0_0.trans e1_0).trans e2_1)) (small_glen hI (by simpa using g2_3)) (Nat.le_trans hB (((e0_0.trans e1_0).trans e2_1)).size) (hT.ext hB ((e0_0.trans e1_0).trans e2_1))) fun w2_5 e2_5 => VL.gT rfl rfl (VL.op (R.not rfl) (VL.op (R.pickFB rfl rfl) (VL.nil (V.cond rfl (fun c19 => V.seq (V.region (VL.op (R.mvB rfl) (VL.op (R.asB rfl) (VL.nil (V.ret (fret1 (v := .bool _) rfl rfl rfl (⟨rfl, (((e0_0.trans e1_0).trans e2_1).trans e2_5)⟩)))))))) (fun c19 => V.skip (V.seq (?_)))))))))) (fun g2_3 => VL.gF rfl rfl (VL.gF rfl rfl (VL.op (R.pickTB rfl rfl) (VL.nil (V.condT rfl (V.seq (V.region (VL.op (R.mvB rfl) (VL.op (R.asB rfl) (VL.nil (V.ret (fret1 (v := .bool _) rfl rfl rfl (⟨rfl, ((e0_0.trans e1_0).trans e2_1)⟩)))))))))))))))))))))))))))
  have hsm : smallB (grV g) 12 = true := by simpa using g2_3
  have hv : validG (grV g) = true := by simpa using c19
  have hgl := small_glen hI hsm
  have hcb := costB_iff.1 (validG_iff.1 hv).1
  have hgn : (grV g).n = g.n := rfl
  obtain ⟨N, hN⟩ : ∃ N : Nat, g.n = (N : Int) := ⟨g.n.toNat, by have := hcb.1; omega⟩
  have hN12 : N ≤ 12 := by have := (smallB_iff.1 hsm).1; omega
  have E2 := (e0_0.trans e1_0).trans (e2_1.trans e2_5)
  have hX2 : Blk w2_5 b0_0 (.cells (Value.agg (encGr g).toArray).cells 25 (0, 0)) := hB0_0.ext (e1_0.trans (e2_1.trans e2_5))
  refine V.region (VL.op (R.ldA Tryz.isAgg25 Tryz.sizeOf25 rfl rfl ((show RowAt _ _ _ (encGr g) from hX2.rowAt 0 3)) rfl) (VL.callX Tryz.call15 rfl (list_spec28 g B w2_5 (hI.ok.ext E2) hgl (Nat.le_trans hB E2.size) (hT.ext hB E2)) fun x4 w4 h4 e4 => VL.op (R.mvT rfl) (VL.op (R.extr rfl rfl) (VL.op (R.extr rfl rfl) (VL.op (R.asS rfl) (VL.op (R.asI rfl) (VL.nil (V.seq (V.seq (?_))))))))))
  obtain ⟨ho4, hv4⟩ := h4
  rcases list_is hv ho4 hv4 with ⟨he0, hmem, hup, hpos, hle⟩ | he3
  · obtain ⟨a4, c4, L, e0⟩ := x4
    dsimp only at he0 hmem hup hpos hle ho4 ⊢
    subst he0
    refine V.region (VL.op (R.mvI rfl) (VL.op (R.lit (R.neq rfl rfl) ((decide_eq_false (fun h => h rfl)))) (VL.nil (V.condF rfl (V.skip (V.seq (?_)))))))
    have hX4 := hX2.ext e4
    have E4 := E2.trans e4
    have hL4 : LL w4 a4 L := ⟨OwnT.sl ho4.own, fun y hy => OwnT.sl (ho4.each y hy)⟩
    have hyl : ∀ y ∈ L, y.l.length ≤ 12 := fun y hy => by
      have := rep_len ((hmem y.l).1 (List.mem_map_of_mem hy)) hcb.1
      omega
    refine V.region (VL.op (R.ldA Tryz.isAgg25 Tryz.sizeOf25 rfl rfl ((show RowAt _ _ _ (encGr g) from hX4.rowAt 0 3)) rfl) (VL.callX Tryz.call36 rfl (fixed_spec g B w4 (hI.ok.ext E4) hgl (Nat.le_trans hB E4.size) (hT.ext hB E4)) fun z w7 ⟨hz, hA, hBl⟩ e7 => VL.op (R.mvT rfl) (VL.op (R.extr rfl rfl) (VL.op (R.extr rfl rfl) (VL.op (R.asS rfl) (VL.op (R.asS rfl) (VL.nil (V.seq (V.seq (?_))))))))))
    have hfx : fixF (grV g) = (freeK (vals g.edges) N, aloneK (vals g.edges) N) := by
      unfold fixF; rw [if_pos hv, show (grV g).n = g.n from rfl, hN]; rfl
    have hz1 : z.1.l = freeK (vals g.edges) N := congrArg Prod.fst (hz.trans hfx)
    have hz2 : z.2.l = aloneK (vals g.edges) N := congrArg Prod.snd (hz.trans hfx)
    have hzl1 : z.1.l.length ≤ 100 := by rw [hz1]; unfold freeK; rw [List.length_map]; exact Nat.le_trans (List.length_filter_le _ _) (by simp; omega)
    have hzl2 : z.2.l.length ≤ 100 := by rw [hz2]; unfold aloneK; rw [List.length_map]; exact Nat.le_trans (List.length_filter_le _ _) (by simp; omega)
    have hX7 := hX4.ext e7
    have E7 := E4.trans e7
    have hL7 := hL4.ext e7
    refine V.region (VL.op (R.asI rfl) (VL.nil (V.block (?_))))
    refine V.loop [1, 3, 4, 6, 7, 8] (fun v : Nat => [.pointer (some ⟨b0_0, 0, none⟩), .bool true, .slice a4 L.length c4, .slice z.1.a z.1.l.length z.1.c, .slice z.2.a z.2.l.length z.2.c, .int .i64 (v : Nat)]) (fun v w' => v ≤ N ∧ Ext w7 w') (fun v => N - v) 0 rfl ⟨Nat.zero_le _, Vc.Mod.refl _ _⟩ ?_
    rintro ρ v w8 ⟨hvN, e8⟩
    have hX8 := hX7.ext e8
    have hL8 := hL7.ext e8
    refine V.seq (V.seq (V.region (VL.op (R.mvI rfl) (VL.op (R.fld' (o := 0) Tryz.runUnderlying25 rfl rfl Tryz.sizeOf3 rfl rfl) (VL.op (R.ld1 Tryz.isAgg3 rfl ((show w8.cell? ⟨b0_0, 0, none⟩ = some (Value.int .i64 ((N : Nat) : Int)) from by rw [← hN]; exact hX8.cell 0))) (VL.op (R.lss rfl rfl) (VL.nil (V.condP rfl (fun c41 => V.skip (V.seq (V.block (V.seq (V.region (VL.op (R.asI rfl) (VL.nil (V.seq (V.seq (V.region (VL.op (R.asI rfl) (VL.nil (V.block (?_)))))))))))))) (fun c41 => V.exit (V.seq (V.region (VL.op (R.mvB rfl) (VL.op (R.asB rfl) (VL.nil (V.ret (fret1 (v := .bool _) rfl rfl rfl (⟨rfl, E7.trans e8⟩)))))))))))))))))
    have hvl : v < N := by omega
    refine V.loop [1, 3, 4, 6, 7, 8, 9, 10] (fun i : Nat => [.pointer (some ⟨b0_0, 0, none⟩), .bool true, .slice a4 L.length c4, .slice z.1.a z.1.l.length z.1.c, .slice z.2.a z.2.l.length z.2.c, .int .i64 (v : Nat), .int .i64 ((cntV L (v : Int) i : Nat) : Int), .int .i64 (i : Nat)]) (fun i w' => i ≤ L.length ∧ Ext w8 w') (fun i => L.length - i) 0 rfl ⟨Nat.zero_le _, Vc.Mod.refl _ _⟩ ?_
    rintro ρ2 i w9 ⟨hi, e9⟩
    have hL9 := hL8.ext e9
    refine V.seq (V.seq (V.region (VL.op (R.mvI rfl) (VL.op (R.mvS rfl) (VL.op (R.lenS Tryz.runUnderlying23 rfl) (VL.op (R.lss rfl rfl) (VL.nil (V.condP rfl (fun c47 => V.skip (V.seq (V.block (V.seq (?_))))) (fun c47 => V.exit (V.seq (?_)))))))))))
    · have hil : i < L.length := by omega
      have hcs := cntV_succ (v := (v : Int)) hil
      have hcl := cntV_le L (v : Int) i
      have hyi := hyl _ (gmem hil)
      refine V.region (VL.op (R.mvS rfl) (VL.op (R.mvI rfl) (VL.op (R.ixS Tryz.runUnderlying23 Tryz.sizeOf22 rfl rfl (by omega) (by omega) ((hL9.sl).some (i := i) (by omega))) (VL.op (R.ld1 Tryz.isAgg22 rfl (((((hL9.sl).ext (Mod.refl _ _)).row (i := i) (by omega)).cell (i := 0) rfl))) (VL.op (R.mvI rfl) (VL.callP Tryz.call33 rfl (in_spec (L.getD i default).a (L.getD i default).c (L.getD i default).l (v : Int) w9 (by omega) (hL9.at hil)) fun w15_5 e15_5 => VL.nil (V.cond rfl (fun c55 => V.region (VL.op (R.mvI rfl) (VL.op (R.add rfl rfl (by omega) (by omega)) (VL.op (R.asI rfl) (VL.nil (V.region (VL.op (R.mvI rfl) (VL.op (R.add rfl rfl (by omega) (by omega)) (VL.op (R.asI rfl) (VL.nil (?_))))))))))) (fun c55 => V.skip (V.region (VL.op (R.mvI rfl) (VL.op (R.add rfl rfl (by omega) (by omega)) (VL.op (R.asI rfl) (VL.nil (?_))))))))))))))
      · have h := of_decide_eq_true c55
        rw [if_pos h] at hcs
        exact ⟨i + 1, by rw [hcs]; rfl, ⟨by omega, e9.trans e15_5⟩, by omega⟩
      · have h := of_decide_eq_false c55
        rw [if_neg h, Nat.add_zero] at hcs
        exact ⟨i + 1, by rw [hcs]; rfl, ⟨by omega, e9.trans e15_5⟩, by omega⟩
    · have hie : i = L.length := by omega
      subst hie
      have hlo : (0 : Int) ≤ v := by omega
      have hhi : (v : Int) < (grV g).n := by omega
      have k1 : decide ((v : Int) ∈ z.1.l) = decide (((cntV L (v : Int) L.length : Nat) : Int) = ((L.length : Nat) : Int)) := decide_eq_decide.2 (by
        rw [hz1, freeK_mem, Int.ofNat_inj, cntV_all]
        have := fix_all hv hlo hhi
        exact ⟨fun h R hR => this.2 h.2.2 R ((hmem R).1 hR), fun h => ⟨hlo, by omega, this.1 fun R hR => h R ((hmem R).2 hR)⟩⟩)
      have k2 : decide ((v : Int) ∈ z.2.l) = decide (((cntV L (v : Int) L.length : Nat) : Int) = 0) := decide_eq_decide.2 (by
        rw [hz2, aloneK_mem, show (0 : Int) = ((0 : Nat) : Int) from rfl, Int.ofNat_inj, cntV_none]
        have := fix_none hv hlo hhi
        exact ⟨fun h R hR => this.2 h.2.2 R ((hmem R).1 hR), fun h => ⟨by omega, by omega, this.1 fun R hR => h R ((hmem R).2 hR)⟩⟩)
      refine V.region (VL.op (R.mvS rfl) (VL.op (R.mvI rfl) (VL.callP Tryz.call33 rfl (in_spec z.1.a z.1.c z.1.l (v : Int) w9 (by omega) (hA.1.ext (e8.trans e9))) fun w17_2 e17_2 => VL.op (R.mvI rfl) (VL.op (R.mvS rfl) (VL.op (R.lenS Tryz.runUnderlying23 rfl) (VL.op (R.eql rfl rfl) (VL.op (R.lit (R.neqB eqW4 rfl rfl) ((decide_eq_false (fun h => h k1)))) (VL.op (R.mvB rfl) (VL.gT rfl rfl (VL.op (R.mvS rfl) (VL.gT rfl rfl (VL.op (R.mvI rfl) (VL.gT rfl rfl (VL.callP Tryz.call33 rfl (in_spec z.2.a z.2.c z.2.l (v : Int) _ (by omega) (hBl.ext (e8.trans (e9.trans e17_2)))) fun w17_11 e17_11 => VL.gT rfl rfl (VL.op (R.mvI rfl) (VL.gT rfl rfl (VL.op (R.eql rfl rfl) (VL.gT rfl rfl (VL.op (R.lit (R.neqB eqW4 rfl rfl) ((decide_eq_false (fun h => h k2)))) (VL.op (R.pickFB rfl rfl) (VL.nil (V.condF rfl (V.skip (V.region (VL.op (R.mvI rfl) (VL.op (R.add rfl rfl (by omega) (by omega)) (VL.op (R.asI rfl) (VL.nil (⟨v + 1, rfl, ⟨by omega, e8.trans (e9.trans (e17_2.trans e17_11))⟩, by omega⟩)))))))))))))))))))))))))))))
  · obtain ⟨a4, c4, L, e0⟩ := x4
    dsimp only at he3 ⊢
    subst he3
    refine V.region (VL.op (R.mvI rfl) (VL.op (R.lit (R.neq rfl rfl) ((decide_eq_true (by decide)))) (VL.nil (V.condT rfl (V.seq (V.region (VL.op (R.mvB rfl) (VL.op (R.mvB rfl) (VL.gT rfl rfl (VL.op (R.mvI rfl) (VL.gT rfl rfl (VL.op (R.lit (R.eql rfl rfl) ((decide_eq_true rfl))) (VL.op (R.pickTB rfl rfl) (VL.op (R.asB rfl) (VL.nil (V.ret (fret1 (v := .bool _) rfl rfl rfl (⟨rfl, E2.trans e4⟩))))))))))))))))))
end Go.Proofs.YtlnbkoojelhjdaaGreatDoor
