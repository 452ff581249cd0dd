/- Hyper: the walk of law HyperMinimal. -/
import Derived.Test.YtoengpialdolbaaDoorH22
import Derived.Test.YtoengpialdolbaaDoorH4
namespace Go.Proofs.YtoengpialdolbaaDoor
open Go.Vc
/-- What is known of edges that come in. -/
structure EIn (E : List SlI) : Prop where
  len : E.length ≤ 9223372036854775807
  each : ∀ x ∈ E, x.l.length ≤ 9223372036854775807 ∧ (x.a = none → x.c = 0) ∧ ∀ y ∈ x.l, -9223372036854775808 ≤ y ∧ y ≤ 9223372036854775807
theorem less_is (a b : Option Addr) (ca cb : Nat) (l m : List Int) (w : World) (hl : l.length ≤ 1000000) (hm : m.length ≤ 1000000) (hS : IntSl w a l) (hT : IntSl w b m) (h : lexB l m = true) :
    RetsP Tryd.prog 14 #[.slice a l.length ca, .slice b m.length cb] w (.bool true) := by
  have := less_spec a b ca cb l m w (by omega) (by omega) hS hT
  rwa [h] at this
/-- What the minimal ones are, as they lie. -/
structure MinL (E : List (List Int)) (z : List SlI) : Prop where
  v : vals z = minF E
  len : ∀ x ∈ z, x.l.length ≤ 1000000
theorem MinL.in {E : List (List Int)} {z : List SlI} (h : MinL E z) {i : Nat} (hi : i < z.length) : (z.getD i default).l ∈ minF E := by
  rw [← h.v]; exact List.mem_map_of_mem (gmem hi)
theorem MinL.le {E : List (List Int)} {z : List SlI} (h : MinL E z) {i : Nat} (hi : i < z.length) : (z.getD i default).l.length ≤ 1000000 := h.len _ (gmem hi)
theorem MinL.pos {E : List (List Int)} {z : List SlI} (h : MinL E z) {i : Nat} (hi : i < z.length) : 0 < (z.getD i default).l.length := List.length_pos_iff.2 (minF_inc (h.in hi)).2
theorem MinL.lt {E : List (List Int)} {z : List SlI} (h : MinL E z) {i j : Nat} (hij : i < j) (hj : j < z.length) : lexB (z.getD i default).l (z.getD j default).l = true := by
  have hu := minF_up E
  rw [← h.v] at hu
  have := List.pairwise_iff_getElem.1 hu i j (by rw [List.length_map]; omega) (by rw [List.length_map]; exact hj) hij
  rw [gget (show i < z.length by omega), gget hj]
  simpa [vals] using this
theorem MinL.apart {E : List (List Int)} {z : List SlI} (h : MinL E z) {i k : Nat} (hi : i < z.length) (hk : k < z.length) (hne : k ≠ i) : contF (z.getD i default).l (z.getD k default).l = false := by
  have h1 := minF_inc (h.in hi)
  have h2 := minF_inc (h.in hk)
  rw [contF_sub h1.1 h2.1]
  cases hs : subB (z.getD k default).l (z.getD i default).l with
  | false => rfl
  | true =>
    have e := (minF_mem.1 (h.in hi)).2 _ (minF_mem.1 (h.in hk)).1 hs
    have irr : ∀ l : List Int, lexB l l = true → False := fun l hl => by
      have := lexB_sto.irr l
      rw [hl] at this; cases this
    rcases Nat.lt_or_gt_of_ne hne with hlt | hlt
    · exact (irr _ (by have := h.lt hlt hi; rwa [e] at this)).elim
    · exact (irr _ (by have := h.lt hlt hk; rwa [e] at this)).elim
theorem MinL.among {E z : List SlI} (h : MinL (vals E) z) {i : Nat} (hi : i < z.length) : (E.any fun y => decide (setF y.l = (z.getD i default).l)) = true := by
  obtain ⟨f, hf, _, e⟩ := setsOf_mem.1 (minF_mem.1 (h.in hi)).1
  obtain ⟨y, hy, rfl⟩ := List.mem_map.1 hf
  exact List.any_eq_true.2 ⟨y, hy, decide_eq_true e.symm⟩
theorem MinL.caught {E z : List SlI} (h : MinL (vals E) z) {x : SlI} (hx : x ∈ E) (hne : x.l ≠ []) : freeF (vals z) (setF x.l) = false := by
  cases hf : freeF (vals z) (setF x.l) with
  | false => rfl
  | true =>
    have hm : setF x.l ∈ setsOf (vals E) := setsOf_mem.2 ⟨x.l, List.mem_map_of_mem hx, hne, rfl⟩
    obtain ⟨f, hfm, hs⟩ := minF_below _ _ (Nat.le_refl _) hm
    have h1 := minF_inc hfm
    have := freeF_iff.1 hf f (by rw [h.v]; exact hfm) h1.2
    rw [contF_sub (setF_inc _) h1.1, hs] at this
    cases this
theorem MinL.rng {E z : List SlI} (h : MinL (vals E) z) (hE : ∀ x ∈ E, ∀ y ∈ x.l, -9223372036854775808 ≤ y ∧ y ≤ 9223372036854775807) : ∀ x ∈ z, ∀ y ∈ x.l, -9223372036854775808 ≤ y ∧ y ≤ 9223372036854775807 := fun x hx y hy => by
  have hm : x.l ∈ minF (vals E) := by rw [← h.v]; exact List.mem_map_of_mem hx
  obtain ⟨f, hf, _, e⟩ := setsOf_mem.1 (minF_mem.1 hm).1
  obtain ⟨g, hg, rfl⟩ := List.mem_map.1 hf
  rw [e] at hy
  exact hE g hg y ((setF_mem y _).1 hy)
theorem MinL.hax {E : List (List Int)} {z : List SlI} (h : MinL E z) {w : World} {a : Option Addr} (hL : LL w a z) : ∀ x ∈ z, x.a = none → x.c = 0 := fun x hx e => by
  have hm : x.l ∈ minF E := by rw [← h.v]; exact List.mem_map_of_mem hx
  exact absurd e (addr_some (hL.each x hx) (minF_inc hm).2)
set_option maxRecDepth 100000 in
set_option maxHeartbeats 8000000 in
theorem minimal_law (a : Option Addr) (c B : Nat) (E : List SlI) (w : World) (hE : LL w a E) (hx : EIn E) (hB : B ≤ w.heap.size) (hT : TabW B w) :
    RetsP Tryd.prog 3 #[.slice a E.length c] w (.bool true) := by
  refine enter (args := [_]) Tryd.func3 rfl Tryd.ntmps3 (by kernel_rfl) rfl ?_
  refine V.seq (V.region (VL.op (R.asB rfl) (VL.nil (V.seq (V.region (VL.callP Tryd.call9 rfl (head_spec B _ hB hT) fun w1_0 e1_0 => VL.op (R.asB rfl) (VL.nil (V.seq (V.seq (V.region (VL.op (R.mvS rfl) (VL.callX Tryd.call10 rfl (few_spec E a c 80 _ (hE.ext e1_0) hx.len) fun b2 w2 h2 e2 => VL.op (R.not rfl) (VL.nil (V.cond rfl (fun c13 => V.seq (V.region (VL.op (R.mvB rfl) (VL.op (R.asB rfl) (VL.nil (V.ret (fret1 (v := .bool _) rfl rfl rfl (⟨rfl, (e1_0.trans e2)⟩)))))))) (fun c13 => V.skip (V.seq (?_)))))))))))))))))
  have hF := h2 (by simpa using c13)
  have hF1 := hF.n
  have E2 := e1_0.trans e2
  have hE2 := hE.ext E2
  refine V.region (VL.op (R.mvS rfl) (VL.callX Tryd.call11 rfl (minimal_spec a c B E w2 (by omega) hE2 (fun x hx' => ⟨by have := hF.e x hx'; omega, (hx.each x hx').2.1, (hx.each x hx').2.2⟩) (Nat.le_trans hB E2.size) (hT.ext hB E2)) fun z w4 ⟨hz, hL, _, _, hq, _⟩ e4 => VL.op (R.asS rfl) (VL.nil (V.cut [0, 3, 4] (fun _ : Unit => [.slice a E.length c, .bool true, .slice z.2.1 z.1.length z.2.2]) (fun _ w' => Ext w4 w') (V.seq (V.region (VL.op (R.asI rfl) (VL.nil (V.block (?_)))))) (fun rgB0 xB0 wBB0 hBB0 => V.seq (V.seq (?_)))))))
  · have hM : MinL (vals E) z.1 := ⟨hz, hq.2⟩
    refine V.loop [0, 3, 4, 5] (fun i : Nat => [.slice a E.length c, .bool true, .slice z.2.1 z.1.length z.2.2, .int .i64 (i : Nat)]) (fun i w' => i ≤ z.1.length ∧ Ext w4 w') (fun i => z.1.length - i) 0 rfl ⟨Nat.zero_le _, Vc.Mod.refl _ _⟩ ?_
    rintro ρ i w5 ⟨hi, e5⟩
    refine V.seq (V.seq (V.region (VL.op (R.mvI rfl) (VL.op (R.mvS rfl) (VL.op (R.lenS Tryd.runUnderlying22 rfl) (VL.op (R.lss rfl rfl) (VL.nil (V.condP rfl (fun c20 => V.skip (V.seq (V.block (V.seq (?_))))) (fun c20 => V.exit (?_))))))))))
    · have hil : i < z.1.length := by omega
      refine V.region (VL.op (R.asB rfl) (VL.nil (V.cut [0, 3, 4, 5, 6] (fun _ : Unit => [.slice a E.length c, .bool true, .slice z.2.1 z.1.length z.2.2, .int .i64 (i : Nat), .bool true]) (fun _ w' => Ext w4 w') (V.seq (V.region (VL.op (R.asI rfl) (VL.nil (V.block (?_)))))) (fun rgB2 xB2 wBB2 hBB2 => V.seq (V.seq (?_))))))
      · refine V.loop [0, 3, 4, 5, 6, 7] (fun x : Nat × Bool => [.slice a E.length c, .bool true, .slice z.2.1 z.1.length z.2.2, .int .i64 (i : Nat), .bool x.2, .int .i64 (x.1 : Nat)]) (fun x w' => x.1 ≤ E.length ∧ x.2 = ((E.take x.1).any fun y => decide (setF y.l = (z.1.getD i default).l)) ∧ Ext w4 w') (fun x => E.length - x.1) (0, false) rfl ⟨Nat.zero_le _, rfl, e5⟩ ?_
        rintro ρ ⟨k, am⟩ w6 ⟨hk, ham, e6⟩
        dsimp only at hk ham e6 ⊢
        refine V.seq (V.seq (V.region (VL.op (R.mvI rfl) (VL.op (R.mvS rfl) (VL.op (R.lenS Tryd.runUnderlying22 rfl) (VL.op (R.lss rfl rfl) (VL.nil (V.condP rfl (fun c26 => V.skip (V.seq (V.block (?_)))) (fun c26 => V.exit (?_))))))))))
        · have hkl : k < E.length := by omega
          have hat : ((E.take (k + 1)).any fun y => decide (setF y.l = (z.1.getD i default).l)) = (am || decide (setF (E.getD k default).l = (z.1.getD i default).l)) := by
            rw [List.take_succ_eq_append_getElem hkl, ← gget hkl, List.any_append, ← ham]; simp
          have hE6 := (hE2.ext e4).ext e6
          have hL6 := hL.ext e6
          have hke := hF.e _ (gmem hkl)
          have hki := hM.le hil
          have hsl := setF_len (E.getD k default).l
          cases am with
          | true =>
            refine V.regionQ mixed 14 (by kernel_rfl) rfl (fun w' => Ext _ w') (Ext.drawn _) (VQ.op (fun wq eq => R.mvB rfl) (VQ.op (fun wq eq => R.mvB rfl) (VQ.gF rfl rfl (VQ.gF rfl rfl (VQ.gF rfl rfl (VQ.gF rfl rfl (VQ.gF rfl rfl (VQ.gF rfl rfl (VQ.gF rfl rfl (VQ.gF rfl rfl (VQ.gF rfl rfl (VQ.gF rfl rfl (VQ.op (fun wq eq => R.pickTB rfl rfl) (VQ.op (fun wq eq => R.asB rfl) (VQ.nil fun w12q e12q => VL.nil (V.region (VL.op (R.mvI rfl) (VL.op (R.add rfl rfl (by omega) (by omega)) (VL.op (R.asI rfl) (VL.nil (⟨(k + 1, true), rfl, ⟨by dsimp only; omega, by rw [hat]; rfl, e6.trans e12q⟩, by dsimp only; omega⟩)))))))))))))))))))))
          | false =>
            refine V.regionS mixed 12 (by kernel_rfl) rfl (fun us => VS.op (fun wq eq => R.mvB rfl) (VS.op (fun wq eq => R.mvB rfl) (VS.gT rfl rfl (VS.op (fun wq eq => R.mvS rfl) (VS.gT rfl rfl (VS.op (fun wq eq => R.mvI rfl) (VS.gT rfl rfl (VS.op (fun wq eq => R.ixS Tryd.runUnderlying22 Tryd.sizeOf27 rfl rfl (by omega) (by omega) ((hE6.sl).some (i := k) (by omega))) (VS.gT rfl rfl (VS.op (fun wq eq => R.ld1 Tryd.isAgg27 rfl (((((hE6.sl).ext eq).row (i := k) (by omega)).cell (i := 0) rfl))) (VS.gT rfl rfl (VS.callX (fun u w' => ∃ s : Option Addr × Nat, u = .slice s.1 (setF (E.getD k default).l).length s.2 ∧ IntSl w' s.1 (setF (E.getD k default).l)) (fun u a b _ ⟨s, h1, h3⟩ eb => ⟨s, h1, h3.ext eb⟩) Tryd.call13 rfl (fun wq eq hq => Rets.mono (rset_spec (E.getD k default).a (E.getD k default).c (E.getD k default).l wq (by omega) ((hE6.ext eq).at hkl)) fun u w' ⟨s, h1, h3, h4⟩ => ⟨⟨s, h1, OwnT.sl h3⟩, h4⟩) (VS.gT rfl rfl (VS.op (fun wq eq => R.mvS rfl) (VS.gT rfl rfl (VS.op (fun wq eq => R.mvI rfl) (VS.gT rfl rfl (VS.op (fun wq eq => R.ixS Tryd.runUnderlying22 Tryd.sizeOf27 rfl rfl (by omega) (by omega) ((hL6.sl).some (i := i) (by omega))) (VS.gT rfl rfl (VS.op (fun wq eq => R.ld1 Tryd.isAgg27 rfl (((((hL6.sl).ext eq).row (i := i) (by omega)).cell (i := 0) rfl))) (VS.gT rfl rfl (VS.callX (fun u w' => u = .bool (decide (setF (E.getD k default).l = (z.1.getD i default).l))) (fun u a b _ h eb => h) Tryd.call12 rfl (fun wq eq hq => by obtain ⟨s, h1, h3⟩ := hq 6 (by kernel_rfl); rw [h1]; exact ints_spec s.1 (z.1.getD i default).a s.2 (z.1.getD i default).c _ _ wq (by omega) (by omega) h3 ((hL6.ext eq).at hil)) (VS.nil (fun w12 e12 h12 => ?_)))))))))))))))))))))))) rfl
            have h11 := h12 11
            have h11 : us 11 = _ := h11
            rw [h11]
            refine VL.op (R.pickFB rfl rfl) (VL.op (R.asB rfl) (VL.nil (V.region (VL.op (R.mvI rfl) (VL.op (R.add rfl rfl (by omega) (by omega)) (VL.op (R.asI rfl) (VL.nil (⟨(k + 1, decide (setF (E.getD k default).l = (z.1.getD i default).l)), rfl, ⟨by dsimp only; omega, by rw [hat]; rfl, e6.trans e12⟩, by dsimp only; omega⟩))))))))
        · have hke : k = E.length := by omega
          subst hke
          rw [List.take_length, hM.among hil] at ham
          subst ham
          exact ⟨(), rfl, e6⟩
      · have hLb := hL.ext hBB2
        have hzp := hM.pos hil
        have hzi := hM.le hil
        refine V.regionQCut mixed 27 (by kernel_rfl) rfl (fun w' => Ext _ w') (Ext.drawn _) [42, 43, 44, 45, 46, 47, 48, 49, 50, 51, 52, 53, 54, 55, 56, 57, 58, 59, 60, 61, 62, 63, 64, 65, 66, 67, 68] 68 (.bool (false)) rfl (VQ.op (fun wq eq => R.mvB rfl) (VQ.op (fun wq eq => R.not rfl) (VQ.op (fun wq eq => R.mvB rfl) (VQ.gT rfl rfl (VQ.op (fun wq eq => R.mvS rfl) (VQ.gT rfl rfl (VQ.op (fun wq eq => R.mvI rfl) (VQ.gT rfl rfl (VQ.op (fun wq eq => R.ixS Tryd.runUnderlying22 Tryd.sizeOf27 rfl rfl (by omega) (by omega) ((hLb.sl).some (i := i) (by omega))) (VQ.gT rfl rfl (VQ.op (fun wq eq => R.ld1 Tryd.isAgg27 rfl (((((hLb.sl).ext eq).row (i := i) (by omega)).cell (i := 0) rfl))) (VQ.gT rfl rfl (VQ.op (fun wq eq => R.lenS Tryd.runUnderlying27 rfl) (VQ.gT rfl rfl (VQ.op (fun wq eq => R.lit (R.eql rfl rfl) ((decide_eq_false (by omega)))) (VQ.op (fun wq eq => R.pickFB rfl rfl) (VQ.op (fun wq eq => R.mvB rfl) (VQ.gT rfl rfl (VQ.op (fun wq eq => R.mvI rfl) (VQ.gT rfl rfl (VQ.op (fun wq eq => R.gtr rfl rfl) (VQ.gT rfl rfl (VQ.op (fun wq eq => R.mvB rfl) (VQ.andP rfl rfl (fun g13_13 => VQ.op (fun wq eq => R.mvS rfl) (VQ.gT rfl rfl (VQ.op (fun wq eq => R.mvI rfl) (VQ.gT rfl rfl (VQ.op (fun wq eq => R.sub rfl rfl (by omega) (by omega)) (VQ.gT rfl rfl (VQ.op (fun wq eq => R.ixS Tryd.runUnderlying22 Tryd.sizeOf27 rfl rfl (by omega) (by omega) ((hLb.sl).some (i := ((i : Int) - 1).toNat) (by omega))) (VQ.gT rfl rfl (VQ.op (fun wq eq => R.ld1 Tryd.isAgg27 rfl (((((hLb.sl).ext eq).row (i := ((i : Int) - 1).toNat) (by omega)).cell (i := 0) rfl))) (VQ.gT rfl rfl (VQ.op (fun wq eq => R.mvS rfl) (VQ.gT rfl rfl (VQ.op (fun wq eq => R.mvI rfl) (VQ.gT rfl rfl (VQ.op (fun wq eq => R.ixS Tryd.runUnderlying22 Tryd.sizeOf27 rfl rfl (by omega) (by omega) ((hLb.sl).some (i := i) (by omega))) (VQ.gT rfl rfl (VQ.op (fun wq eq => R.ld1 Tryd.isAgg27 rfl (((((hLb.sl).ext eq).row (i := i) (by omega)).cell (i := 0) rfl))) (VQ.gT rfl rfl (VQ.callP (fun _ _ h k => Mod.trans h k) Tryd.call14 rfl (fun wq eq => (less_is _ _ _ _ _ _ wq (hM.le (by omega)) hzi ((hLb.ext eq).at (by omega)) ((hLb.ext eq).at hil) (hM.lt (by omega) hil))) (VQ.gT rfl rfl (VQ.op (fun wq eq => R.not rfl) (VQ.gT rfl rfl (VQ.op (fun wq eq => R.pickTB rfl rfl) (VQ.op (fun wq eq => R.pickFB rfl rfl) (VQ.nil (cutB rfl ?_)))))))))))))))))))))))))) (fun g13_13 => VQ.gF rfl rfl (VQ.gF rfl rfl (VQ.gF rfl rfl (VQ.gF rfl rfl (VQ.gF rfl rfl (VQ.gF rfl rfl (VQ.gF rfl rfl (VQ.gF rfl rfl (VQ.gF rfl rfl (VQ.gF rfl rfl (VQ.gT rfl rfl (VQ.op (fun wq eq => R.pickFB rfl rfl) (VQ.op (fun wq eq => R.pickFB rfl rfl) (VQ.nil (cutB rfl ?_))))))))))))))))))))))))))))))))))))))) (fun rg13 w13c e13c => V.cond rfl (fun c68 => V.seq (V.region (VL.op (R.asB rfl) (VL.nil (V.ret (fret1 (v := .bool _) rfl rfl rfl (?_))))))) (fun c68 => V.skip (V.seq (?_))))
        · rfl
        · rfl
        · nomatch c68
        · refine V.region (VL.op (R.asI rfl) (VL.nil (V.block (?_))))
          refine V.loop [0, 3, 4, 5, 8] (fun k : Nat => [.slice a E.length c, .bool true, .slice z.2.1 z.1.length z.2.2, .int .i64 (i : Nat), .int .i64 (k : Nat)]) (fun k w' => k ≤ z.1.length ∧ Ext w4 w') (fun k => z.1.length - k) 0 rfl ⟨Nat.zero_le _, hBB2.trans e13c⟩ ?_
          rintro ρ k w6 ⟨hk, e6⟩
          have hL6 := hL.ext e6
          refine V.seq (V.seq (V.region (VL.op (R.mvI rfl) (VL.op (R.mvS rfl) (VL.op (R.lenS Tryd.runUnderlying22 rfl) (VL.op (R.lss rfl rfl) (VL.nil (V.condP rfl (fun c72 => V.skip (V.seq (V.block (V.seq (V.regionQCut mixed 14 (by kernel_rfl) rfl (fun w' => Ext _ w') (Ext.drawn _) [75, 76, 77, 78, 79, 80, 81, 82, 83, 84, 85, 86, 87, 88] 88 (.bool (false)) rfl (VQ.op (fun wq eq => R.mvI rfl) (VQ.op (fun wq eq => R.mvI rfl) (VQ.op (fun wq eq => R.neq rfl rfl) (VQ.op (fun wq eq => R.mvB rfl) (VQ.andP rfl rfl (fun g18_3 => VQ.op (fun wq eq => R.mvS rfl) (VQ.gT rfl rfl (VQ.op (fun wq eq => R.mvI rfl) (VQ.gT rfl rfl (VQ.op (fun wq eq => R.ixS Tryd.runUnderlying22 Tryd.sizeOf27 rfl rfl (by omega) (by omega) ((hL6.sl).some (i := i) (by omega))) (VQ.gT rfl rfl (VQ.op (fun wq eq => R.ld1 Tryd.isAgg27 rfl (((((hL6.sl).ext eq).row (i := i) (by omega)).cell (i := 0) rfl))) (VQ.gT rfl rfl (VQ.op (fun wq eq => R.mvS rfl) (VQ.gT rfl rfl (VQ.op (fun wq eq => R.mvI rfl) (VQ.gT rfl rfl (VQ.op (fun wq eq => R.ixS Tryd.runUnderlying22 Tryd.sizeOf27 rfl rfl (by omega) (by omega) ((hL6.sl).some (i := k) (by omega))) (VQ.gT rfl rfl (VQ.op (fun wq eq => R.ld1 Tryd.isAgg27 rfl (((((hL6.sl).ext eq).row (i := k) (by omega)).cell (i := 0) rfl))) (VQ.gT rfl rfl (VQ.callP (fun _ _ h k => Mod.trans h k) Tryd.call15 rfl (fun wq eq => cont_spec (z.1.getD i default).a (z.1.getD k default).a (z.1.getD i default).c (z.1.getD k default).c (z.1.getD i default).l (z.1.getD k default).l wq (by omega) (by have := hM.le (i := k) (by omega); omega) ((hL6.ext eq).at hil) ((hL6.ext eq).at (by omega))) (VQ.op (fun wq eq => R.pickTB rfl rfl) (VQ.nil (cutB rfl ?_)))))))))))))))))))) (fun g18_3 => VQ.gF rfl rfl (VQ.gF rfl rfl (VQ.gF rfl rfl (VQ.gF rfl rfl (VQ.gF rfl rfl (VQ.gF rfl rfl (VQ.gF rfl rfl (VQ.gF rfl rfl (VQ.op (fun wq eq => R.pickFB rfl rfl) (VQ.nil (cutB rfl ?_)))))))))))))))) (fun rg18 w18c e18c => V.cond rfl (fun c88 => V.seq (V.region (VL.op (R.asB rfl) (VL.nil (V.ret (fret1 (v := .bool _) rfl rfl rfl (?_))))))) (fun c88 => V.skip (V.region (VL.op (R.mvI rfl) (VL.op (R.add rfl rfl (by omega) (by omega)) (VL.op (R.asI rfl) (VL.nil (?_))))))))))))) (fun c72 => V.exit (V.region (VL.op (R.mvI rfl) (VL.op (R.add rfl rfl (by omega) (by omega)) (VL.op (R.asI rfl) (VL.nil (?_)))))))))))))))
          · exact hM.apart hil (by omega) (by omega)
          · rfl
          · nomatch c88
          · exact ⟨k + 1, rfl, ⟨by omega, e6.trans e18c⟩, by omega⟩
          · exact ⟨i + 1, rfl, ⟨by omega, e6⟩, by omega⟩
    · exact ⟨(), rfl, e5⟩
  · have hM : MinL (vals E) z.1 := ⟨hz, hq.2⟩
    refine V.region (VL.op (R.asI rfl) (VL.nil (V.block (?_))))
    refine V.loop [0, 3, 4, 9] (fun k : Nat => [.slice a E.length c, .bool true, .slice z.2.1 z.1.length z.2.2, .int .i64 (k : Nat)]) (fun k w' => k ≤ E.length ∧ Ext w4 w') (fun k => E.length - k) 0 rfl ⟨Nat.zero_le _, hBB0⟩ ?_
    rintro ρ k w6 ⟨hk, e6⟩
    have hE6 := (hE2.ext e4).ext e6
    have hL6 := hL.ext e6
    refine V.seq (V.seq (V.region (VL.op (R.mvI rfl) (VL.op (R.mvS rfl) (VL.op (R.lenS Tryd.runUnderlying22 rfl) (VL.op (R.lss rfl rfl) (VL.nil (V.condP rfl (fun c92 => V.skip (V.seq (V.block (V.seq (?_))))) (fun c92 => V.exit (V.seq (?_)))))))))))
    · have hkl : k < E.length := by omega
      have hke := hF.e _ (gmem hkl)
      have hsl := setF_len (E.getD k default).l
      refine V.regionCut [95, 96, 97, 98, 99, 100, 101, 102, 103, 104, 105, 106, 107, 108, 109] 109 (.bool (false)) (fun w' => Ext _ w') rfl (VL.op (R.mvS rfl) (VL.op (R.mvI rfl) (VL.op (R.ixS Tryd.runUnderlying22 Tryd.sizeOf27 rfl rfl (by omega) (by omega) ((hE6.sl).some (i := k) (by omega))) (VL.op (R.ld1 Tryd.isAgg27 rfl (((((hE6.sl).ext (Mod.refl _ _)).row (i := k) (by omega)).cell (i := 0) rfl))) (VL.op (R.lenS Tryd.runUnderlying27 rfl) (VL.op (R.gtr rfl rfl) (VL.op (R.mvB rfl) (VL.andP rfl rfl (fun g23_6 => VL.op (R.mvS rfl) (VL.gT rfl rfl (VL.op (R.mvS rfl) (VL.gT rfl rfl (VL.op (R.mvI rfl) (VL.gT rfl rfl (VL.op (R.ixS Tryd.runUnderlying22 Tryd.sizeOf27 rfl rfl (by omega) (by omega) ((hE6.sl).some (i := k) (by omega))) (VL.gT rfl rfl (VL.op (R.ld1 Tryd.isAgg27 rfl (((((hE6.sl).ext (Mod.refl _ _)).row (i := k) (by omega)).cell (i := 0) rfl))) (VL.gT rfl rfl (VL.callX Tryd.call13 rfl (rset_spec (E.getD k default).a (E.getD k default).c (E.getD k default).l w6 (by omega) (hE6.at hkl)) fun s w23 hS e23 => VL.gT rfl rfl (VL.callP Tryd.call16 rfl (free_spec z.1 z.2.1 s.1 z.2.2 s.2 (setF (E.getD k default).l) _ (by omega) (fun x hx => Nat.le_trans (hM.len x hx) (by decide)) (by omega) (hL6.ext e23) (OwnT.sl hS)) fun w23_13 e23_13 => VL.op (R.pickTB rfl rfl) (VL.nil ⟨rfl, cutB rfl ?_, (Mod.trans e23 e23_13)⟩))))))))))))) (fun g23_6 => VL.gF rfl rfl (VL.gF rfl rfl (VL.gF rfl rfl (VL.gF rfl rfl (VL.gF rfl rfl (VL.gF rfl rfl (VL.op (R.pickFB rfl rfl) (VL.nil ⟨rfl, cutB rfl ?_, Mod.refl _ _⟩)))))))))))))))) (fun rg23 w23c e23c => V.cond rfl (fun c109 => V.seq (V.region (VL.op (R.asB rfl) (VL.nil (V.ret (fret1 (v := .bool _) rfl rfl rfl (?_))))))) (fun c109 => V.skip (V.region (VL.op (R.mvI rfl) (VL.op (R.add rfl rfl (by omega) (by omega)) (VL.op (R.asI rfl) (VL.nil (?_))))))))
      · exact hM.caught (gmem hkl) fun h => by rw [h] at g23_6; simp at g23_6
      · rfl
      · nomatch c109
      · exact ⟨k + 1, rfl, ⟨by omega, e6.trans e23c⟩, by omega⟩
    · have hE6w : Ext w w6 := (E2.trans e4).trans e6
      refine V.region (VL.op (R.mvB rfl) (VL.op (R.mvB rfl) (VL.gT rfl rfl (VL.op (R.mvS rfl) (VL.gT rfl rfl (VL.callX Tryd.call11 rfl (minimal_spec z.2.1 z.2.2 B z.1 w6 (by omega) hL6 (fun x hx' => ⟨hM.len x hx', hM.hax hL6 x hx', hM.rng (fun y hy => (hx.each y hy).2.2) x hx'⟩) (Nat.le_trans hB hE6w.size) (hT.ext hB hE6w)) fun z2 w25 ⟨hz2, hL2, _, _, hq2, _⟩ e25 => VL.gT rfl rfl (VL.op (R.mvS rfl) (VL.gT rfl rfl (VL.callP Tryd.call17 rfl ((sets_is z2.1 z.1 z2.2.1 z.2.1 z2.2.2 z.2.2 _ (by rw [hz2, hM.v, minF_idem]) (by omega) (fun x hx => Nat.le_trans (hq2.2 x hx) (by decide)) (fun x hx => Nat.le_trans (hM.len x hx) (by decide)) hL2 (hL6.ext e25))) fun w25_5 e25_5 => VL.op (R.pickTB rfl rfl) (VL.op (R.asB rfl) (VL.nil (V.ret (fret1 (v := .bool _) rfl rfl rfl (⟨rfl, hE6w.trans (e25.trans e25_5)⟩))))))))))))))
end Go.Proofs.YtoengpialdolbaaDoor
