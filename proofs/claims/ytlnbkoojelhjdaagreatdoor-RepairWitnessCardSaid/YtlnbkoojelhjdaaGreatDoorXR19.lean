/- Repair: the walk of law RepairWitness. -/
import Derived.Test.YtlnbkoojelhjdaaGreatDoorXR17
import Derived.Test.YtlnbkoojelhjdaaGreatDoorXR18
namespace Go.Proofs.YtlnbkoojelhjdaaGreatDoor
open Go.Vc
def edgW (E : List (List Int)) (R : List Int) (v : Int) (k : Nat) : Bool := (E.take k).any fun e => decide (v ∈ e) && contF (setF (R ++ [v])) e
theorem edgW_succ {E : List (List Int)} {R : List Int} {v : Int} {k : Nat} (h : k < E.length) : edgW E R v (k + 1) = (edgW E R v k || (decide (v ∈ E.getD k default) && contF (setF (R ++ [v])) (E.getD k default))) := by
  unfold edgW
  rw [List.take_succ_eq_append_getElem h, List.any_append, gget h]
  simp
theorem edgW_rep {g : Gr} (hg : validG g = true) {R : List Int} (hR : IsRep g R) {v : Int} (h0 : 0 ≤ v) (h1 : v < g.n) : edgW g.edges R v g.edges.length = !decide (v ∈ R) := by
  have hE := (validG_iff.1 hg).2.2.1
  have key : edgW g.edges R v g.edges.length = true ↔ v ∉ R := by
    unfold edgW
    rw [List.take_length, List.any_eq_true]
    constructor
    · rintro ⟨e, he, h⟩ hv
      rw [Bool.and_eq_true, contF_sub (setF_inc _) (hE e he).2.1] at h
      have := hR.free e he
      rw [subB_iff.2 fun x hx => by
        have := (setF_mem _ _).1 (subB_iff.1 h.2 x hx)
        rcases List.mem_append.1 this with h3 | h3
        · exact h3
        · rw [List.mem_singleton.1 h3]; exact hv] at this
      cases this
    · intro hv
      obtain ⟨e, he, hve, hall⟩ := hR.max v h0 h1 hv
      refine ⟨e, he, ?_⟩
      rw [Bool.and_eq_true, contF_sub (setF_inc _) (hE e he).2.1]
      refine ⟨decide_eq_true hve, subB_iff.2 fun x hx => (setF_mem _ _).2 (List.mem_append.2 ?_)⟩
      by_cases h : x = v
      · exact .inr (by simp [h])
      · exact .inl (hall x hx h)
  by_cases hv : v ∈ R
  · rw [decide_eq_true hv, Bool.not_true, ← Bool.not_eq_true]
    exact fun h => key.1 h hv
  · rw [decide_eq_false hv, Bool.not_false]; exact key.2 hv
set_option maxRecDepth 100000 in
set_option maxHeartbeats 16000000 in
theorem witness_law (g : GrW) (sa : Option Addr) (sc B : Nat) (S : List Int) (w : World) (hI : GIn w g) (hS : IntSl w sa S) (hsl : S.length ≤ 9223372036854775807) (hB : B ≤ w.heap.size) (hT : TabW B w) :
    RetsP Tryz.prog 8 #[.agg (encGr g).toArray, .slice sa S.length sc] w (.bool true) := by
  refine enter (args := [_, _]) Tryz.func8 rfl Tryz.ntmps8 (by kernel_rfl) rfl ?_
  refine V.seq (V.region (VL.box (v := .agg _) rfl fun b0_0 w0_0 hb0_0 e0_0 hB0_0 => VL.op (R.asB rfl) (VL.nil (V.seq (V.region (VL.callP Tryz.call11 rfl (head_spec28 B _ (Nat.le_trans hB (e0_0).size) (hT.ext hB e0_0)) fun w1_0 e1_0 => VL.op (R.asB rfl) (VL.nil (V.seq (V.seq (V.region (VL.op (R.ldA Tryz.isAgg25 Tryz.sizeOf25 rfl rfl ((show RowAt _ _ _ (encGr g) from ((hB0_0.ext e1_0).rowAt 0 3))) rfl) (VL.callP Tryz.call12 rfl (small_spec g 40 _ (hI.ok.ext (e0_0.trans e1_0)) hI.c hI.e.len (fun x hx => (hI.e.each x hx).1) (by decide) (by decide)) fun w2_1 e2_1 => VL.op (R.not rfl) (VL.op (R.mvB rfl) (VL.or rfl rfl (fun g2_3 => VL.op (R.mvS rfl) (VL.gT rfl rfl (VL.op (R.lenS Tryz.runUnderlying22 rfl) (VL.gT rfl rfl (VL.op (R.gtr rfl rfl) (VL.op (R.pickFB rfl rfl) (VL.nil (V.condP rfl (fun c19 => V.seq (V.region (VL.op (R.mvB rfl) (VL.op (R.asB rfl) (VL.nil (V.ret (fret1 (v := .bool _) rfl rfl rfl (⟨rfl, ((e0_0.trans e1_0).trans e2_1)⟩)))))))) (fun c19 => V.skip (V.seq (?_))))))))))) (fun g2_3 => VL.gF rfl rfl (VL.gF rfl rfl (VL.op (R.pickTB rfl rfl) (VL.nil (V.condT rfl (V.seq (V.region (VL.op (R.mvB rfl) (VL.op (R.asB rfl) (VL.nil (V.ret (fret1 (v := .bool _) rfl rfl rfl (⟨rfl, ((e0_0.trans e1_0).trans e2_1)⟩)))))))))))))))))))))))))))
  have hsm : smallB (grV g) 40 = true := by simpa using g2_3
  have hgl := small_glen hI hsm
  have hsl2 : S.length ≤ 50 := by omega
  have E2 := (e0_0.trans e1_0).trans e2_1
  have hX2 : Blk w2_1 b0_0 (.cells (Value.agg (encGr g).toArray).cells 25 (0, 0)) := hB0_0.ext (e1_0.trans e2_1)
  refine V.region (VL.op (R.ldA Tryz.isAgg25 Tryz.sizeOf25 rfl rfl ((show RowAt _ _ _ (encGr g) from hX2.rowAt 0 3)) rfl) (VL.op (R.mvS rfl) (VL.callX Tryz.call13 rfl (extend_spec g sa sc S B w2_1 (hI.ok.ext E2) hgl (hS.ext E2) (by omega) (Nat.le_trans hB E2.size) (hT.ext hB E2)) fun x4 w4 h4 e4 => VL.op (R.mvT rfl) (VL.op (R.extr rfl rfl) (VL.op (R.extr rfl rfl) (VL.op (R.asS rfl) (VL.op (R.asI rfl) (VL.nil (V.seq (V.seq (V.region (VL.op (R.mvI rfl) (VL.op (R.neq rfl rfl) (VL.nil (V.condP rfl (fun c28 => V.seq (V.region (VL.op (R.mvB rfl) (VL.op (R.asB rfl) (VL.nil (V.ret (fret1 (v := .bool _) rfl rfl rfl (⟨rfl, E2.trans e4⟩)))))))) (fun c28 => V.skip (V.seq (V.seq (?_)))))))))))))))))))
  obtain ⟨ho4, hv4⟩ := h4
  obtain ⟨⟨a4, c4, l4⟩, r4⟩ := x4
  dsimp only at hv4 ho4 c28 ⊢
  have hr0 : r4 = 0 := by omega
  subst hr0
  have hb : loadB (grV g) S = true := by
    by_cases h : loadB (grV g) S = true
    · exact h
    · rw [if_neg h] at hv4; have := congrArg Prod.snd hv4; cases this
  rw [if_pos hb] at hv4
  have h1 : l4 = extF (grV g) S := congrArg Prod.fst hv4
  obtain ⟨hv, hset, _⟩ := loadB_iff.1 hb
  obtain ⟨hrep, hin⟩ := ext_rep hb
  rw [← h1] at hrep hin
  have hcb := costB_iff.1 (validG_iff.1 hv).1
  have hgn : (grV g).n = g.n := rfl
  obtain ⟨N, hN⟩ : ∃ N : Nat, g.n = (N : Int) := ⟨g.n.toNat, by have := hcb.1; omega⟩
  have hN40 : N ≤ 40 := by have := (smallB_iff.1 hsm).1; omega
  have hll : l4.length ≤ 40 := by
    have h5 := setB_iff.1 hrep.set
    have h6 := set_len h5.1 h5.2 hcb.1
    omega
  have hE30 : g.edges.length ≤ 30 := by have h := (smallB_iff.1 hsm).2.2.1; rwa [show (grV g).edges.length = g.edges.length from List.length_map _] at h
  have hel : (vals g.edges).length = g.edges.length := List.length_map _
  have E4 := E2.trans e4
  have hX4 := hX2.ext e4
  have hs4 : IntSl w4 a4 l4 := ho4.sl
  have hax4 := ho4.hax
  refine V.region (VL.op (R.asI rfl) (VL.nil (V.block (?_))))
  refine V.loop [2, 5, 6, 8] (fun v : Nat => [.pointer (some ⟨b0_0, 0, none⟩), .bool true, .slice a4 l4.length c4, .int .i64 (v : Nat)]) (fun v w' => v ≤ N ∧ Ext w4 w') (fun v => N - v) 0 rfl ⟨Nat.zero_le _, Vc.Mod.refl _ _⟩ ?_
  rintro ρ v w5 ⟨hvN, e5⟩
  have hX5 := hX4.ext e5
  have hs5 := hs4.ext e5
  refine V.seq (V.seq (V.region (VL.op (R.mvI rfl) (VL.op (R.fld' (o := 0) Tryz.runUnderlying25 rfl rfl Tryz.sizeOf3 rfl rfl) (VL.op (R.ld1 Tryz.isAgg3 rfl ((show w5.cell? ⟨b0_0, 0, none⟩ = some (Value.int .i64 ((N : Nat) : Int)) from by rw [← hN]; exact hX5.cell 0))) (VL.op (R.lss rfl rfl) (VL.nil (V.condP rfl (fun c33 => V.skip (V.seq (V.block (V.seq (V.region (VL.op (R.asB rfl) (VL.nil (V.seq (V.seq (V.region (VL.op (R.asI rfl) (VL.nil (V.block (?_)))))))))))))) (fun c33 => V.exit (V.seq (V.region (VL.op (R.mvB rfl) (VL.op (R.asB rfl) (VL.nil (V.ret (fret1 (v := .bool _) rfl rfl rfl (⟨rfl, E4.trans e5⟩)))))))))))))))))
  have hvl : v < N := by omega
  have hgE := hI.ok.e.ext (E4.trans e5)
  refine V.loop [2, 5, 6, 8, 9, 10] (fun x : Nat × Bool => [.pointer (some ⟨b0_0, 0, none⟩), .bool true, .slice a4 l4.length c4, .int .i64 (v : Nat), .bool x.2, .int .i64 (x.1 : Nat)]) (fun x w' => x.1 ≤ g.edges.length ∧ x.2 = edgW (vals g.edges) l4 (v : Int) x.1 ∧ Ext w5 w') (fun x => g.edges.length - x.1) (0, false) rfl ⟨Nat.zero_le _, rfl, Vc.Mod.refl _ _⟩ ?_
  rintro ρ2 ⟨i, ed⟩ w6 ⟨hi, hed, e6⟩
  dsimp only at hi hed e6 ⊢
  have hX6 := hX5.ext e6
  have hs6 := hs5.ext e6
  have hE6 := hgE.ext e6
  refine V.seq (V.seq (V.region (VL.op (R.mvI rfl) (VL.op (R.fld' (o := 2) Tryz.runUnderlying25 rfl rfl Tryz.sizeOf23 rfl rfl) (VL.op (R.ld1 Tryz.isAgg23 rfl ((show w6.cell? ⟨b0_0, 2, none⟩ = some (Value.slice g.ea g.edges.length g.ec) from hX6.cell 2))) (VL.op (R.lenS Tryz.runUnderlying23 rfl) (VL.op (R.lss rfl rfl) (VL.nil (V.condP rfl (fun c40 => V.skip (V.seq (V.block (?_)))) (fun c40 => V.exit (V.seq (?_))))))))))))
  · have hil : i < g.edges.length := by omega
    have hge : (vals g.edges).getD i default = (g.edges.getD i default).l := gmap SlI.l g.edges default hil
    have hsucc := edgW_succ (E := vals g.edges) (R := l4) (v := (v : Int)) (k := i) (by omega)
    rw [← hed, hge] at hsucc
    have hxl : (g.edges.getD i default).l.length ≤ 1000000 := (hgl.each _ (gmem hil)).1
    cases ed with
    | true =>
      refine V.regionQ mixed 22 (by kernel_rfl) rfl (fun w' => Ext _ w') (Ext.drawn _) (VQ.op (fun wq eq => R.mvB rfl) (VQ.op (fun wq eq => R.mvB rfl) (VQ.gF rfl rfl (VQ.gF rfl rfl (VQ.gF rfl rfl (VQ.gF rfl rfl (VQ.gF rfl rfl (VQ.gF rfl rfl (VQ.gF rfl rfl (VQ.gF rfl rfl (VQ.gU rfl rfl (VQ.gU rfl rfl (VQ.gU rfl rfl (VQ.gU rfl rfl (VQ.gU rfl rfl (VQ.gU rfl rfl (VQ.gU rfl rfl (VQ.gU rfl rfl (VQ.gU rfl rfl (VQ.gF rfl rfl (VQ.op (fun wq eq => R.pickTB rfl rfl) (VQ.op (fun wq eq => R.asB rfl) (VQ.nil fun w14q e14q => VL.nil (V.region (VL.op (R.mvI rfl) (VL.op (R.add rfl rfl (by omega) (by omega)) (VL.op (R.asI rfl) (VL.nil (⟨(i + 1, true), rfl, ⟨by dsimp only; omega, by rw [hsucc]; rfl, e6.trans e14q⟩, by dsimp only; omega⟩)))))))))))))))))))))))))))))
    | false =>
      by_cases hve : (v : Int) ∈ (g.edges.getD i default).l
      · refine V.regionD (T := Ext) mixed 18 (by kernel_rfl) rfl (fun us => VD.op (fun wq eq => R.mvB rfl) (VD.op (fun wq eq => R.mvB rfl) (VD.gT rfl rfl (VD.op (fun wq eq => R.fld' (o := 2) Tryz.runUnderlying25 rfl rfl Tryz.sizeOf23 rfl rfl) (VD.gT rfl rfl (VD.op (fun wq eq => R.ld1 Tryz.isAgg23 rfl ((show wq.cell? ⟨b0_0, 2, none⟩ = some (Value.slice g.ea g.edges.length g.ec) from (hX6.ext eq).cell 2))) (VD.gT rfl rfl (VD.op (fun wq eq => R.mvI rfl) (VD.gT rfl rfl (VD.op (fun wq eq => R.ixS Tryz.runUnderlying23 Tryz.sizeOf22 rfl rfl (by omega) (by omega) (hE6.sl.some (i := i) hil)) (VD.gT rfl rfl (VD.op (fun wq eq => R.ld1 Tryz.isAgg22 rfl ((((hE6.sl.ext eq).row (i := i) hil).cell (i := 0) rfl))) (VD.gT rfl rfl (VD.op (fun wq eq => R.mvI rfl) (VD.gT rfl rfl (VD.callP Tryz.call33 rfl (fun wq eq => (by
            have := in_spec (g.edges.getD i default).a (g.edges.getD i default).c (g.edges.getD i default).l (v : Int) wq (by omega) ((hE6.ext eq).at hil)
            rwa [decide_eq_true hve] at this)) (VD.gT rfl rfl (VD.op (fun wq eq => R.mvB rfl) (VD.gT rfl rfl (VD.op (fun wq eq => R.mvS rfl) (VD.gT rfl rfl (VD.op (fun wq eq => R.mvI rfl) (VD.gT rfl rfl (VD.callX (fun _ => fun u w' => ∃ x : Option Addr × Nat, u = .slice x.1 (setF (l4 ++ [(v : Int)])).length x.2 ∧ IntSl w' x.1 (setF (l4 ++ [(v : Int)]))) (DepS.const _) (fun u a b _ ⟨x, h1, h2⟩ eb => ⟨x, h1, h2.ext eb⟩) Tryz.call34 rfl (fun wq eq hq => by
            refine Rets.mono (put28_spec a4 c4 l4 (v : Int) wq (by omega) hax4 (hs6.ext eq)) ?_
            rintro u w' ⟨x, hu, h1, he⟩
            exact ⟨⟨x, hu, OwnT.sl h1⟩, he⟩) (VD.gT rfl rfl (VD.op (fun wq eq => R.fld' (o := 2) Tryz.runUnderlying25 rfl rfl Tryz.sizeOf23 rfl rfl) (VD.gT rfl rfl (VD.op (fun wq eq => R.ld1 Tryz.isAgg23 rfl ((show wq.cell? ⟨b0_0, 2, none⟩ = some (Value.slice g.ea g.edges.length g.ec) from (hX6.ext eq).cell 2))) (VD.gT rfl rfl (VD.op (fun wq eq => R.mvI rfl) (VD.gT rfl rfl (VD.op (fun wq eq => R.ixS Tryz.runUnderlying23 Tryz.sizeOf22 rfl rfl (by omega) (by omega) (hE6.sl.some (i := i) hil)) (VD.gT rfl rfl (VD.op (fun wq eq => R.ld1 Tryz.isAgg22 rfl ((((hE6.sl.ext eq).row (i := i) hil).cell (i := 0) rfl))) (VD.nil (fun w7 e7 h7 => ?_)))))))))))))))))))))))))))))))))))) rfl
        obtain ⟨x, hx, hxs⟩ := h7 12
        rw [hx]
        have hpl := setF_len (l4 ++ [(v : Int)])
        have hpl2 : (l4 ++ [(v : Int)]).length = l4.length + 1 := by simp
        refine VL.gT rfl rfl (VL.callP Tryz.call27 rfl (cont_spec x.1 (g.edges.getD i default).a x.2 (g.edges.getD i default).c (setF (l4 ++ [(v : Int)])) (g.edges.getD i default).l w7 (by omega) (by omega) hxs ((hE6.ext e7).at hil)) fun w14_18 e14_18 => VL.gT rfl rfl (VL.op (R.pickTB rfl rfl) (VL.op (R.pickFB rfl rfl) (VL.op (R.asB rfl) (VL.nil (V.region (VL.op (R.mvI rfl) (VL.op (R.add rfl rfl (by omega) (by omega)) (VL.op (R.asI rfl) (VL.nil (?_)))))))))))
        exact ⟨(i + 1, contF (setF (l4 ++ [(v : Int)])) (g.edges.getD i default).l), rfl, ⟨by dsimp only; omega, by rw [hsucc, decide_eq_true hve]; rfl, e6.trans (e7.trans e14_18)⟩, by dsimp only; omega⟩
      · refine V.regionQ mixed 18 (by kernel_rfl) rfl (fun w' => Ext _ w') (Ext.drawn _) (VQ.op (fun wq eq => R.mvB rfl) (VQ.op (fun wq eq => R.mvB rfl) (VQ.gT rfl rfl (VQ.op (fun wq eq => R.fld' (o := 2) Tryz.runUnderlying25 rfl rfl Tryz.sizeOf23 rfl rfl) (VQ.gT rfl rfl (VQ.op (fun wq eq => R.ld1 Tryz.isAgg23 rfl ((show wq.cell? ⟨b0_0, 2, none⟩ = some (Value.slice g.ea g.edges.length g.ec) from (hX6.ext eq).cell 2))) (VQ.gT rfl rfl (VQ.op (fun wq eq => R.mvI rfl) (VQ.gT rfl rfl (VQ.op (fun wq eq => R.ixS Tryz.runUnderlying23 Tryz.sizeOf22 rfl rfl (by omega) (by omega) (hE6.sl.some (i := i) hil)) (VQ.gT rfl rfl (VQ.op (fun wq eq => R.ld1 Tryz.isAgg22 rfl ((((hE6.sl.ext eq).row (i := i) hil).cell (i := 0) rfl))) (VQ.gT rfl rfl (VQ.op (fun wq eq => R.mvI rfl) (VQ.gT rfl rfl (VQ.callP (fun _ _ h k => Mod.trans h k) Tryz.call33 rfl (fun wq eq => (by
            have := in_spec (g.edges.getD i default).a (g.edges.getD i default).c (g.edges.getD i default).l (v : Int) wq (by omega) ((hE6.ext eq).at hil)
            rwa [decide_eq_false hve] at this)) (VQ.gT rfl rfl (VQ.op (fun wq eq => R.mvB rfl) (VQ.gF rfl rfl (VQ.gF rfl rfl (VQ.gF rfl rfl (VQ.gF rfl rfl (VQ.gF rfl rfl (VQ.gF rfl rfl (VQ.gF rfl rfl (VQ.gF rfl rfl (VQ.nil fun w14q e14q => VL.gF rfl rfl (VL.gT rfl rfl (VL.op (R.pickFB rfl rfl) (VL.op (R.pickFB rfl rfl) (VL.op (R.asB rfl) (VL.nil (V.region (VL.op (R.mvI rfl) (VL.op (R.add rfl rfl (by omega) (by omega)) (VL.op (R.asI rfl) (VL.nil (⟨(i + 1, false), rfl, ⟨by dsimp only; omega, by rw [hsucc, decide_eq_false hve]; rfl, e6.trans e14q⟩, by dsimp only; omega⟩))))))))))))))))))))))))))))))))))))))
  · have hie : i = g.edges.length := by omega
    subst hie
    have hfin := edgW_rep (g := grV g) hv hrep (v := (v : Int)) (by omega) (by omega)
    rw [show (grV g).edges.length = g.edges.length from hel, ← show ed = edgW (grV g).edges l4 (v : Int) g.edges.length from hed] at hfin
    refine V.region (VL.op (R.mvB rfl) (VL.op (R.mvS rfl) (VL.op (R.mvI rfl) (VL.callP Tryz.call33 rfl (in_spec a4 c4 l4 (v : Int) w6 (by omega) hs6) fun w15_3 e15_3 => VL.op (R.eqlB eqW4 rfl rfl) (VL.nil (V.condP rfl (fun c68 => V.seq (V.region (VL.op (R.asB rfl) (VL.nil (V.ret (fret1 (v := .bool _) rfl rfl rfl (?_))))))) (fun c68 => V.skip (V.region (VL.op (R.mvI rfl) (VL.op (R.add rfl rfl (by omega) (by omega)) (VL.op (R.asI rfl) (VL.nil (⟨v + 1, rfl, ⟨by omega, e5.trans (e6.trans e15_3)⟩, by omega⟩)))))))))))))
    · exfalso
      rw [hfin] at c68
      by_cases h : (v : Int) ∈ l4 <;> simp [h] at c68
end Go.Proofs.YtlnbkoojelhjdaaGreatDoor
