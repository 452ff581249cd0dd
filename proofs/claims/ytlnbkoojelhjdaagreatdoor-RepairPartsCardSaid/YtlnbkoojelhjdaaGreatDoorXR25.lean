/- Repair: the walk of law RepairParts. -/
import Derived.Test.YtlnbkoojelhjdaaGreatDoorXR21
import Derived.Test.YtlnbkoojelhjdaaGreatDoorXR24
import Derived.Test.YtlnbkoojelhjdaaGreatDoorXL7
namespace Go.Proofs.YtlnbkoojelhjdaaGreatDoor
open Go.Vc
def allK (g : Gr) (S : List Int) (k : Nat) : Bool := ((compsG g).take k).all fun c => isB (partG g c) (inK c S c.length)
theorem allK_succ {g : Gr} {S : List Int} {k : Nat} (h : k < (compsG g).length) : allK g S (k + 1) = (allK g S k && isB (partG g ((compsG g).getD k default)) (inK ((compsG g).getD k default) S ((compsG g).getD k default).length)) := by
  unfold allK
  rw [List.take_succ_eq_append_getElem h, List.all_append, gget h]
  simp
theorem allK_all {g : Gr} (hg : validG g = true) {S : List Int} (hS : setB S g.n = true) : allK g S (compsG g).length = isB g S := by
  rw [Bool.eq_iff_iff, isB_iff hg, parts_rep hg hS]
  unfold allK
  rw [List.take_length, List.all_eq_true]
  exact ⟨fun h c hc => (isB_iff (part_valid hg (comps_set hg hc))).1 (h c hc), fun h c hc => (isB_iff (part_valid hg (comps_set hg hc))).2 (h c hc)⟩
def prdK (g : Gr) (k : Nat) : Int := prdF (((compsG g).take k).map fun c => cntL (partG g c)) 1
theorem prdK_succ {g : Gr} {k : Nat} (h : k < (compsG g).length) : prdK g (k + 1) = min (prdK g k * cntL (partG g ((compsG g).getD k default))) 1000000001 := by
  unfold prdK
  have := prdF_take (l := (compsG g).map fun c => cntL (partG g c)) (k := k) (by rw [List.length_map]; exact h) 1
  rw [← List.map_take, ← List.map_take, gmap (fun c => cntL (partG g c)) (compsG g) default h] at this
  exact this
theorem prdK_bnd {g : Gr} (hg : validG g = true) (hw : narrowB g = true) (k : Nat) : 1 ≤ prdK g k ∧ prdK g k ≤ 1000000001 := by
  unfold prdK
  refine prdF_bnd (fun x hx => ?_) (by decide) (by decide)
  obtain ⟨c, hc, rfl⟩ := List.mem_map.1 hx
  have hc := List.mem_of_mem_take hc
  exact (cnt_comp hg hc (narrowB_iff.1 hw c hc)).2
theorem prdK_all {g : Gr} (hg : validG g = true) (hw : narrowB g = true) : countG g = if 1000000000 < prdK g (compsG g).length then (0, 2) else (prdK g (compsG g).length, 0) := by
  unfold prdK
  rw [List.take_length]
  exact count_narrow hg hw
theorem mul_bnd {p n : Int} (h1 : 1 ≤ p) (h2 : p ≤ 1000000001) (h3 : 1 ≤ n) (h4 : n ≤ 1024) : 0 ≤ p * n ∧ p * n ≤ 1024000001024 :=
  ⟨Int.mul_nonneg (by omega) (by omega), Int.le_trans (Int.mul_le_mul h2 h4 (by omega) (by omega)) (by decide)⟩
set_option maxRecDepth 100000 in
set_option maxHeartbeats 16000000 in
theorem parts28_law (g : GrW) (sa : Option Addr) (sc B : Nat) (bs : List Bool) (w : World) (hI : GIn w g) (hS : TSl encBo 1 w sa bs) (hsl : bs.length ≤ 9223372036854775807) (hB : B ≤ w.heap.size) (hT : TabW B w) :
    RetsP Tryz.prog 7 #[.agg (encGr g).toArray, .slice sa bs.length sc] w (.bool true) := by
  refine enter (args := [_, _]) Tryz.func7 rfl Tryz.ntmps7 (by kernel_rfl) rfl ?_
  refine V.seq (V.region (VL.box (v := .agg _) rfl fun b0_0 w0_0 hb0_0 e0_0 hB0_0 => VL.op (R.asB rfl) (VL.nil (V.seq (V.region (VL.callP Tryz.call11 rfl (head_spec28 B _ (Nat.le_trans hB (e0_0).size) (hT.ext hB e0_0)) fun w1_0 e1_0 => VL.op (R.asB rfl) (VL.nil (V.seq (V.seq (V.region (VL.op (R.ldA Tryz.isAgg25 Tryz.sizeOf25 rfl rfl ((show RowAt _ _ _ (encGr g) from ((hB0_0.ext e1_0).rowAt 0 3))) rfl) (VL.callP Tryz.call12 rfl (small_spec g 40 _ (hI.ok.ext (e0_0.trans e1_0)) hI.c hI.e.len (fun x hx => (hI.e.each x hx).1) (by decide) (by decide)) fun w2_1 e2_1 => VL.op (R.not rfl) (VL.op (R.mvB rfl) (VL.or rfl rfl (fun g2_3 => VL.op (R.ldA Tryz.isAgg25 Tryz.sizeOf25 rfl rfl ((show RowAt _ _ _ (encGr g) from (((hB0_0.ext e1_0).ext e2_1).rowAt 0 3))) rfl) (VL.gT rfl rfl (VL.callP Tryz.call28 rfl (valid_spec g B _ (hI.ok.ext ((e0_0.trans e1_0).trans e2_1)) (small_glen hI (by simpa using g2_3)) (Nat.le_trans hB (((e0_0.trans e1_0).trans e2_1)).size) (hT.ext hB ((e0_0.trans e1_0).trans e2_1))) fun w2_5 e2_5 => VL.gT rfl rfl (VL.op (R.not rfl) (VL.op (R.pickFB rfl rfl) (VL.op (R.mvB rfl) (VL.or rfl rfl (fun g2_8 => VL.op (R.ldA Tryz.isAgg25 Tryz.sizeOf25 rfl rfl ((show RowAt _ _ _ (encGr g) from ((((hB0_0.ext e1_0).ext e2_1).ext e2_5).rowAt 0 3))) rfl) (VL.gT rfl rfl (VL.callP Tryz.call22 rfl (narrow_spec g _ (hI.ok.ext (((e0_0.trans e1_0).trans e2_1).trans e2_5)) (small_glen hI (by simpa using g2_3)) (by have h : smallB (grV g) 40 = true := (by simpa using g2_3); have := (smallB_iff.1 h).1; have hgn : (grV g).n = g.n := rfl; omega)) fun w2_10 e2_10 => VL.gT rfl rfl (VL.op (R.not rfl) (VL.op (R.pickFB rfl rfl) (VL.nil (V.cond rfl (fun c33 => V.seq (V.region (VL.op (R.mvB rfl) (VL.op (R.asB rfl) (VL.nil (V.ret (fret1 (v := .bool _) rfl rfl rfl (⟨rfl, ((((e0_0.trans e1_0).trans e2_1).trans e2_5).trans e2_10)⟩)))))))) (fun c33 => V.skip (V.seq (?_)))))))))) (fun g2_8 => VL.gF rfl rfl (VL.gF rfl rfl (VL.op (R.pickTB rfl rfl) (VL.nil (V.condT rfl (V.seq (V.region (VL.op (R.mvB rfl) (VL.op (R.asB rfl) (VL.nil (V.ret (fret1 (v := .bool _) rfl rfl rfl (⟨rfl, (((e0_0.trans e1_0).trans e2_1).trans e2_5)⟩)))))))))))))))))))) (fun g2_3 => VL.gF rfl rfl (VL.gF rfl rfl (VL.op (R.pickTB rfl rfl) (VL.op (R.mvB rfl) (VL.gF rfl rfl (VL.gF rfl rfl (VL.gF rfl rfl (VL.op (R.pickTB rfl rfl) (VL.nil (V.condT rfl (V.seq (V.region (VL.op (R.mvB rfl) (VL.op (R.asB rfl) (VL.nil (V.ret (fret1 (v := .bool _) rfl rfl rfl (⟨rfl, ((e0_0.trans e1_0).trans e2_1)⟩))))))))))))))))))))))))))))))))
  have hsm : smallB (grV g) 40 = true := by simpa using g2_3
  have hv : validG (grV g) = true := by simpa using g2_8
  have hnw : narrowB (grV g) = true := by simpa using c33
  have hgl := small_glen hI hsm
  have hcb := costB_iff.1 (validG_iff.1 hv).1
  have hgn : (grV g).n = g.n := rfl
  obtain ⟨N, hN⟩ : ∃ N : Nat, g.n = (N : Int) := ⟨g.n.toNat, by have := hcb.1; omega⟩
  have hN40 : N ≤ 40 := by have := (smallB_iff.1 hsm).1; omega
  have E2 : Ext w w2_10 := (e0_0.trans e1_0).trans (e2_1.trans (e2_5.trans e2_10))
  have hX2 : Blk w2_10 b0_0 (.cells (Value.agg (encGr g).toArray).cells 25 (0, 0)) := hB0_0.ext (e1_0.trans (e2_1.trans (e2_5.trans e2_10)))
  have hln : loadB (grV g) [] = true := load_nil hv
  obtain ⟨hrn, _⟩ := ext_rep hln
  refine V.region (VL.op (R.ldA Tryz.isAgg25 Tryz.sizeOf25 rfl rfl ((show RowAt _ _ _ (encGr g) from hX2.rowAt 0 3)) rfl) (VL.callX Tryz.call13 rfl (extend_spec g none 0 [] B w2_10 (hI.ok.ext E2) hgl (TSl.nil _ _ _ _) (by decide) (Nat.le_trans hB E2.size) (hT.ext hB E2)) fun x4 w4 h4 e4 => VL.op (R.mvT rfl) (VL.op (R.extr rfl rfl) (VL.op (R.extr rfl rfl) (VL.op (R.asS rfl) (VL.op (R.asI rfl) (VL.nil (V.cut [2, 5, 6] (fun y : SlI => [.pointer (some ⟨b0_0, 0, none⟩), .bool true, .slice y.a y.l.length y.c]) (fun y w' => IntSl w' y.a y.l ∧ setB y.l (N : Int) = true ∧ y.l.length ≤ 40 ∧ Ext w2_10 w') (V.seq (V.region (VL.op (R.mvS rfl) (VL.op (R.lenS Tryz.runUnderlying41 rfl) (VL.op (R.gtr rfl rfl) (VL.nil (V.condP rfl (fun c42 => V.region (VL.op (R.fld' (o := 0) Tryz.runUnderlying25 rfl rfl Tryz.sizeOf3 rfl rfl) (VL.op (R.ld1 Tryz.isAgg3 rfl ((show w4.cell? ⟨b0_0, 0, none⟩ = some (Value.int .i64 ((N : Nat) : Int)) from by rw [← hN]; exact (hX2.ext e4).cell 0))) (VL.op (R.mvS rfl) (VL.callX Tryz.call29 rfl (some28_spec N sa sc bs w4 (hS.ext (E2.trans e4)) (by omega) hsl) fun y6 w6 h6 e6 => VL.op (R.asS rfl) (VL.nil (?_))))))) (fun c42 => V.skip (?_))))))))) (fun rgC42 xC42 wBC42 hBC42 => V.seq (?_))))))))))
  · obtain ⟨ho6, hset, hyl6⟩ := h6
    exact ⟨y6, rfl, OwnT.sl ho6, hset, by omega, e4.trans e6⟩
  · obtain ⟨ho4, hv4⟩ := h4
    rw [if_pos hln] at hv4
    have h1 : x4.1.l = extF (grV g) [] := congrArg Prod.fst hv4
    rw [← h1] at hrn
    have hl4 := rep_len hrn hcb.1
    refine ⟨x4.1, rfl, OwnT.sl ho4, by have := hrn.set; rwa [hgn, hN] at this, by omega, e4⟩
  obtain ⟨hs7, hset, hyl, e7⟩ := hBC42
  obtain ⟨S, hSd⟩ : ∃ S, S = xC42 := ⟨_, rfl⟩
  rw [← hSd] at hs7 hset hyl ⊢
  obtain ⟨w7, hw7⟩ : ∃ w7, w7 = wBC42 := ⟨_, rfl⟩
  rw [← hw7] at hs7 e7 ⊢
  have E7 := E2.trans e7
  have hX7 := hX2.ext e7
  refine V.region (VL.op (R.ldA Tryz.isAgg25 Tryz.sizeOf25 rfl rfl ((show RowAt _ _ _ (encGr g) from hX7.rowAt 0 3)) rfl) (VL.callX Tryz.call31 rfl (comps_spec g B w7 (hI.ok.ext E7) hgl (Nat.le_trans hB E7.size) (hT.ext hB E7)) fun z w5 ⟨hz, hL⟩ e5 => VL.op (R.asS rfl) (VL.nil (V.seq (?_)))))
  have hX5 := hX7.ext e5
  have E5 := E7.trans e5
  have hs5 := hs7.ext e5
  have hzl : z.1.length = (compsG (grV g)).length := by rw [← hz]; exact (List.length_map _).symm
  have hzn : z.1.length ≤ 40 := by have := comps_len hv; omega
  have hat : ∀ i, i < z.1.length → (compsG (grV g)).getD i default = (z.1.getD i default).l := fun i hi => by rw [← hz]; exact gmap SlI.l z.1 default hi
  have hpb := prdK_bnd hv hnw
  refine V.region (VL.op (R.asB rfl) (VL.nil (V.seq (V.region (VL.op (R.asI rfl) (VL.nil (V.seq (V.seq (V.region (VL.op (R.asI rfl) (VL.nil (V.block (?_)))))))))))))
  refine V.loop [2, 5, 6, 8, 9, 10, 11] (fun x : Nat × Bool => [.pointer (some ⟨b0_0, 0, none⟩), .bool true, .slice S.a S.l.length S.c, .slice z.2.1 z.1.length z.2.2, .bool x.2, .int .i64 (prdK (grV g) x.1), .int .i64 (x.1 : Nat)]) (fun x w' => x.1 ≤ z.1.length ∧ x.2 = allK (grV g) S.l x.1 ∧ Ext w5 w') (fun x => z.1.length - x.1) (0, true) rfl ⟨Nat.zero_le _, rfl, Vc.Mod.refl _ _⟩ ?_
  rintro ρ ⟨i, al⟩ w6 ⟨hi, hal, e6⟩
  dsimp only at hi hal e6 ⊢
  have hb6 := hX5.ext e6
  have hL6 := hL.ext e6
  have E6 := E5.trans e6
  have hG6 := hI.ok.ext E6
  have hG := hI.ok
  have hs6 := hs5.ext e6
  refine V.seq (V.seq (V.region (VL.op (R.mvI rfl) (VL.op (R.mvS rfl) (VL.op (R.lenS Tryz.runUnderlying23 rfl) (VL.op (R.lss rfl rfl) (VL.nil (V.condP rfl (fun c52 => V.skip (V.seq (V.block (V.seq (?_))))) (fun c52 => V.exit (V.seq (?_)))))))))))
  · have hil : i < z.1.length := by omega
    have hic : i < (compsG (grV g)).length := by omega
    have hxc : (z.1.getD i default).l ∈ compsG (grV g) := by rw [← hat i hil]; exact gmem hic
    have hxs := comps_set hv hxc
    have hxl : (z.1.getD i default).l.length ≤ 10 := narrowB_iff.1 hnw _ hxc
    have hpf : partF (grV g) (z.1.getD i default).l = (partG (grV g) (z.1.getD i default).l, 0) := by unfold partF; rw [if_pos ⟨hv, hxs⟩]
    have hpv := part_valid hv hxs
    have hasucc := allK_succ (S := S.l) hic
    rw [← hal, hat i hil] at hasucc
    have hpsucc := prdK_succ hic
    rw [hat i hil] at hpsucc
    obtain ⟨hcnt, hc1, hc2⟩ := cnt_comp hv hxc hxl
    obtain ⟨hp1, hp2⟩ := hpb i
    have hmul := mul_bnd hp1 hp2 hc1 hc2
    refine V.regionD (T := (TG w6.heap.size (partG (grV g) (z.1.getD i default).l))) mixed 11 (by kernel_rfl) rfl (fun us => VD.op (fun wq eq => R.ldA Tryz.isAgg25 Tryz.sizeOf25 rfl rfl ((show RowAt _ _ _ (encGr g) from (hb6.ext (TG.old eq)).rowAt 0 3)) rfl) (VD.op (fun wq eq => R.mvS rfl) (VD.op (fun wq eq => R.mvI rfl) (VD.op (fun wq eq => R.ixS Tryz.runUnderlying23 Tryz.sizeOf22 rfl rfl (by omega) (by omega) (hL6.sl.some (i := i) hil)) (VD.op (fun wq eq => R.ld1 Tryz.isAgg22 rfl ((((hL6.sl.ext (TG.old eq)).row (i := i) hil).cell (i := 0) rfl))) (VD.callX (fun _ => fun u w' => ∃ y : GrW, u = .tuple #[.agg (encGr y).toArray, .int .i64 0] ∧ PtR (partG (grV g) (z.1.getD i default).l) w' y) (DepS.const _) (fun u a b _ ⟨y, h1, h2⟩ eb => ⟨y, h1, h2.turn eb⟩) Tryz.call32 rfl (fun wq eq hq => by
        have eo := TG.old eq
        refine Rets.mono (part_spec g (z.1.getD i default).a (z.1.getD i default).c (z.1.getD i default).l B wq (hG6.ext eo) hgl ((hL6.ext eo).at hil) (by omega) (Nat.le_trans hB (E6.trans eo).size) (hT.ext hB (E6.trans eo))) ?_
        rintro u w' ⟨y, rfl, ⟨h1, h2, h3⟩, he⟩
        rw [hpf] at h1
        have h4 : y.2 = 0 := congrArg Prod.snd h1
        exact ⟨⟨y.1, by dsimp only; rw [h4], congrArg Prod.fst h1, ⟨h2.ok, h2.cc, h2.each⟩, h3⟩, he⟩) (VD.spec (fun _ => fun u w' => ∃ y : GrW, u = .tuple #[.agg (encGr y).toArray, .int .i64 0] ∧ PtR (partG (grV g) (z.1.getD i default).l) w' y) (DepS.const _) (fun u a b _ ⟨y, h1, h2⟩ eb => ⟨y, h1, h2.turn eb⟩) rfl (fun wq eq hq => by
        obtain ⟨y, hy, h1⟩ := hq 5 (by kernel_rfl)
        exact yieldsR_op (R.mv hy) ⟨⟨y, rfl, h1⟩, Turn.refl _⟩) (VD.spec (fun _ => fun u w' => ∃ y : GrW, u = .agg (encGr y).toArray ∧ PtR (partG (grV g) (z.1.getD i default).l) w' y) (DepS.const _) (fun u a b _ ⟨y, h1, h2⟩ eb => ⟨y, h1, h2.turn eb⟩) rfl (fun wq eq hq => by
        obtain ⟨y, hy, h1⟩ := hq 6 (by kernel_rfl)
        exact yieldsR_op (R.extr hy rfl) ⟨⟨y, rfl, h1⟩, Turn.refl _⟩) (VD.spec (fun _ => fun u _ => u = .int .i64 0) (DepS.const _) (fun u a b _ h eb => h) rfl (fun wq eq hq => by
        obtain ⟨y, hy, h1⟩ := hq 6 (by kernel_rfl)
        exact yieldsR_op (R.extr hy rfl) ⟨rfl, Turn.refl _⟩) (VD.spec (fun _ => fun u w' => ∃ b, u = .pointer (some ⟨b, 0, none⟩) ∧ w6.heap.size ≤ b ∧ ∃ c : Array Value, Blk w' b (.cells c 25 (0, 0)) ∧ c.size = 3) (DepS.const _) (fun u a b _ ⟨k, h1, h2, c, h3, h4⟩ eb => ⟨k, h1, h2, eb.ty k c h3 h4⟩) rfl (fun wq eq hq => yieldsR_op (runAlloc33 wq) ⟨⟨_, rfl, (TG.old eq).size, _, Blk.alloc _ _, rfl⟩, Turn.ext (Ext.alloc _ _)⟩) (VD.spec (fun vs _ w' => ∃ b y, vs 9 = .pointer (some ⟨b, 0, none⟩) ∧ w6.heap.size ≤ b ∧ Blk w' b (.cells (encGr y).toArray 25 (0, 0)) ∧ PtR (partG (grV g) (z.1.getD i default).l) w' y) (fun v v' u w1 hvv ⟨k, y, h1, h2⟩ => ⟨k, y, by rw [← hvv 9 (by kernel_rfl)]; exact h1, h2⟩) (fun u a b _ ⟨k, y, h1, h2, h3, h4⟩ eb => by
          obtain ⟨y', h5, h6⟩ := eb.good k h2 ⟨y, h3, h4⟩
          exact ⟨k, y', h1, h2, h5, h6⟩) rfl (fun wq eq hq => by
        obtain ⟨b, hb, hbs, c, hBk, hc⟩ := hq 9 (by kernel_rfl)
        obtain ⟨y, hy, hP⟩ := hq 7 (by kernel_rfl)
        refine yieldsR_store (ad := ⟨b, 0, none⟩) (v := .agg (encGr y).toArray) (c := c) (T := 25) (s := 3) Tryz.sizeOf25 rfl ?_ rfl ?_ hBk ?_ rfl ?_
        · exact hb
        · exact hy
        · rw [hc]; rfl
        intro w' m hs hBw
        have hput := putGr hc y
        have hBw : Blk w' b (.cells (encGr y).toArray 25 (0, 0)) := by rw [← hput]; exact hBw
        have hS : ∀ k, Vc.one b k → ∃ c z, Blk wq k (.cells c 25 z) := fun k hk => by rw [show k = b from hk]; exact ⟨_, _, hBk⟩
        refine ⟨⟨b, y, hb, hbs, hBw, hP.mod m hS⟩, m.weaken fun k _ hk => ⟨by rw [show k = b from hk]; exact hbs, hS k hk⟩, fun k hk ⟨x, h1, h2⟩ => ?_, fun k c' h1 h2 => ?_⟩
        · by_cases e : k = b
          · rw [e]; exact ⟨y, hBw, hP.mod m hS⟩
          · exact ⟨x, h1.mod m e, h2.mod m hS⟩
        · by_cases e : k = b
          · rw [e]; exact ⟨_, hBw, rfl⟩
          · exact ⟨c', h1.mod m e, h2⟩) (VD.nil (fun w10 e10 h10 => ?_))))))))))))) rfl
    have h8 : us 8 = .int .i64 0 := h10 8
    obtain ⟨b, y, hb, hbs, hBk, hP⟩ := h10 10
    have e10 := TG.old e10
    rw [hb, h8]
    have hyn : y.n = ((z.1.getD i default).l.length : Nat) := congrArg Gr.n hP.v
    have hyv : validG (grV y) = true := by rw [hP.v]; exact hpv
    have hyl := hP.n.valid hyv
    have E10 := E6.trans e10
    have hL10 := hL6.ext e10
    have hs10 := hs6.ext e10
    refine VL.op (R.asI rfl) (VL.nil (V.seq (V.region (VL.op (R.ldA Tryz.isAgg25 Tryz.sizeOf25 rfl rfl ((show RowAt _ _ _ (encGr y) from hBk.rowAt 0 3)) rfl) (VL.callX Tryz.call23 rfl (count_spec y B w10 hP.n.ok hyl (Nat.le_trans hB E10.size) (hT.ext hB E10)) fun x14 w11c h14 e11c => VL.op (R.mvT rfl) (VL.op (R.extr rfl rfl) (VL.op (R.extr rfl rfl) (VL.op (R.asI rfl) (VL.op (R.asI rfl) (VL.nil (V.seq (V.seq (?_)))))))))))))
    rw [hP.v, hcnt] at h14
    subst h14
    dsimp only
    refine V.region (VL.op (R.mvI rfl) (VL.op (R.lit (R.neq rfl rfl) ((decide_eq_false (fun h => h rfl)))) (VL.op (R.mvB rfl) (VL.gT rfl rfl (VL.op (R.mvI rfl) (VL.gT rfl rfl (VL.op (R.lit (R.neq rfl rfl) ((decide_eq_false (fun h => h rfl)))) (VL.op (R.pickFB rfl rfl) (VL.op (R.mvB rfl) (VL.gT rfl rfl (VL.op (R.mvI rfl) (VL.gT rfl rfl (VL.op (R.lit (R.lss rfl rfl) ((decide_eq_false (by omega)))) (VL.op (R.pickFB rfl rfl) (VL.nil (V.condF rfl (V.skip (V.seq (V.region (VL.op (R.mvI rfl) (VL.op (R.mvI rfl) (VL.op (R.mul rfl rfl (by omega) (by omega)) (VL.op (R.min rfl rfl) (VL.op (R.asI rfl) (VL.nil (V.seq (?_)))))))))))))))))))))))))))
    have hLc := hL10.ext e11c
    have hsc := hs10.ext e11c
    have hPc := hP.ext e11c
    have hBc := hBk.ext e11c
    have Ec := E10.trans e11c
    refine V.region (VL.op (R.asS rfl) (VL.nil (V.seq (V.seq (V.region (VL.op (R.asI rfl) (VL.nil (V.block (?_)))))))))
    refine V.loop [2, 5, 6, 8, 9, 10, 11, 12, 16, 17] (fun x : Nat × SlI => [.pointer (some ⟨b0_0, 0, none⟩), .bool true, .slice S.a S.l.length S.c, .slice z.2.1 z.1.length z.2.2, .bool al, .int .i64 (min (prdK (grV g) i * cntL (partG (grV g) (z.1.getD i default).l)) 1000000001), .int .i64 (i : Nat), .pointer (some ⟨b, 0, none⟩), .slice x.2.a x.2.l.length x.2.c, .int .i64 (x.1 : Nat)]) (fun x w' => x.1 ≤ (z.1.getD i default).l.length ∧ OwnT Vc.encI 1 3 w11c.heap.size w' x.2.a x.2.c x.2.l ∧ x.2.l = inK (z.1.getD i default).l S.l x.1 ∧ x.2.l.length ≤ x.1 ∧ Ext w11c w') (fun x => (z.1.getD i default).l.length - x.1) (0, ⟨none, 0, []⟩) rfl ⟨Nat.zero_le _, OwnT.nil _ _ _ _ _, rfl, Nat.le_refl _, Vc.Mod.refl _ _⟩ ?_
    rintro ρ2 ⟨k, f⟩ w12 ⟨hk, ho, hf, hfl, e12⟩
    dsimp only at hk ho hf hfl e12 ⊢
    have hL12 := hLc.ext e12
    refine V.seq (V.seq (V.region (VL.op (R.mvI rfl) (VL.op (R.mvS rfl) (VL.op (R.mvI rfl) (VL.op (R.ixS Tryz.runUnderlying23 Tryz.sizeOf22 rfl rfl (by omega) (by omega) ((hL12.sl).some (i := i) (by omega))) (VL.op (R.ld1 Tryz.isAgg22 rfl (((((hL12.sl).ext (Mod.refl _ _)).row (i := i) (by omega)).cell (i := 0) rfl))) (VL.op (R.lenS Tryz.runUnderlying22 rfl) (VL.op (R.lss rfl rfl) (VL.nil (V.condP rfl (fun c89 => V.skip (V.seq (V.block (V.seq (?_))))) (fun c89 => V.exit (?_)))))))))))))
    · have hkl : k < (z.1.getD i default).l.length := by omega
      have hx12 := hL12.at hil
      have hst := inK_succ (z.1.getD i default).l S.l k
      refine V.region (VL.op (R.mvS rfl) (VL.op (R.mvS rfl) (VL.op (R.mvI rfl) (VL.op (R.ixS Tryz.runUnderlying23 Tryz.sizeOf22 rfl rfl (by omega) (by omega) ((hL12.sl).some (i := i) (by omega))) (VL.op (R.ld1 Tryz.isAgg22 rfl (((((hL12.sl).ext (Mod.refl _ _)).row (i := i) (by omega)).cell (i := 0) rfl))) (VL.op (R.mvI rfl) (VL.op (R.ixS Tryz.runUnderlying22 Tryz.sizeOf3 rfl rfl (by omega) (by omega) ((hx12).some (i := k) (by omega))) (VL.op (R.ld1 Tryz.isAgg3 rfl (((((hx12).ext (Mod.refl _ _)).row (i := k) (by omega)).cell (i := 0) rfl))) (VL.callP Tryz.call33 rfl (in_spec S.a S.c S.l ((z.1.getD i default).l.getD k default) _ (by omega) (hsc.ext e12)) fun w22_8 e22_8 => VL.nil (V.cond rfl (fun c100 => V.region (VL.op (R.mvS rfl) (VL.op (R.mvI rfl) (VL.append1 el22 Tryz.runUnderlying22 Tryz.sizeOf3 Tryz.zeroValue3 rfl (((k : Nat) : Int)) rfl rfl rfl (ho.ext e22_8) rfl rfl rfl (by omega) (by unfold maxLen; omega) (e12.trans e22_8).size fun a18 c18 w18 vt18 ho18 m18 hf18 => VL.op (R.asS rfl) (VL.nil (V.region (VL.op (R.mvI rfl) (VL.op (R.add rfl rfl (by omega) (by omega)) (VL.op (R.asI rfl) (VL.nil (?_))))))))))) (fun c100 => V.skip (V.region (VL.op (R.mvI rfl) (VL.op (R.add rfl rfl (by omega) (by omega)) (VL.op (R.asI rfl) (VL.nil (?_)))))))))))))))))
      · have hin := of_decide_eq_true c100
        rw [if_pos hin] at hst
        refine ⟨(k + 1, ⟨a18, c18, f.l ++ [((k : Nat) : Int)]⟩), by dsimp only; rw [List.length_append]; rfl, ⟨by dsimp only; omega, ho18, by dsimp only; rw [hst, hf], by dsimp only; rw [List.length_append, List.length_singleton]; omega, (e12.trans e22_8).ownA m18 fun q hq => ho.ge q hq⟩, by dsimp only; omega⟩
      · have hin := of_decide_eq_false c100
        rw [if_neg hin, List.append_nil] at hst
        refine ⟨(k + 1, f), rfl, ⟨by dsimp only; omega, ho.ext e22_8, by dsimp only; rw [hst, hf], by dsimp only; omega, e12.trans e22_8⟩, by dsimp only; omega⟩
    · have hke : k = (z.1.getD i default).l.length := by omega
      subst hke
      have E12 : Ext w5 w12 := e6.trans (e10.trans (e11c.trans e12))
      have hB12 := hBc.ext e12
      have hP12 := hPc.ext e12
      cases al with
      | false => refine V.region (VL.op (R.mvB rfl) (VL.op (R.mvB rfl) (VL.gF rfl rfl (VL.gF rfl rfl (VL.gF rfl rfl (VL.op (R.pickFB rfl rfl) (VL.op (R.asB rfl) (VL.nil (V.region (VL.op (R.mvI rfl) (VL.op (R.add rfl rfl (by omega) (by omega)) (VL.op (R.asI rfl) (VL.nil (⟨(i + 1, false), by dsimp only; rw [hpsucc]; rfl, ⟨by dsimp only; omega, by rw [hasucc]; rfl, E12.trans (Mod.refl _ _)⟩, by dsimp only; omega⟩))))))))))))))
      | true =>
        refine V.region (VL.op (R.mvB rfl) (VL.op (R.mvB rfl) (VL.gT rfl rfl (VL.op (R.ldA Tryz.isAgg25 Tryz.sizeOf25 rfl rfl ((show RowAt _ _ _ (encGr y) from hB12.rowAt 0 3)) rfl) (VL.gT rfl rfl (VL.op (R.mvS rfl) (VL.gT rfl rfl (VL.callP Tryz.call19 rfl (is_spec28 y f.a f.c f.l B w12 hP12.n.ok hyl (OwnT.sl ho) (by omega) (Nat.le_trans hB (E5.trans E12).size) (hT.ext hB (E5.trans E12))) fun w24_4 e24_4 => VL.op (R.pickTB rfl rfl) (VL.op (R.asB rfl) (VL.nil (V.region (VL.op (R.mvI rfl) (VL.op (R.add rfl rfl (by omega) (by omega)) (VL.op (R.asI rfl) (VL.nil (⟨(i + 1, isB (grV y) f.l), by dsimp only; rw [hpsucc]; rfl, ⟨by dsimp only; omega, by rw [hasucc, hP.v, hf]; rfl, E12.trans e24_4⟩, by dsimp only; omega⟩))))))))))))))))
  · have hie : i = z.1.length := by omega
    subst hie
    rw [hzl] at hal
    rw [allK_all hv (by rwa [hgn, hN])] at hal
    have hfin := prdK_all hv hnw
    rw [← hzl] at hfin
    refine V.region (VL.op (R.ldA Tryz.isAgg25 Tryz.sizeOf25 rfl rfl ((show RowAt _ _ _ (encGr g) from hb6.rowAt 0 3)) rfl) (VL.callX Tryz.call23 rfl (count_spec g B w6 hG6 hgl (Nat.le_trans hB E6.size) (hT.ext hB E6)) fun x8 w8 h8 e8 => VL.op (R.mvT rfl) (VL.op (R.extr rfl rfl) (VL.op (R.extr rfl rfl) (VL.op (R.asI rfl) (VL.op (R.asI rfl) (VL.nil (V.seq (V.seq (?_))))))))))
    rw [hfin] at h8
    have hb8 := hb6.ext e8
    have hs8 := hs6.ext e8
    have E8 := E6.trans e8
    by_cases hbig : 1000000000 < prdK (grV g) z.1.length
    · rw [if_pos hbig] at h8
      subst h8
      refine V.region (VL.op (R.mvI rfl) (VL.op (R.lit (R.gtr rfl rfl) ((decide_eq_true hbig))) (VL.nil (V.condT rfl (V.seq (V.region (VL.op (R.mvB rfl) (VL.op (R.mvB rfl) (VL.gT rfl rfl (VL.op (R.mvB rfl) (VL.gT rfl rfl (VL.op (R.ldA Tryz.isAgg25 Tryz.sizeOf25 rfl rfl ((show RowAt _ _ _ (encGr g) from hb8.rowAt 0 3)) rfl) (VL.gT rfl rfl (VL.op (R.mvS rfl) (VL.gT rfl rfl (VL.callP Tryz.call19 rfl (is_spec28 g S.a S.c S.l B w8 (hG.ext E8) hgl hs8 (by omega) (Nat.le_trans hB E8.size) (hT.ext hB E8)) fun w27_5 e27_5 => VL.gT rfl rfl (VL.op (R.lit (R.eqlB eqW4 rfl rfl) ((decide_eq_true hal))) (VL.op (R.pickTB rfl rfl) (VL.op (R.mvB rfl) (VL.gT rfl rfl (VL.op (R.mvI rfl) (VL.gT rfl rfl (VL.op (R.lit (R.eql rfl rfl) ((decide_eq_true rfl))) (VL.op (R.pickTB rfl rfl) (VL.op (R.asB rfl) (VL.nil (V.ret (fret1 (v := .bool _) rfl rfl rfl (⟨rfl, E8.trans e27_5⟩)))))))))))))))))))))))))))))
    · rw [if_neg hbig] at h8
      subst h8
      refine V.region (VL.op (R.mvI rfl) (VL.op (R.lit (R.gtr rfl rfl) ((decide_eq_false hbig))) (VL.nil (V.condF rfl (V.skip (V.seq (V.region (VL.op (R.mvB rfl) (VL.op (R.mvB rfl) (VL.gT rfl rfl (VL.op (R.mvB rfl) (VL.gT rfl rfl (VL.op (R.ldA Tryz.isAgg25 Tryz.sizeOf25 rfl rfl ((show RowAt _ _ _ (encGr g) from hb8.rowAt 0 3)) rfl) (VL.gT rfl rfl (VL.op (R.mvS rfl) (VL.gT rfl rfl (VL.callP Tryz.call19 rfl (is_spec28 g S.a S.c S.l B w8 (hG.ext E8) hgl hs8 (by omega) (Nat.le_trans hB E8.size) (hT.ext hB E8)) fun w28_5 e28_5 => VL.gT rfl rfl (VL.op (R.lit (R.eqlB eqW4 rfl rfl) ((decide_eq_true hal))) (VL.op (R.pickTB rfl rfl) (VL.op (R.mvB rfl) (VL.gT rfl rfl (VL.op (R.mvI rfl) (VL.gT rfl rfl (VL.op (R.lit (R.eql rfl rfl) ((decide_eq_true rfl))) (VL.op (R.pickTB rfl rfl) (VL.op (R.mvB rfl) (VL.gT rfl rfl (VL.op (R.mvI rfl) (VL.gT rfl rfl (VL.op (R.mvI rfl) (VL.gT rfl rfl (VL.op (R.lit (R.eql rfl rfl) ((decide_eq_true rfl))) (VL.op (R.pickTB rfl rfl) (VL.op (R.asB rfl) (VL.nil (V.ret (fret1 (v := .bool _) rfl rfl rfl (⟨rfl, E8.trans e28_5⟩))))))))))))))))))))))))))))))))))))))
end Go.Proofs.YtlnbkoojelhjdaaGreatDoor
