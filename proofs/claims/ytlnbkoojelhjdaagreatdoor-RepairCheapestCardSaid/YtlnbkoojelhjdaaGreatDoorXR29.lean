/- Repair: the walk of law RepairCheapest. -/
import Derived.Test.YtlnbkoojelhjdaaGreatDoorXR21
import Derived.Test.YtlnbkoojelhjdaaGreatDoorXR28
import Derived.Test.YtlnbkoojelhjdaaGreatDoorXL7
namespace Go.Proofs.YtlnbkoojelhjdaaGreatDoor
open Go.Vc
def smC (g : Gr) (k : Nat) : Int := sm (((compsG g).take k).map fun c => (chF (partG g c).cost c (repsG (partG g c))).2)
theorem smC_succ {g : Gr} {k : Nat} (h : k < (compsG g).length) : smC g (k + 1) = smC g k + (chF (partG g ((compsG g).getD k default)).cost ((compsG g).getD k default) (repsG (partG g ((compsG g).getD k default)))).2 := by
  unfold smC
  rw [List.take_succ_eq_append_getElem h, List.map_append, gget h]
  exact sm_snoc _ _
theorem chF_comp {g : Gr} (hg : validG g = true) {c : List Int} (hc : c ∈ compsG g) (hl : c.length ≤ 10) : 0 ≤ (chF (partG g c).cost c (repsG (partG g c))).2 ∧ (chF (partG g c).cost c (repsG (partG g c))).2 ≤ 10000000000 := by
  obtain ⟨r, h1, h2, _⟩ := pick_ex hg hc
  have hpv := part_valid hg (comps_set hg hc)
  have hcb := costB_iff.1 (validG_iff.1 hpv).1
  have h3 := costR_bnd hcb.2.2.2 r
  have h4 := rep_len h1 hcb.1
  have hn : (partG g c).n = ((c.length : Nat) : Int) := rfl
  rw [h2]
  dsimp only
  omega
theorem smC_bnd {g : Gr} (hg : validG g = true) (hw : narrowB g = true) (k : Nat) : 0 ≤ smC g k ∧ smC g k ≤ 10000000000 * (k : Int) := by
  induction k with
  | zero => exact ⟨Int.le_refl _, Int.le_refl _⟩
  | succ k ih =>
    by_cases h : k < (compsG g).length
    · have hc := gmem h
      have := chF_comp hg hc (narrowB_iff.1 hw _ hc)
      rw [smC_succ h]
      omega
    · have : smC g (k + 1) = smC g k := by
        unfold smC
        rw [List.take_of_length_le (by omega), List.take_of_length_le (by omega)]
      rw [this]
      omega
set_option maxRecDepth 100000 in
set_option maxHeartbeats 16000000 in
theorem cheapest_law (g : GrW) (sa : Option Addr) (sc B : Nat) (S : List Int) (w : World) (hI : GIn w g) (hS : IntSl w sa S) (hsl : S.length ≤ 9223372036854775807) (hB : B ≤ w.heap.size) (hT : TabW B w) :
    RetsP Tryz.prog 9 #[.agg (encGr g).toArray, .slice sa S.length sc] w (.bool true) := by
  refine enter (args := [_, _]) Tryz.func9 rfl Tryz.ntmps9 (by kernel_rfl) rfl ?_
  refine V.seq (V.region (VL.box (v := .agg _) rfl fun b0_0 w0_0 hb0_0 e0_0 hB0_0 => VL.op (R.asB rfl) (VL.nil (V.seq (V.region (VL.callP Tryz.call11 rfl (head_spec28 B _ (Nat.le_trans hB (e0_0).size) (hT.ext hB e0_0)) fun w1_0 e1_0 => VL.op (R.asB rfl) (VL.nil (V.seq (V.seq (V.region (VL.op (R.ldA Tryz.isAgg25 Tryz.sizeOf25 rfl rfl ((show RowAt _ _ _ (encGr g) from ((hB0_0.ext e1_0).rowAt 0 3))) rfl) (VL.callP Tryz.call12 rfl (small_spec g 40 _ (hI.ok.ext (e0_0.trans e1_0)) hI.c hI.e.len (fun x hx => (hI.e.each x hx).1) (by decide) (by decide)) fun w2_1 e2_1 => VL.op (R.not rfl) (VL.op (R.mvB rfl) (VL.or rfl rfl (fun g2_3 => VL.op (R.mvS rfl) (VL.gT rfl rfl (VL.op (R.lenS Tryz.runUnderlying22 rfl) (VL.gT rfl rfl (VL.op (R.gtr rfl rfl) (VL.op (R.pickFB rfl rfl) (VL.op (R.mvB rfl) (VL.orP rfl rfl (fun g2_8 => VL.op (R.ldA Tryz.isAgg25 Tryz.sizeOf25 rfl rfl ((show RowAt _ _ _ (encGr g) from (((hB0_0.ext e1_0).ext e2_1).rowAt 0 3))) rfl) (VL.gT rfl rfl (VL.callP Tryz.call22 rfl (narrow_spec g _ (hI.ok.ext ((e0_0.trans e1_0).trans e2_1)) (small_glen hI (by simpa using g2_3)) (by have h : smallB (grV g) 40 = true := (by simpa using g2_3); have := (smallB_iff.1 h).1; have hgn : (grV g).n = g.n := rfl; omega)) fun w2_10 e2_10 => VL.gT rfl rfl (VL.op (R.not rfl) (VL.op (R.pickFB rfl rfl) (VL.nil (V.cond rfl (fun c33 => V.seq (V.region (VL.op (R.mvB rfl) (VL.op (R.asB rfl) (VL.nil (V.ret (fret1 (v := .bool _) rfl rfl rfl (⟨rfl, (((e0_0.trans e1_0).trans e2_1).trans e2_10)⟩)))))))) (fun c33 => V.skip (V.seq (?_)))))))))) (fun g2_8 => VL.gF rfl rfl (VL.gF rfl rfl (VL.op (R.pickTB rfl rfl) (VL.nil (V.condT rfl (V.seq (V.region (VL.op (R.mvB rfl) (VL.op (R.asB rfl) (VL.nil (V.ret (fret1 (v := .bool _) rfl rfl rfl (⟨rfl, ((e0_0.trans e1_0).trans e2_1)⟩))))))))))))))))))))) (fun g2_3 => VL.gF rfl rfl (VL.gF rfl rfl (VL.op (R.pickTB rfl rfl) (VL.op (R.mvB rfl) (VL.gF rfl rfl (VL.gF rfl rfl (VL.gF rfl rfl (VL.op (R.pickTB rfl rfl) (VL.nil (V.condT rfl (V.seq (V.region (VL.op (R.mvB rfl) (VL.op (R.asB rfl) (VL.nil (V.ret (fret1 (v := .bool _) rfl rfl rfl (⟨rfl, ((e0_0.trans e1_0).trans e2_1)⟩))))))))))))))))))))))))))))))))
  have hsm : smallB (grV g) 40 = true := by simpa using g2_3
  have hnw : narrowB (grV g) = true := by simpa using c33
  have hsl2 : S.length ≤ 50 := by omega
  have hgl := small_glen hI hsm
  have hgn : (grV g).n = g.n := rfl
  have E2 : Ext w w2_10 := (e0_0.trans e1_0).trans (e2_1.trans e2_10)
  have hX2 : Blk w2_10 b0_0 (.cells (Value.agg (encGr g).toArray).cells 25 (0, 0)) := hB0_0.ext (e1_0.trans (e2_1.trans e2_10))
  refine V.region (VL.op (R.ldA Tryz.isAgg25 Tryz.sizeOf25 rfl rfl ((show RowAt _ _ _ (encGr g) from hX2.rowAt 0 3)) rfl) (VL.callX Tryz.call25 rfl (cheapest_spec g B w2_10 (hI.ok.ext E2) hgl (Nat.le_trans hB E2.size) (hT.ext hB E2)) fun x4 w4 h4 e4 => VL.op (R.mvT rfl) (VL.op (R.extr rfl rfl) (VL.op (R.extr rfl rfl) (VL.op (R.extr rfl rfl) (VL.op (R.asS rfl) (VL.op (R.asI rfl) (VL.op (R.asI rfl) (VL.nil (V.seq (V.seq (?_))))))))))))
  obtain ⟨ho4, hv4⟩ := h4
  obtain ⟨⟨a4, c4, b⟩, n, r4⟩ := x4
  dsimp only at ho4 hv4 ⊢
  have E4 := E2.trans e4
  by_cases hv : validG (grV g) = true
  · have hpe := partsE_narrow hv hnw
    obtain ⟨h0, hch, hsum⟩ := cheap_is hv hpe
    rw [← hv4] at h0 hch hsum
    dsimp only at h0 hch hsum
    subst h0
    have hcb := costB_iff.1 (validG_iff.1 hv).1
    have hc0 : ∀ x ∈ g.cost, 0 ≤ x ∧ x ≤ 1000000000 := hcb.2.2.2
    have hcl : (g.cost.length : Int) = g.n := hcb.2.2.1
    have hn40 : g.n ≤ 40 := (smallB_iff.1 hsm).1
    have hbl := rep_len hch.rep hcb.1
    have hrr : ∀ {R : List Int}, IsRep (grV g) R → ∀ x ∈ R, 0 ≤ x ∧ x < (g.cost.length : Int) := fun h x hx => by
      have := (setB_iff.1 h.set).2 x hx
      omega
    have hX4 := hX2.ext e4
    have hb4 : IntSl w4 a4 b := OwnT.sl ho4
    refine V.region (VL.op (R.mvI rfl) (VL.op (R.lit (R.neq rfl rfl) ((decide_eq_false (fun h => h rfl)))) (VL.nil (V.condF rfl (V.skip (V.seq (V.seq (V.region (VL.op (R.ldA Tryz.isAgg25 Tryz.sizeOf25 rfl rfl ((show RowAt _ _ _ (encGr g) from hX4.rowAt 0 3)) rfl) (VL.op (R.mvS rfl) (VL.callP Tryz.call19 rfl ((by
        have := is_spec28 g a4 c4 b B w4 (hI.ok.ext E4) hgl hb4 (by omega) (Nat.le_trans hB E4.size) (hT.ext hB E4)
        rwa [(isB_iff hv).2 hch.rep] at this)) fun w7_2 e7_2 => VL.op (R.not rfl) (VL.op (R.mvB rfl) (VL.gT rfl rfl (VL.op (R.ldA Tryz.isAgg25 Tryz.sizeOf25 rfl rfl ((show RowAt _ _ _ (encGr g) from (hX4.ext e7_2).rowAt 0 3)) rfl) (VL.gT rfl rfl (VL.op (R.mvS rfl) (VL.gT rfl rfl (VL.callP Tryz.call35 rfl (cost28_spec g a4 c4 b w7_2 (hI.ok.ext (E4.trans e7_2)) hc0 (hb4.ext e7_2) (by omega) (hrr hch.rep) (by omega)) fun w7_7 e7_7 => VL.gT rfl rfl (VL.op (R.mvI rfl) (VL.gT rfl rfl (VL.op (R.lit (R.neq rfl rfl) ((decide_eq_false (fun h => h hch.cost)))) (VL.op (R.pickFB rfl rfl) (VL.nil (V.condF rfl (V.skip (V.seq (?_)))))))))))))))))))))))))))
    have E7 := E4.trans (e7_2.trans e7_7)
    have hX7 := hX4.ext (e7_2.trans e7_7)
    have hb7 := hb4.ext (e7_2.trans e7_7)
    obtain ⟨w7, hw7⟩ : ∃ w7, w7 = w7_7 := ⟨_, rfl⟩
    rw [← hw7] at E7 hX7 hb7 ⊢
    refine V.region (VL.op (R.ldA Tryz.isAgg25 Tryz.sizeOf25 rfl rfl ((show RowAt _ _ _ (encGr g) from hX7.rowAt 0 3)) rfl) (VL.op (R.mvS rfl) (VL.callX Tryz.call13 rfl (extend_spec g sa sc S B w7 (hI.ok.ext E7) hgl (hS.ext E7) (by omega) (Nat.le_trans hB E7.size) (hT.ext hB E7)) fun x9 w9 h9 e9 => VL.op (R.mvT rfl) (VL.op (R.extr rfl rfl) (VL.op (R.extr rfl rfl) (VL.op (R.asS rfl) (VL.op (R.asI rfl) (VL.nil (V.cut [2, 5, 7] (fun _ : Unit => [.pointer (some ⟨b0_0, 0, none⟩), .bool true, .int .i64 n]) (fun _ w' => Ext w7 w') (V.seq (V.region (VL.op (R.mvI rfl) (VL.op (R.eql rfl rfl) (VL.nil (V.condP rfl (fun c71 => V.seq (?_)) (fun c71 => V.skip (?_)))))))) (fun rgC71 xC71 wBC71 hBC71 => V.seq (?_)))))))))))
    · obtain ⟨ho9, hv9⟩ := h9
      obtain ⟨⟨a9, c9, Rx⟩, r9⟩ := x9
      dsimp only at ho9 hv9 c71 ⊢
      have hb : loadB (grV g) S = true := by
        by_cases h : loadB (grV g) S = true
        · exact h
        · rw [if_neg h] at hv9
          have := congrArg Prod.snd hv9
          dsimp only at this
          omega
      rw [if_pos hb] at hv9
      have h1 : Rx = extF (grV g) S := congrArg Prod.fst hv9
      obtain ⟨hR, _⟩ := ext_rep hb
      rw [← h1] at hR
      have hRl := rep_len hR hcb.1
      have hle := hch.least Rx hR
      have hX9 := hX7.ext e9
      have E9 := E7.trans e9
      have hs9 : IntSl w9 a9 Rx := OwnT.sl ho9
      have hb9 := hb7.ext e9
      have hcost : costR g.cost Rx = costR (grV g).cost Rx := rfl
      by_cases he : costR g.cost Rx = n
      · refine V.region (VL.op (R.ldA Tryz.isAgg25 Tryz.sizeOf25 rfl rfl ((show RowAt _ _ _ (encGr g) from hX9.rowAt 0 3)) rfl) (VL.op (R.mvS rfl) (VL.callP Tryz.call35 rfl (cost28_spec g a9 c9 Rx w9 (hI.ok.ext E9) hc0 hs9 (by omega) (hrr hR) (by omega)) fun w11_2 e11_2 => VL.op (R.asI rfl) (VL.nil (V.seq (V.region (VL.op (R.mvI rfl) (VL.op (R.mvI rfl) (VL.op (R.lit (R.lss rfl rfl) ((decide_eq_false (by omega)))) (VL.op (R.mvB rfl) (VL.gT rfl rfl (VL.op (R.mvI rfl) (VL.gT rfl rfl (VL.op (R.mvI rfl) (VL.gT rfl rfl (VL.op (R.lit (R.eql rfl rfl) ((decide_eq_true he))) (VL.gT rfl rfl (VL.op (R.mvB rfl) (VL.gT rfl rfl (VL.op (R.mvS rfl) (VL.gT rfl rfl (VL.op (R.mvS rfl) (VL.gT rfl rfl (VL.callP Tryz.call30 rfl ((by
          have := less28_spec a9 a4 c9 c4 Rx b w11_2 (by omega) (by omega) (hs9.ext e11_2) (hb9.ext e11_2)
          rwa [hch.first Rx hR he] at this)) fun w12_10 e12_10 => VL.gT rfl rfl (VL.op (R.pickTB rfl rfl) (VL.op (R.pickFB rfl rfl) (VL.nil (V.condF rfl (V.skip (?_))))))))))))))))))))))))))))))
        exact ⟨(), rfl, e9.trans (e11_2.trans e12_10)⟩
      · refine V.region (VL.op (R.ldA Tryz.isAgg25 Tryz.sizeOf25 rfl rfl ((show RowAt _ _ _ (encGr g) from hX9.rowAt 0 3)) rfl) (VL.op (R.mvS rfl) (VL.callP Tryz.call35 rfl (cost28_spec g a9 c9 Rx w9 (hI.ok.ext E9) hc0 hs9 (by omega) (hrr hR) (by omega)) fun w11_2 e11_2 => VL.op (R.asI rfl) (VL.nil (V.seq (V.region (VL.op (R.mvI rfl) (VL.op (R.mvI rfl) (VL.op (R.lit (R.lss rfl rfl) ((decide_eq_false (by omega)))) (VL.op (R.mvB rfl) (VL.gT rfl rfl (VL.op (R.mvI rfl) (VL.gT rfl rfl (VL.op (R.mvI rfl) (VL.gT rfl rfl (VL.op (R.lit (R.eql rfl rfl) ((decide_eq_false he))) (VL.gT rfl rfl (VL.op (R.mvB rfl) (VL.gF rfl rfl (VL.gF rfl rfl (VL.gF rfl rfl (VL.gT rfl rfl (VL.op (R.pickFB rfl rfl) (VL.op (R.pickFB rfl rfl) (VL.nil (V.condF rfl (V.skip (?_))))))))))))))))))))))))))))
        exact ⟨(), rfl, e9.trans e11_2⟩
    · exact ⟨(), rfl, e9⟩
    obtain ⟨w10, hw10⟩ : ∃ w10, w10 = wBC71 := ⟨_, rfl⟩
    rw [← hw10] at hBC71 ⊢
    have E10 := E7.trans hBC71
    have hX10 := hX7.ext hBC71
    refine V.region (VL.op (R.asI rfl) (VL.nil (V.seq (V.region (VL.op (R.ldA Tryz.isAgg25 Tryz.sizeOf25 rfl rfl ((show RowAt _ _ _ (encGr g) from hX10.rowAt 0 3)) rfl) (VL.callX Tryz.call31 rfl (comps_spec g B w10 (hI.ok.ext E10) hgl (Nat.le_trans hB E10.size) (hT.ext hB E10)) fun z w5 ⟨hz, hL⟩ e5 => VL.op (R.asS rfl) (VL.nil (V.seq (V.seq (?_))))))))))
    have hX5 := hX10.ext e5
    have E5 := E10.trans e5
    have hzl : z.1.length = (compsG (grV g)).length := by rw [← hz]; exact (List.length_map _).symm
    have hzn : z.1.length ≤ 40 := by have := comps_len hv; omega
    have hat : ∀ i, i < z.1.length → (compsG (grV g)).getD i default = (z.1.getD i default).l := fun i hi => by rw [← hz]; exact gmap SlI.l z.1 default hi
    refine V.region (VL.op (R.asI rfl) (VL.nil (V.block (?_))))
    refine V.loop [2, 5, 7, 12, 13, 14] (fun i : Nat => [.pointer (some ⟨b0_0, 0, none⟩), .bool true, .int .i64 n, .int .i64 (smC (grV g) i), .slice z.2.1 z.1.length z.2.2, .int .i64 (i : Nat)]) (fun i w' => i ≤ z.1.length ∧ Ext w5 w') (fun i => z.1.length - i) 0 rfl ⟨Nat.zero_le _, Vc.Mod.refl _ _⟩ ?_
    rintro ρ i w6 ⟨hi, e6⟩
    have hb6 := hX5.ext e6
    have hL6 := hL.ext e6
    have E6 := E5.trans e6
    have hG6 := hI.ok.ext E6
    refine V.seq (V.seq (V.region (VL.op (R.mvI rfl) (VL.op (R.mvS rfl) (VL.op (R.lenS Tryz.runUnderlying23 rfl) (VL.op (R.lss rfl rfl) (VL.nil (V.condP rfl (fun c93 => V.skip (V.seq (V.block (V.seq (?_))))) (fun c93 => V.exit (V.seq (?_)))))))))))
    · have hil : i < z.1.length := by omega
      have hic : i < (compsG (grV g)).length := by omega
      have hxc : (z.1.getD i default).l ∈ compsG (grV g) := by rw [← hat i hil]; exact gmem hic
      have hxs := comps_set hv hxc
      have hxl : (z.1.getD i default).l.length ≤ 10 := narrowB_iff.1 hnw _ hxc
      have hpf : partF (grV g) (z.1.getD i default).l = (partG (grV g) (z.1.getD i default).l, 0) := by unfold partF; rw [if_pos ⟨hv, hxs⟩]
      have hpv := part_valid hv hxs
      have hsucc := smC_succ hic
      rw [hat i hil] at hsucc
      obtain ⟨hc1, hc2⟩ := cheap_comp hv hxc hxl
      have hsb := smC_bnd hv hnw i
      have hcf := chF_comp hv hxc hxl
      refine V.regionD (T := (TG w6.heap.size (partG (grV g) (z.1.getD i default).l))) mixed 11 (by kernel_rfl) rfl (fun us => VD.op (fun wq eq => R.ldA Tryz.isAgg25 Tryz.sizeOf25 rfl rfl ((show RowAt _ _ _ (encGr g) from (hb6.ext (TG.old eq)).rowAt 0 3)) rfl) (VD.op (fun wq eq => R.mvS rfl) (VD.op (fun wq eq => R.mvI rfl) (VD.op (fun wq eq => R.ixS Tryz.runUnderlying23 Tryz.sizeOf22 rfl rfl (by omega) (by omega) (hL6.sl.some (i := i) hil)) (VD.op (fun wq eq => R.ld1 Tryz.isAgg22 rfl ((((hL6.sl.ext (TG.old eq)).row (i := i) hil).cell (i := 0) rfl))) (VD.callX (fun _ => fun u w' => ∃ y : GrW, u = .tuple #[.agg (encGr y).toArray, .int .i64 0] ∧ PtR (partG (grV g) (z.1.getD i default).l) w' y) (DepS.const _) (fun u a b _ ⟨y, h1, h2⟩ eb => ⟨y, h1, h2.turn eb⟩) Tryz.call32 rfl (fun wq eq hq => by
          have eo := TG.old eq
          refine Rets.mono (part_spec g (z.1.getD i default).a (z.1.getD i default).c (z.1.getD i default).l B wq (hG6.ext eo) hgl ((hL6.ext eo).at hil) (by omega) (Nat.le_trans hB (E6.trans eo).size) (hT.ext hB (E6.trans eo))) ?_
          rintro u w' ⟨y, rfl, ⟨h1, h2, h3⟩, he⟩
          rw [hpf] at h1
          have h4 : y.2 = 0 := congrArg Prod.snd h1
          exact ⟨⟨y.1, by dsimp only; rw [h4], congrArg Prod.fst h1, ⟨h2.ok, h2.cc, h2.each⟩, h3⟩, he⟩) (VD.spec (fun _ => fun u w' => ∃ y : GrW, u = .tuple #[.agg (encGr y).toArray, .int .i64 0] ∧ PtR (partG (grV g) (z.1.getD i default).l) w' y) (DepS.const _) (fun u a b _ ⟨y, h1, h2⟩ eb => ⟨y, h1, h2.turn eb⟩) rfl (fun wq eq hq => by
          obtain ⟨y, hy, h1⟩ := hq 5 (by kernel_rfl)
          exact yieldsR_op (R.mv hy) ⟨⟨y, rfl, h1⟩, Turn.refl _⟩) (VD.spec (fun _ => fun u w' => ∃ y : GrW, u = .agg (encGr y).toArray ∧ PtR (partG (grV g) (z.1.getD i default).l) w' y) (DepS.const _) (fun u a b _ ⟨y, h1, h2⟩ eb => ⟨y, h1, h2.turn eb⟩) rfl (fun wq eq hq => by
          obtain ⟨y, hy, h1⟩ := hq 6 (by kernel_rfl)
          exact yieldsR_op (R.extr hy rfl) ⟨⟨y, rfl, h1⟩, Turn.refl _⟩) (VD.spec (fun _ => fun u _ => u = .int .i64 0) (DepS.const _) (fun u a b _ h eb => h) rfl (fun wq eq hq => by
          obtain ⟨y, hy, h1⟩ := hq 6 (by kernel_rfl)
          exact yieldsR_op (R.extr hy rfl) ⟨rfl, Turn.refl _⟩) (VD.spec (fun _ => fun u w' => ∃ b, u = .pointer (some ⟨b, 0, none⟩) ∧ w6.heap.size ≤ b ∧ ∃ c : Array Value, Blk w' b (.cells c 25 (0, 0)) ∧ c.size = 3) (DepS.const _) (fun u a b _ ⟨k, h1, h2, c, h3, h4⟩ eb => ⟨k, h1, h2, eb.ty k c h3 h4⟩) rfl (fun wq eq hq => yieldsR_op (runAlloc33 wq) ⟨⟨_, rfl, (TG.old eq).size, _, Blk.alloc _ _, rfl⟩, Turn.ext (Ext.alloc _ _)⟩) (VD.spec (fun vs _ w' => ∃ b y, vs 9 = .pointer (some ⟨b, 0, none⟩) ∧ w6.heap.size ≤ b ∧ Blk w' b (.cells (encGr y).toArray 25 (0, 0)) ∧ PtR (partG (grV g) (z.1.getD i default).l) w' y) (fun v v' u w1 hvv ⟨k, y, h1, h2⟩ => ⟨k, y, by rw [← hvv 9 (by kernel_rfl)]; exact h1, h2⟩) (fun u a b _ ⟨k, y, h1, h2, h3, h4⟩ eb => by
            obtain ⟨y', h5, h6⟩ := eb.good k h2 ⟨y, h3, h4⟩
            exact ⟨k, y', h1, h2, h5, h6⟩) rfl (fun wq eq hq => by
          obtain ⟨b, hb, hbs, c, hBk, hc⟩ := hq 9 (by kernel_rfl)
          obtain ⟨y, hy, hP⟩ := hq 7 (by kernel_rfl)
          refine yieldsR_store (ad := ⟨b, 0, none⟩) (v := .agg (encGr y).toArray) (c := c) (T := 25) (s := 3) Tryz.sizeOf25 rfl ?_ rfl ?_ hBk ?_ rfl ?_
          · exact hb
          · exact hy
          · rw [hc]; rfl
          intro w' m hs hBw
          have hput := putGr hc y
          have hBw : Blk w' b (.cells (encGr y).toArray 25 (0, 0)) := by rw [← hput]; exact hBw
          have hS : ∀ k, Vc.one b k → ∃ c z, Blk wq k (.cells c 25 z) := fun k hk => by rw [show k = b from hk]; exact ⟨_, _, hBk⟩
          refine ⟨⟨b, y, hb, hbs, hBw, hP.mod m hS⟩, m.weaken fun k _ hk => ⟨by rw [show k = b from hk]; exact hbs, hS k hk⟩, fun k hk ⟨x, h1, h2⟩ => ?_, fun k c' h1 h2 => ?_⟩
          · by_cases e : k = b
            · rw [e]; exact ⟨y, hBw, hP.mod m hS⟩
            · exact ⟨x, h1.mod m e, h2.mod m hS⟩
          · by_cases e : k = b
            · rw [e]; exact ⟨_, hBw, rfl⟩
            · exact ⟨c', h1.mod m e, h2⟩) (VD.nil (fun w10 e10 h10 => ?_))))))))))))) rfl
      have h8 : us 8 = .int .i64 0 := h10 8
      obtain ⟨bb, y, hb, hbs, hBk, hP⟩ := h10 10
      have e10 := TG.old e10
      rw [hb, h8]
      have hyv : validG (grV y) = true := by rw [hP.v]; exact hpv
      have hyl := hP.n.valid hyv
      have E10 := E6.trans e10
      refine VL.op (R.asI rfl) (VL.nil (V.seq (V.region (VL.op (R.ldA Tryz.isAgg25 Tryz.sizeOf25 rfl rfl ((show RowAt _ _ _ (encGr y) from hBk.rowAt 0 3)) rfl) (VL.callX Tryz.call25 rfl (cheapest_spec y B w10 hP.n.ok hyl (Nat.le_trans hB E10.size) (hT.ext hB E10)) fun x14 w14 h14 e14 => VL.op (R.mvT rfl) (VL.op (R.extr rfl rfl) (VL.op (R.extr rfl rfl) (VL.op (R.extr rfl rfl) (VL.op (R.asS rfl) (VL.op (R.asI rfl) (VL.op (R.asI rfl) (VL.nil (V.seq (V.seq (?_)))))))))))))))
      obtain ⟨_, h14⟩ := h14
      rw [hP.v] at h14
      have k1 : x14.2.2 = 0 := (congrArg Prod.snd h14).trans hc1
      have k2 : x14.2.1 = (chF (partG (grV g) (z.1.getD i default).l).cost (z.1.getD i default).l (repsG (partG (grV g) (z.1.getD i default).l))).2 := (congrArg (fun x => x.1.2) h14).trans hc2
      refine V.region (VL.op (R.mvI rfl) (VL.op (R.lit (R.neq rfl rfl) ((decide_eq_false (fun h => h k1)))) (VL.nil (V.condF rfl (V.skip (V.region (VL.op (R.mvI rfl) (VL.op (R.mvI rfl) (VL.op (R.add rfl rfl (by omega) (by omega)) (VL.op (R.asI rfl) (VL.nil (V.region (VL.op (R.mvI rfl) (VL.op (R.add rfl rfl (by omega) (by omega)) (VL.op (R.asI rfl) (VL.nil (⟨i + 1, by rw [hsucc, ← k2]; rfl, ⟨by omega, e6.trans (e10.trans e14)⟩, by omega⟩)))))))))))))))))
    · have hie : i = z.1.length := by omega
      subst hie
      have hfin : smC (grV g) z.1.length = n := by
        rw [hsum, hzl]
        unfold smC
        rw [List.take_length]
      refine V.region (VL.op (R.mvB rfl) (VL.op (R.mvB rfl) (VL.gT rfl rfl (VL.op (R.mvI rfl) (VL.gT rfl rfl (VL.op (R.mvI rfl) (VL.gT rfl rfl (VL.op (R.lit (R.eql rfl rfl) ((decide_eq_true hfin))) (VL.op (R.pickTB rfl rfl) (VL.op (R.asB rfl) (VL.nil (V.ret (fret1 (v := .bool _) rfl rfl rfl (⟨rfl, E6⟩))))))))))))))
  · have hpe : partsE (grV g) = 1 := by unfold partsE; rw [if_neg hv]
    have hch : cheapG (grV g) = (([], 0), 1) := by unfold cheapG; rw [hpe, if_neg (by decide)]
    rw [hch] at hv4
    have k1 : r4 = 1 := congrArg Prod.snd hv4
    have k2 : b = [] := congrArg (fun x => x.1.1) hv4
    have k3 : n = 0 := congrArg (fun x => x.1.2) hv4
    subst k1 k2 k3
    refine V.region (VL.op (R.mvI rfl) (VL.op (R.lit (R.neq rfl rfl) ((decide_eq_true (by decide)))) (VL.nil (V.condT rfl (V.seq (V.region (VL.op (R.mvB rfl) (VL.op (R.mvB rfl) (VL.gT rfl rfl (VL.op (R.mvS rfl) (VL.gT rfl rfl (VL.op (R.lenS Tryz.runUnderlying22 rfl) (VL.gT rfl rfl (VL.op (R.lit (R.eql rfl rfl) ((decide_eq_true rfl))) (VL.op (R.pickTB rfl rfl) (VL.op (R.mvB rfl) (VL.gT rfl rfl (VL.op (R.mvI rfl) (VL.gT rfl rfl (VL.op (R.lit (R.eql rfl rfl) ((decide_eq_true rfl))) (VL.op (R.pickTB rfl rfl) (VL.op (R.asB rfl) (VL.nil (V.ret (fret1 (v := .bool _) rfl rfl rfl (⟨rfl, E4⟩))))))))))))))))))))))))))
end Go.Proofs.YtlnbkoojelhjdaaGreatDoor
