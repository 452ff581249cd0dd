/- Hyper: the walk of law HyperMatchesReference. -/
import Derived.Test.YtoengpialdolbaaGreatDoorQ3
import Derived.Test.YtoengpialdolbaaGreatDoorQ4
import Derived.Test.YtoengpialdolbaaGreatDoorQ5
import Derived.Test.YtoengpialdolbaaGreatDoorQ6
import Derived.Test.YtoengpialdolbaaGreatDoorVcDep
import Derived.Test.YtoengpialdolbaaGreatDoorL5
namespace Go.Proofs.YtoengpialdolbaaGreatDoor
open Go.Vc
theorem GNew.lens {w w' : World} {g : GrW} {G : Gr × Int} {z : Int} (h : GNew w w' g) (hz : (grV g, z) = G) (hc : G.1.cost.length ≤ 9223372036854775807) (he : G.1.edges.length ≤ 9223372036854775807) : g.cost.length ≤ 9223372036854775807 ∧ g.edges.length ≤ 9223372036854775807 := by
  subst hz
  exact ⟨hc, by simpa [grV, vals] using he⟩
theorem partF_lens (g : Gr) (vs : List Int) : (partF g vs).1.cost.length ≤ vs.length ∧ (partF g vs).1.edges.length ≤ g.edges.length := by
  unfold partF
  split
  · unfold partG
    exact ⟨by rw [List.length_map]; exact Nat.le_refl _, by rw [List.length_map]; exact List.length_filter_le _ _⟩
  · exact ⟨Nat.zero_le _, Nat.zero_le _⟩
theorem fixF_lens (g : Gr) : (fixF g).1.length ≤ g.n.toNat ∧ (fixF g).2.length ≤ g.n.toNat := by
  unfold fixF
  split
  · exact ⟨filt_len _ _, filt_len _ _⟩
  · exact ⟨Nat.zero_le _, Nat.zero_le _⟩
theorem pick_true {P : Program} {ρ : Env} {w : World} {ty : TypeId} {a b c : Operand} {v : Bool} (hc : tm ρ c = .bool true) (ha : tm ρ a = .bool v) : run1 P ρ (.pick c a b) ty w = .ok (.value (.bool v)) w := R.pickTB hc ha
set_option maxRecDepth 100000 in
set_option maxHeartbeats 16000000 in
theorem matches_law (g : GrW) (n : Int) (ca a va : Option Addr) (cc c vc B : Nat) (cost vs : List Int) (E : List SlI) (w : World) (hI : GIn w g) (hC : IntSl w ca cost) (hE : LL w a E) (hV : IntSl w va vs) (hcl : cost.length ≤ 9223372036854775807) (hch : ca = none → cc = 0) (hx : EIn E) (hvl : vs.length ≤ 9223372036854775807) (hB : B ≤ w.heap.size) (hT : TabW B w) :
    RetsP Tryz.prog 3 #[.agg (encGr g).toArray, .int .i64 n, .slice ca cost.length cc, .slice a E.length c, .slice va vs.length vc] w (.bool true) := by
  have hG := hI.ok
  refine enter (args := [_, _, _, _, _]) Tryz.func3 rfl Tryz.ntmps3 (by kernel_rfl) rfl ?_
  refine V.seq (V.region (VL.box (v := .agg _) rfl fun b0_0 w0_0 hb0_0 e0_0 hB0_0 => VL.op (R.asB rfl) (VL.nil (V.seq (V.region (VL.callP Tryz.call4 rfl (head_spec B _ (Nat.le_trans hB (e0_0).size) (hT.ext hB e0_0)) fun w1_0 e1_0 => VL.op (R.asB rfl) (VL.nil (V.seq (V.seq (V.region (VL.op (R.ldA Tryz.isAgg25 Tryz.sizeOf25 rfl rfl ((show RowAt _ _ _ (encGr g) from ((hB0_0.ext e1_0).rowAt 0 3))) rfl) (VL.callX Tryz.call5 rfl (small_spec g 100 80 _ (hG.ext (e0_0.trans e1_0)) hI.c hI.e.len) fun b2 w2 h2 e2 => VL.op (R.not rfl) (VL.op (R.mvB rfl) (VL.or rfl rfl (fun g2_3 => VL.op (R.mvS rfl) (VL.gT rfl rfl (VL.callX Tryz.call6 rfl (few_spec E a c 80 _ (hE.ext ((e0_0.trans e1_0).trans e2)) hx.len) fun b5 w5 h5 e5 => VL.gT rfl rfl (VL.op (R.not rfl) (VL.op (R.pickFB rfl rfl) (VL.op (R.mvB rfl) (VL.or rfl rfl (fun g2_8 => VL.op (R.mvS rfl) (VL.gT rfl rfl (VL.op (R.lenS Tryz.runUnderlying22 rfl) (VL.gT rfl rfl (VL.op (R.gtr rfl rfl) (VL.op (R.pickFB rfl rfl) (VL.op (R.mvB rfl) (VL.orP rfl rfl (fun g2_13 => VL.op (R.mvS rfl) (VL.gT rfl rfl (VL.op (R.lenS Tryz.runUnderlying22 rfl) (VL.gT rfl rfl (VL.op (R.gtr rfl rfl) (VL.op (R.pickFB rfl rfl) (VL.nil (V.condP rfl (fun c43 => V.seq (V.region (VL.op (R.mvB rfl) (VL.op (R.asB rfl) (VL.nil (V.ret (fret1 (v := .bool _) rfl rfl rfl (⟨rfl, (((e0_0.trans e1_0).trans e2).trans e5)⟩)))))))) (fun c43 => V.skip (V.seq (?_))))))))))) (fun g2_13 => VL.gF rfl rfl (VL.gF rfl rfl (VL.op (R.pickTB rfl rfl) (VL.nil (V.condT rfl (V.seq (V.region (VL.op (R.mvB rfl) (VL.op (R.asB rfl) (VL.nil (V.ret (fret1 (v := .bool _) rfl rfl rfl (⟨rfl, (((e0_0.trans e1_0).trans e2).trans e5)⟩))))))))))))))))))))) (fun g2_8 => VL.gF rfl rfl (VL.gF rfl rfl (VL.op (R.pickTB rfl rfl) (VL.op (R.mvB rfl) (VL.gF rfl rfl (VL.gF rfl rfl (VL.gF rfl rfl (VL.op (R.pickTB rfl rfl) (VL.nil (V.condT rfl (V.seq (V.region (VL.op (R.mvB rfl) (VL.op (R.asB rfl) (VL.nil (V.ret (fret1 (v := .bool _) rfl rfl rfl (⟨rfl, (((e0_0.trans e1_0).trans e2).trans e5)⟩))))))))))))))))))))))))) (fun g2_3 => VL.gF rfl rfl (VL.gF rfl rfl (VL.op (R.pickTB rfl rfl) (VL.op (R.mvB rfl) (VL.gF rfl rfl (VL.gF rfl rfl (VL.gF rfl rfl (VL.op (R.pickTB rfl rfl) (VL.op (R.mvB rfl) (VL.gF rfl rfl (VL.gF rfl rfl (VL.gF rfl rfl (VL.op (R.pickTB rfl rfl) (VL.nil (V.condT rfl (V.seq (V.region (VL.op (R.mvB rfl) (VL.op (R.asB rfl) (VL.nil (V.ret (fret1 (v := .bool _) rfl rfl rfl (⟨rfl, ((e0_0.trans e1_0).trans e2)⟩)))))))))))))))))))))))))))))))))))))
  have hsm := h2 (by simpa using g2_3)
  have hF := hsm.2.2
  have hFn := hF.n
  have hgl := hI.glen hF
  have hF5 := h5 (by simpa using g2_8)
  have hF5n := hF5.n
  have hcl1 : cost.length ≤ 100 := by omega
  have hvl1 : vs.length ≤ 100 := by omega
  have E5 := e0_0.trans (e1_0.trans (e2.trans e5))
  have hb5 : Blk w5 b0_0 (.cells (Value.agg (encGr g).toArray).cells 25 (0, 0)) := hB0_0.ext (e1_0.trans (e2.trans e5))
  have hEL : ELen E := ⟨by omega, fun x hx' => ⟨by have := hF5.e x hx'; omega, (hx.each x hx').2.1⟩⟩
  have hmk := makeF_lens n cost (vals E)
  have hcg : (grV g).cost.length ≤ 9223372036854775807 := hI.c
  refine V.region (VL.op (R.mvI rfl) (VL.op (R.mvS rfl) (VL.op (R.mvS rfl) (VL.callX Tryz.call7 rfl (make_spec n ca a cc c B cost E w5 (hC.ext E5) (hE.ext E5) hcl hch hEL (Nat.le_trans hB E5.size) (hT.ext hB E5)) fun z1 w4 ⟨hz1, hN1⟩ e4 => VL.op (R.mvT rfl) (VL.op (R.extr rfl rfl) (VL.op (R.extr rfl rfl) (VL.allocSt (v := .agg (encGr z1.1).toArray) Tryz.zeroValue25 Tryz.sizeOf25 rfl rfl rfl rfl rfl fun b4_7 w4_7 hb4_7 e4_7 hB4_7 => VL.op (R.asI rfl) (VL.nil (V.seq (V.region (VL.op (R.mvI rfl) (VL.op (R.mvS rfl) (VL.op (R.mvS rfl) (VL.callX Tryz.call8 rfl (rmake_spec n ca a cc c cost E _ (hC.ext (E5.trans (e4.trans e4_7))) (hE.ext (E5.trans (e4.trans e4_7))) (by omega) hch hEL) fun z2 w6 ⟨hz2, hN2⟩ e6 => VL.op (R.mvT rfl) (VL.op (R.extr rfl rfl) (VL.op (R.extr rfl rfl) (VL.allocSt (v := .agg (encGr z2.1).toArray) Tryz.zeroValue25 Tryz.sizeOf25 rfl rfl rfl rfl rfl fun b5_7 w5_7 hb5_7 e5_7 hB5_7 => VL.op (R.asI rfl) (VL.nil (V.seq (V.region (VL.op (R.ldA Tryz.isAgg25 Tryz.sizeOf25 rfl rfl ((show RowAt _ _ _ (encGr g) from (hb5.ext (((e4.trans e4_7).trans e6).trans e5_7)).rowAt 0 3)) rfl) (VL.op (R.mvS rfl) (VL.callX Tryz.call9 rfl (part_spec g va vc vs B _ (hG.ext (E5.trans (((e4.trans e4_7).trans e6).trans e5_7))) hgl (hV.ext (E5.trans (((e4.trans e4_7).trans e6).trans e5_7))) hvl (Nat.le_trans hB (E5.trans (((e4.trans e4_7).trans e6).trans e5_7)).size) (hT.ext hB (E5.trans (((e4.trans e4_7).trans e6).trans e5_7)))) fun z3 w7 ⟨hz3, hN3, _⟩ e7 => VL.op (R.mvT rfl) (VL.op (R.extr rfl rfl) (VL.op (R.extr rfl rfl) (VL.allocSt (v := .agg (encGr z3.1).toArray) Tryz.zeroValue25 Tryz.sizeOf25 rfl rfl rfl rfl rfl fun b6_6 w6_6 hb6_6 e6_6 hB6_6 => VL.op (R.asI rfl) (VL.nil (V.seq (V.region (VL.op (R.ldA Tryz.isAgg25 Tryz.sizeOf25 rfl rfl ((show RowAt _ _ _ (encGr g) from (hb5.ext (((((e4.trans e4_7).trans e6).trans e5_7).trans e7).trans e6_6)).rowAt 0 3)) rfl) (VL.op (R.mvS rfl) (VL.callX Tryz.call10 rfl (rpart_spec g va vc vs _ (hG.ext (E5.trans (((((e4.trans e4_7).trans e6).trans e5_7).trans e7).trans e6_6))) hgl (hV.ext (E5.trans (((((e4.trans e4_7).trans e6).trans e5_7).trans e7).trans e6_6))) hvl) fun z4 w8 ⟨hz4, hN4⟩ e8 => VL.op (R.mvT rfl) (VL.op (R.extr rfl rfl) (VL.op (R.extr rfl rfl) (VL.allocSt (v := .agg (encGr z4.1).toArray) Tryz.zeroValue25 Tryz.sizeOf25 rfl rfl rfl rfl rfl fun b7_6 w7_6 hb7_6 e7_6 hB7_6 => VL.op (R.asI rfl) (VL.nil (V.seq (V.region (VL.op (R.ldA Tryz.isAgg25 Tryz.sizeOf25 rfl rfl ((show RowAt _ _ _ (encGr g) from (hb5.ext (((((((e4.trans e4_7).trans e6).trans e5_7).trans e7).trans e6_6).trans e8).trans e7_6)).rowAt 0 3)) rfl) (VL.callX Tryz.call11 rfl (fixed_spec g B _ (hG.ext (E5.trans (((((((e4.trans e4_7).trans e6).trans e5_7).trans e7).trans e6_6).trans e8).trans e7_6))) hgl (Nat.le_trans hB (E5.trans (((((((e4.trans e4_7).trans e6).trans e5_7).trans e7).trans e6_6).trans e8).trans e7_6)).size) (hT.ext hB (E5.trans (((((((e4.trans e4_7).trans e6).trans e5_7).trans e7).trans e6_6).trans e8).trans e7_6)))) fun z5 w9 ⟨hz5, hA5, hB5⟩ e9 => VL.op (R.mvT rfl) (VL.op (R.extr rfl rfl) (VL.op (R.extr rfl rfl) (VL.op (R.asS rfl) (VL.op (R.asS rfl) (VL.nil (V.seq (V.region (VL.op (R.ldA Tryz.isAgg25 Tryz.sizeOf25 rfl rfl ((show RowAt _ _ _ (encGr g) from (hb5.ext ((((((((e4.trans e4_7).trans e6).trans e5_7).trans e7).trans e6_6).trans e8).trans e7_6).trans e9)).rowAt 0 3)) rfl) (VL.callX Tryz.call12 rfl (rfixed_spec g _ (hG.ext (E5.trans ((((((((e4.trans e4_7).trans e6).trans e5_7).trans e7).trans e6_6).trans e8).trans e7_6).trans e9))) hgl) fun z6 w10 ⟨hz6, hA6, hB6⟩ e10 => VL.op (R.mvT rfl) (VL.op (R.extr rfl rfl) (VL.op (R.extr rfl rfl) (VL.op (R.asS rfl) (VL.op (R.asS rfl) (VL.nil (V.seq (?_))))))))))))))))))))))))))))))))))))))))))))))))))))))))
  have hb10 : Blk w10 b0_0 (.cells (Value.agg (encGr g).toArray).cells 25 (0, 0)) := hb5.ext (e4.trans (e4_7.trans (e6.trans (e5_7.trans (e7.trans (e6_6.trans (e8.trans (e7_6.trans (e9.trans e10)))))))))
  have E10 := E5.trans (e4.trans (e4_7.trans (e6.trans (e5_7.trans (e7.trans (e6_6.trans (e8.trans (e7_6.trans (e9.trans e10)))))))))
  have k1 : Blk w10 b4_7 (.cells (Value.agg (encGr z1.1).toArray).cells 25 (0, 0)) := hB4_7.ext (e6.trans (e5_7.trans (e7.trans (e6_6.trans (e8.trans (e7_6.trans (e9.trans e10)))))))
  have k2 : Blk w10 b5_7 (.cells (Value.agg (encGr z2.1).toArray).cells 25 (0, 0)) := hB5_7.ext (e7.trans (e6_6.trans (e8.trans (e7_6.trans (e9.trans e10)))))
  have k3 : Blk w10 b6_6 (.cells (Value.agg (encGr z3.1).toArray).cells 25 (0, 0)) := hB6_6.ext (e8.trans (e7_6.trans (e9.trans e10)))
  have k4 : Blk w10 b7_6 (.cells (Value.agg (encGr z4.1).toArray).cells 25 (0, 0)) := hB7_6.ext (e9.trans e10)
  have ok1 := hN1.ok.ext (e4_7.trans (e6.trans (e5_7.trans (e7.trans (e6_6.trans (e8.trans (e7_6.trans (e9.trans e10))))))))
  have ok2 := hN2.ok.ext (e5_7.trans (e7.trans (e6_6.trans (e8.trans (e7_6.trans (e9.trans e10))))))
  have ok3 := hN3.ok.ext (e6_6.trans (e8.trans (e7_6.trans (e9.trans e10))))
  have ok4 := hN4.ok.ext (e7_6.trans (e9.trans e10))
  have l1 := hN1.lens hz1 (Nat.le_trans hmk.1 hcl) (Nat.le_trans hmk.2 (by decide))
  have hpl := partF_lens (grV g) vs
  have hgE : (grV g).edges.length = g.edges.length := by simp [grV, vals]
  have l3 := hN3.lens hz3 (Nat.le_trans hpl.1 hvl) (by omega)
  have hfl := fixF_lens (grV g)
  have hgn : (grV g).n.toNat ≤ 100 := by have h := hsm.1; have h2 : (grV g).n = g.n := rfl; omega
  have hf1 : z6.1.l.length ≤ 9223372036854775807 := by have h := congrArg (fun x : List Int × List Int => x.1.length) hz6; dsimp only at h; omega
  have hf2 : z6.2.l.length ≤ 9223372036854775807 := by have h := congrArg (fun x : List Int × List Int => x.2.length) hz6; dsimp only at h; omega
  refine V.region (VL.op (R.mvI rfl) (VL.op (R.mvI rfl) (VL.op (R.lit (R.eql rfl rfl) ((decide_eq_true ((congrArg Prod.snd hz1).trans (congrArg Prod.snd hz2).symm)))) (VL.op (R.mvB rfl) (VL.gT rfl rfl (VL.op (R.ldA Tryz.isAgg25 Tryz.sizeOf25 rfl rfl ((show RowAt _ _ _ (encGr z1.1) from k1.rowAt 0 3)) rfl) (VL.gT rfl rfl (VL.op (R.ldA Tryz.isAgg25 Tryz.sizeOf25 rfl rfl ((show RowAt _ _ _ (encGr z2.1) from k2.rowAt 0 3)) rfl) (VL.gT rfl rfl (VL.callP Tryz.call13 rfl ((same_is z1.1 z2.1 _ w w ok1 ok2 ((congrArg Prod.fst hz1).trans (congrArg Prod.fst hz2).symm) (.inr trivial) l1.1 l1.2 (fun x hx => (hN1.each x hx).2) (fun x hx => (hN2.each x hx).2))) fun w10_6 e10_6 => VL.op (R.pickTB rfl rfl) (VL.op (R.mvB rfl) (VL.gT rfl rfl (VL.op (R.mvI rfl) (VL.gT rfl rfl (VL.op (R.mvI rfl) (VL.gT rfl rfl (VL.op (R.lit (R.eql rfl rfl) ((decide_eq_true ((congrArg Prod.snd hz3).trans (congrArg Prod.snd hz4).symm)))) (VL.op (R.pickTB rfl rfl) (VL.op (R.mvB rfl) (VL.gT rfl rfl (VL.op (R.ldA Tryz.isAgg25 Tryz.sizeOf25 rfl rfl ((show RowAt _ _ _ (encGr z3.1) from (k3.ext e10_6).rowAt 0 3)) rfl) (VL.gT rfl rfl (VL.op (R.ldA Tryz.isAgg25 Tryz.sizeOf25 rfl rfl ((show RowAt _ _ _ (encGr z4.1) from (k4.ext e10_6).rowAt 0 3)) rfl) (VL.gT rfl rfl (VL.callP Tryz.call13 rfl ((same_is z3.1 z4.1 _ w w (ok3.ext e10_6) (ok4.ext e10_6) ((congrArg Prod.fst hz3).trans (congrArg Prod.fst hz4).symm) (.inr trivial) l3.1 l3.2 (fun x hx => (hN3.each x hx).2) (fun x hx => (hN4.each x hx).2))) fun w10_16 e10_16 => VL.op (R.pickTB rfl rfl) (VL.op (R.mvB rfl) (VL.gT rfl rfl (VL.op (R.mvS rfl) (VL.gT rfl rfl (VL.op (R.mvS rfl) (VL.gT rfl rfl (VL.callP Tryz.call14 rfl ((ints_is z5.1.l z6.1.l z5.1.a z6.1.a z5.1.c z6.1.c _ ((congrArg Prod.fst hz5).trans (congrArg Prod.fst hz6).symm) hf1 ((hA5.1.ext e10).ext (e10_6.trans e10_16)) (hA6.ext (e10_6.trans e10_16)))) fun w10_21 e10_21 => VL.op (R.pickTB rfl rfl) (VL.op (R.mvB rfl) (VL.gT rfl rfl (VL.op (R.mvS rfl) (VL.gT rfl rfl (VL.op (R.mvS rfl) (VL.gT rfl rfl (VL.callP Tryz.call14 rfl ((ints_is z5.2.l z6.2.l z5.2.a z6.2.a z5.2.c z6.2.c _ ((congrArg Prod.snd hz5).trans (congrArg Prod.snd hz6).symm) hf2 ((hB5.ext e10).ext ((e10_6.trans e10_16).trans e10_21)) (hB6.ext ((e10_6.trans e10_16).trans e10_21)))) fun w10_26 e10_26 => VL.op (R.pickTB rfl rfl) (VL.op (R.asB rfl) (VL.nil (V.seq (?_)))))))))))))))))))))))))))))))))))))))))))
  have eR : Ext w10 w10_26 := e10_6.trans (e10_16.trans (e10_21.trans e10_26))
  have hb11 := hb10.ext eR
  have E11 := E10.trans eR
  have hG11 := hG.ext E11
  have hE11 := hE.ext E11
  have hrow : ∀ {wq : World}, Ext w10_26 wq → RowAt wq b0_0 0 (encGr g) := fun e => (hb11.ext e).rowAt 0 3
  refine V.regionD (T := Ext) mixed 22 (by kernel_rfl) rfl (fun us => VD.op (fun wq eq => R.mvB rfl) (VD.op (fun wq eq => R.mvB rfl) (VD.gT rfl rfl (VD.op (fun wq eq => R.mvB rfl) (VD.op (fun wq eq => R.pickTB rfl rfl) (VD.op (fun wq eq => R.mvB rfl) (VD.gT rfl rfl (VD.op (fun wq eq => R.ldA Tryz.isAgg25 Tryz.sizeOf25 rfl rfl ((hrow eq)) rfl) (VD.gT rfl rfl (VD.callP Tryz.call15 rfl (fun wq eq => valid_spec g B wq (hG11.ext eq) hgl (Nat.le_trans hB (E11.trans eq).size) (hT.ext hB (E11.trans eq))) (VD.gT rfl rfl (VD.op (fun wq eq => R.ldA Tryz.isAgg25 Tryz.sizeOf25 rfl rfl ((hrow eq)) rfl) (VD.gT rfl rfl (VD.callP Tryz.call16 rfl (fun wq eq => rvalid_spec g wq (hG11.ext eq) hgl) (VD.gT rfl rfl (VD.op (fun wq eq => R.lit (R.eqlB eqB4 rfl rfl) ((decide_eq_true rfl))) (VD.op (fun wq eq => R.pickTB rfl rfl) (VD.op (fun wq eq => R.mvB rfl) (VD.gT rfl rfl (VD.op (fun wq eq => R.mvS rfl) (VD.gT rfl rfl (VD.callX (fun _ => fun u w' => ∃ z : List SlI × Option Addr × Nat, u = .slice z.2.1 z.1.length z.2.2 ∧ vals z.1 = minF (vals E) ∧ LL w' z.2.1 z.1 ∧ z.1.length ≤ 1000000 ∧ ∀ x ∈ z.1, x.l.length ≤ 1000000) (DepS.const _) (fun u x y _ ⟨z, h1, h2, h3, h4⟩ eb => ⟨z, h1, h2, h3.ext eb, h4⟩) Tryz.call18 rfl (fun wq eq hq => by
      refine Rets.mono (minimal_spec a c B E wq (by omega) (hE11.ext eq) (fun x hx' => ⟨by have := hF5.e x hx'; omega, (hx.each x hx').2.1, (hx.each x hx').2.2⟩) (Nat.le_trans hB (E11.trans eq).size) (hT.ext hB (E11.trans eq))) ?_
      rintro u w' ⟨z, hu, ⟨h1, h2, _, _, h5, _⟩, he⟩
      exact ⟨⟨z, hu, h1, h2, by have := h5.1; omega, h5.2⟩, he⟩) (VD.gT rfl rfl (VD.op (fun wq eq => R.mvS rfl) (VD.gT rfl rfl (VD.callX (fun _ => fun u w' => ∃ z : List SlI × Option Addr × Nat, u = .slice z.2.1 z.1.length z.2.2 ∧ vals z.1 = minF (vals E) ∧ LL w' z.2.1 z.1 ∧ z.1.length ≤ 1000000 ∧ ∀ x ∈ z.1, x.l.length ≤ 1000000) (DepS.const _) (fun u x y _ ⟨z, h1, h2, h3, h4⟩ eb => ⟨z, h1, h2, h3.ext eb, h4⟩) Tryz.call19 rfl (fun wq eq hq => by
      refine Rets.mono (rminimal_spec a c E wq (by omega) (hE11.ext eq) (fun x hx' => by have := hF5.e x hx'; omega)) ?_
      rintro u w' ⟨z, hu, ⟨h1, h2, _, h5, _⟩, he⟩
      exact ⟨⟨z, hu, h1, h2, by have := h5.1; omega, h5.2⟩, he⟩) (VD.gT rfl rfl (VD.callX (fun _ => fun u _ => u = .bool true) (DepS.const _) (fun u x y _ h eb => h) Tryz.call17 rfl (fun wq eq hq => by
      obtain ⟨p, hp, p1, p2, p3, p4⟩ := hq 13 (by kernel_rfl)
      obtain ⟨q, hqq, q1, q2, q3, q4⟩ := hq 15 (by kernel_rfl)
      rw [show us 13 = _ from hp, show us 15 = _ from hqq]
      exact sets_is p.1 q.1 p.2.1 q.2.1 p.2.2 q.2.2 wq (p1.trans q1.symm) (by omega) (fun x hx => Nat.le_trans (p4 x hx) (by decide)) (fun x hx => Nat.le_trans (q4 x hx) (by decide)) p2 q2) (VD.spec (fun _ => fun u _ => u = .bool true) (DepS.const _) (fun u x y _ h eb => h) rfl (fun wq eq hq => by
      have h := hq 16 (by kernel_rfl)
      exact yieldsR_op (pick_true rfl h) ⟨rfl, Turn.refl _⟩) (VD.spec (fun _ => fun u _ => u = .bool true) (DepS.const _) (fun u x y _ h eb => h) rfl (fun wq eq hq => by
      have h := hq 17 (by kernel_rfl)
      exact yieldsR_op (R.mv h) ⟨rfl, Turn.refl _⟩) (VD.specG (fun _ => fun u _ => u = .agg (encGr g).toArray) (DepS.const _) (fun u x y _ h eb => h) (fun wq eq hq => wanted_of rfl (hq 18 (by kernel_rfl))) (fun wq eq hq => yieldsR_op (R.ldA Tryz.isAgg25 Tryz.sizeOf25 rfl rfl (hrow eq) rfl) ⟨rfl, Turn.refl _⟩) (VD.specG (fun _ => fun u w' => ∃ z : List SlI × Option Addr × Nat, u = .slice z.2.1 z.1.length z.2.2 ∧ vals z.1 = compsG (grV g) ∧ LL w' z.2.1 z.1) (DepS.const _) (fun u x y _ ⟨z, h1, h2, h3⟩ eb => ⟨z, h1, h2, h3.ext eb⟩) (fun wq eq hq => wanted_of rfl (hq 18 (by kernel_rfl))) (fun wq eq hq => by
      have h := hq 19 (by kernel_rfl)
      refine yieldsR_call (vs := [Value.agg (encGr g).toArray]) Tryz.call20 ?_ ?_
      · exact congrArg (fun v => [v]) h
      · refine Rets.mono (comps_spec g B wq (hG11.ext eq) hgl (Nat.le_trans hB (E11.trans eq).size) (hT.ext hB (E11.trans eq))) ?_
        rintro u w' ⟨z, hu, ⟨h1, h2⟩, he⟩
        exact ⟨⟨z, hu, h1, h2⟩, he⟩) (VD.specG (fun _ => fun u _ => u = .agg (encGr g).toArray) (DepS.const _) (fun u x y _ h eb => h) (fun wq eq hq => wanted_of rfl (hq 18 (by kernel_rfl))) (fun wq eq hq => yieldsR_op (R.ldA Tryz.isAgg25 Tryz.sizeOf25 rfl rfl (hrow eq) rfl) ⟨rfl, Turn.refl _⟩) (VD.nil (fun w12 e12 h12 => ?_))))))))))))))))))))))))))))))))))) rfl
  obtain ⟨y, hy, y1, y2⟩ := h12 20
  have h18 : us 18 = .bool true := h12 18
  have h21 : us 21 = .agg (encGr g).toArray := h12 21
  rw [hy, h18, h21]
  have hcb : ∀ {z : List SlI}, vals z = compsG (grV g) → z.length ≤ 9223372036854775807 ∧ ∀ x ∈ z, x.l.length ≤ 9223372036854775807 := fun {z} h => by
    have key : (compsG (grV g)).length ≤ 100 ∧ ∀ e ∈ compsG (grV g), e.length ≤ 100 := by
      unfold compsG
      split
      · refine ⟨by rw [grpsK_len]; exact Nat.le_trans (hdsK_len _ _) hgn, fun e he => ?_⟩
        obtain ⟨hh, _, rfl⟩ := List.mem_map.1 he
        exact Nat.le_trans (memsK_len _ _ _) hgn
      · exact ⟨Nat.zero_le _, fun e he => by cases he⟩
    rw [← h, List.length_map] at key
    exact ⟨by have := key.1; omega, fun x hx => by have := key.2 _ (List.mem_map_of_mem hx); omega⟩
  refine VL.gT rfl rfl (VL.callX Tryz.call21 rfl (rcomps_spec g w12 (hG11.ext e12) hgl) fun z w13 ⟨hz, hL⟩ e13 => VL.gT rfl rfl (VL.callP Tryz.call17 rfl ((sets_is y.1 z.1 y.2.1 z.2.1 y.2.2 z.2.2 _ (y1.trans hz.symm) (hcb hz).1 (hcb y1).2 (hcb hz).2 (y2.ext e13) hL)) fun w11_23 e11_23 => VL.op (R.pickTB rfl rfl) (VL.op (R.asB rfl) (VL.nil (V.ret (fret1 (v := .bool _) rfl rfl rfl (⟨rfl, E11.trans (e12.trans (e13.trans e11_23))⟩)))))))
end Go.Proofs.YtoengpialdolbaaGreatDoor
