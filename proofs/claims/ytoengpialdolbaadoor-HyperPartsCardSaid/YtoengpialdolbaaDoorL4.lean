/- Hyper: the walk of law HyperConflicts. -/
import Derived.Test.YtoengpialdolbaaDoorL3
namespace Go.Proofs.YtoengpialdolbaaDoor
open Go.Vc
theorem eqB4 : ∀ a b w, (Op.equal 4 (.bool a) (.bool b)).run Tryd.prog w = .ok (decide (a = b)) w := by
  intro a b w
  show (Op.equalIn (9999 + 1) 4 _ _).run Tryd.prog w = _
  unfold Op.equalIn
  simp [go_sem]
  cases a <;> cases b <;> rfl
theorem makeF_no {n : Int} {cost : List Int} {E : List (List Int)} (h : (makeF n cost E).2 ≠ 0) : (makeF n cost E).1 = default := by
  unfold makeF at h ⊢
  split
  · rename_i h1
    rw [if_pos h1] at h
    split
    · rename_i h2; rw [if_pos h2] at h; exact absurd rfl h
    · rfl
  · rfl
/-- What has been made, whole. -/
theorem GNew.made {w w' : World} {g : GrW} {n : Int} {cost : List Int} {E : List (List Int)} {z : Int} (h : GNew w w' g) (hz : (grV g, z) = makeF n cost E) (h0 : z = 0) (hc : cost.length ≤ 9223372036854775807) : grV g = ⟨n, cost, minF E⟩ ∧ validG (grV g) = true ∧ GLen g ∧ ∀ e ∈ E, e ≠ [] := by
  have h2 : (makeF n cost E).2 = 0 := by rw [← hz]; exact h0
  obtain ⟨k1, k2, k3, k4⟩ := makeF_ok h2
  have hg : grV g = ⟨n, cost, minF E⟩ := by rw [← k1, ← hz]
  refine ⟨hg, by rw [show grV g = (makeF n cost E).1 by rw [← hz]]; exact makeF_valid h2, h.glen hg hc (by dsimp only; omega) ?_, fun e he => (k3 e he).1⟩
  exact List.all_eq_true.2 fun e he => decide_eq_true (minF_inc he).2
theorem free_all {E : List (List Int)} {s : List Int} (hs : Inc s) (hE : ∀ e ∈ E, e ≠ []) : freeF (minF E) s = E.all fun e => !contF s (setF e) := by
  refine Bool.eq_iff_iff.2 ?_
  rw [free_min hs, List.all_eq_true]
  constructor
  · intro h e he
    rw [contF_sub hs (setF_inc e), h e he (hE e he)]; rfl
  · intro h e he _
    have := h e he
    rw [contF_sub hs (setF_inc e)] at this
    simpa using this
set_option maxRecDepth 100000 in
set_option maxHeartbeats 8000000 in
theorem conflicts_law (n : Int) (ca a sa : Option Addr) (cc c sc B : Nat) (cost s : List Int) (E : List SlI) (w : World) (hC : IntSl w ca cost) (hE : LL w a E) (hS : IntSl w sa s) (hcl : cost.length ≤ 9223372036854775807) (hch : ca = none → cc = 0) (hx : EIn E) (hsl : s.length ≤ 9223372036854775807) (hB : B ≤ w.heap.size) (hT : TabW B w) :
    RetsP Tryd.prog 4 #[.int .i64 n, .slice ca cost.length cc, .slice a E.length c, .slice sa s.length sc] w (.bool true) := by
  refine enter (args := [_, _, _, _]) Tryd.func4 rfl Tryd.ntmps4 (by kernel_rfl) rfl ?_
  refine V.seq (V.region (VL.op (R.asB rfl) (VL.nil (V.seq (V.region (VL.callP Tryd.call9 rfl (head_spec B _ hB hT) fun w1_0 e1_0 => VL.op (R.asB rfl) (VL.nil (V.seq (V.seq (V.region (VL.op (R.mvS rfl) (VL.callX Tryd.call10 rfl (few_spec E a c 80 _ (hE.ext e1_0) hx.len) fun b2 w2 h2 e2 => VL.op (R.not rfl) (VL.op (R.mvB rfl) (VL.or rfl rfl (fun g2_3 => VL.op (R.mvS rfl) (VL.gT rfl rfl (VL.op (R.lenS Tryd.runUnderlying27 rfl) (VL.gT rfl rfl (VL.op (R.gtr rfl rfl) (VL.op (R.pickFB rfl rfl) (VL.op (R.mvB rfl) (VL.orP rfl rfl (fun g2_8 => VL.op (R.mvS rfl) (VL.gT rfl rfl (VL.op (R.lenS Tryd.runUnderlying27 rfl) (VL.gT rfl rfl (VL.op (R.gtr rfl rfl) (VL.op (R.pickFB rfl rfl) (VL.nil (V.condP rfl (fun c28 => V.seq (V.region (VL.op (R.mvB rfl) (VL.op (R.asB rfl) (VL.nil (V.ret (fret1 (v := .bool _) rfl rfl rfl (⟨rfl, (e1_0.trans e2)⟩)))))))) (fun c28 => V.skip (V.seq (?_))))))))))) (fun g2_8 => VL.gF rfl rfl (VL.gF rfl rfl (VL.op (R.pickTB rfl rfl) (VL.nil (V.condT rfl (V.seq (V.region (VL.op (R.mvB rfl) (VL.op (R.asB rfl) (VL.nil (V.ret (fret1 (v := .bool _) rfl rfl rfl (⟨rfl, (e1_0.trans e2)⟩))))))))))))))))))))) (fun g2_3 => VL.gF rfl rfl (VL.gF rfl rfl (VL.op (R.pickTB rfl rfl) (VL.op (R.mvB rfl) (VL.gF rfl rfl (VL.gF rfl rfl (VL.gF rfl rfl (VL.op (R.pickTB rfl rfl) (VL.nil (V.condT rfl (V.seq (V.region (VL.op (R.mvB rfl) (VL.op (R.asB rfl) (VL.nil (V.ret (fret1 (v := .bool _) rfl rfl rfl (⟨rfl, (e1_0.trans e2)⟩))))))))))))))))))))))))))))))))
  have hF := h2 (by simpa using g2_3)
  have hF1 := hF.n
  have hs1 : s.length ≤ 100 := by omega
  have E2 := e1_0.trans e2
  have hE2 := hE.ext E2
  refine V.region (VL.op (R.mvI rfl) (VL.op (R.mvS rfl) (VL.op (R.mvS rfl) (VL.callX Tryd.call18 rfl (make_spec n ca a cc c B cost E w2 (hC.ext E2) hE2 hcl hch ⟨by omega, fun x hx' => ⟨by have := hF.e x hx'; omega, (hx.each x hx').2.1⟩⟩ (Nat.le_trans hB E2.size) (hT.ext hB E2)) fun z w4 ⟨hz, hN⟩ e4 => VL.op (R.mvT rfl) (VL.op (R.extr rfl rfl) (VL.op (R.extr rfl rfl) (VL.allocSt (v := .agg (encGr z.1).toArray) Tryd.zeroValue33 Tryd.sizeOf33 rfl rfl rfl rfl rfl fun b4_7 w4_7 hb4_7 e4_7 hB4_7 => VL.op (R.asI rfl) (VL.nil (V.seq (V.seq (V.region (VL.op (R.mvI rfl) (VL.op (R.neq rfl rfl) (VL.nil (V.condP rfl (fun c38 => V.seq (?_)) (fun c38 => V.skip (V.seq (?_))))))))))))))))))
  · have hd : grV z.1 = default := by rw [show grV z.1 = (makeF n cost (vals E)).1 by rw [← hz]]; exact makeF_no (by rw [← hz]; exact c38)
    have hd1 : z.1.n = 0 := congrArg Gr.n hd
    have hd2 : z.1.edges.length = 0 := by have h : (vals z.1.edges).length = (default : Gr).edges.length := congrArg (fun g : Gr => g.edges.length) hd; rw [List.length_map] at h; exact h
    have hb4 : Blk w4_7 b4_7 (.cells (Value.agg (encGr z.1).toArray).cells 33 (0, 0)) := hB4_7
    refine V.region (VL.op (R.mvB rfl) (VL.op (R.mvB rfl) (VL.gT rfl rfl (VL.op (R.fld' (o := 0) Tryd.runUnderlying33 rfl rfl Tryd.sizeOf3 rfl rfl) (VL.gT rfl rfl (VL.op (R.ld1 Tryd.isAgg3 rfl ((show w4_7.cell? ⟨b4_7, 0, none⟩ = some (Value.int .i64 z.1.n) from hb4.cell 0))) (VL.gT rfl rfl (VL.op (R.lit (R.eql rfl rfl) ((decide_eq_true hd1))) (VL.op (R.pickTB rfl rfl) (VL.op (R.mvB rfl) (VL.gT rfl rfl (VL.op (R.fld' (o := 2) Tryd.runUnderlying33 rfl rfl Tryd.sizeOf22 rfl rfl) (VL.gT rfl rfl (VL.op (R.ld1 Tryd.isAgg22 rfl ((show w4_7.cell? ⟨b4_7, 2, none⟩ = some (Value.slice z.1.ea z.1.edges.length z.1.ec) from hb4.cell 2))) (VL.gT rfl rfl (VL.op (R.lenS Tryd.runUnderlying22 rfl) (VL.gT rfl rfl (VL.op (R.lit (R.eql rfl rfl) ((decide_eq_true (by omega)))) (VL.op (R.pickTB rfl rfl) (VL.op (R.asB rfl) (VL.nil (V.ret (fret1 (v := .bool _) rfl rfl rfl (⟨rfl, (E2.trans e4).trans e4_7⟩))))))))))))))))))))))))
  · have h0 : z.2 = 0 := Classical.not_not.1 c38
    obtain ⟨hg, hv, hgl, hne⟩ := hN.made hz h0 hcl
    have E7 := (E2.trans e4).trans e4_7
    have hE7 := hE.ext E7
    have hss := setF_len s
    refine V.region (VL.op (R.mvS rfl) (VL.callX Tryd.call13 rfl (rset_spec sa sc s w4_7 (by omega) (hS.ext E7)) fun s7 w7 hS7 e7 => VL.op (R.asS rfl) (VL.nil (V.seq (V.region (VL.op (R.asB rfl) (VL.nil (V.cut [0, 1, 2, 9, 10, 12, 13] (fun fr : Bool => [.int .i64 n, .slice ca cost.length cc, .slice a E.length c, .bool true, .pointer (some ⟨b4_7, 0, none⟩), .slice s7.1 (setF s).length s7.2, .bool fr]) (fun fr w' => fr = (E.all fun x => !contF (setF s) (setF x.l)) ∧ Ext w7 w') (V.seq (V.region (VL.op (R.asI rfl) (VL.nil (V.block (?_)))))) (fun rgB0 xB0 wBB0 hBB0 => V.seq (?_))))))))))
    · refine V.loop [0, 1, 2, 9, 10, 12, 13, 14] (fun x : Nat × Bool => [.int .i64 n, .slice ca cost.length cc, .slice a E.length c, .bool true, .pointer (some ⟨b4_7, 0, none⟩), .slice s7.1 (setF s).length s7.2, .bool x.2, .int .i64 (x.1 : Nat)]) (fun x w' => x.1 ≤ E.length ∧ x.2 = ((E.take x.1).all fun x => !contF (setF s) (setF x.l)) ∧ Ext w7 w') (fun x => E.length - x.1) (0, true) rfl ⟨Nat.zero_le _, rfl, Vc.Mod.refl _ _⟩ ?_
      rintro ρ ⟨k, fr⟩ w8 ⟨hk, hfr, e8⟩
      dsimp only at hk hfr e8 ⊢
      refine V.seq (V.seq (V.region (VL.op (R.mvI rfl) (VL.op (R.mvS rfl) (VL.op (R.lenS Tryd.runUnderlying22 rfl) (VL.op (R.lss rfl rfl) (VL.nil (V.condP rfl (fun c56 => V.skip (V.seq (V.block (?_)))) (fun c56 => V.exit (?_))))))))))
      · have hkl : k < E.length := by omega
        have hat : ((E.take (k + 1)).all fun x => !contF (setF s) (setF x.l)) = (fr && !contF (setF s) (setF (E.getD k default).l)) := by
          rw [List.take_succ_eq_append_getElem hkl, ← gget hkl, List.all_append, ← hfr]; simp
        have hE8 := (hE7.ext e7).ext e8
        have hke := hF.e _ (gmem hkl)
        have hsl := setF_len (E.getD k default).l
        cases fr with
        | false =>
          refine V.region (VL.op (R.mvB rfl) (VL.op (R.mvB rfl) (VL.gF rfl rfl (VL.gF rfl rfl (VL.gF rfl rfl (VL.gF rfl rfl (VL.gF rfl rfl (VL.gF rfl rfl (VL.gF rfl rfl (VL.gF rfl rfl (VL.op (R.pickFB rfl rfl) (VL.op (R.asB rfl) (VL.nil (V.region (VL.op (R.mvI rfl) (VL.op (R.add rfl rfl (by omega) (by omega)) (VL.op (R.asI rfl) (VL.nil (⟨(k + 1, false), rfl, ⟨by dsimp only; omega, by rw [hat]; rfl, e8⟩, by dsimp only; omega⟩)))))))))))))))))))
        | true =>
          refine V.region (VL.op (R.mvB rfl) (VL.op (R.mvB rfl) (VL.gT rfl rfl (VL.op (R.mvS rfl) (VL.gT rfl rfl (VL.op (R.mvS rfl) (VL.gT rfl rfl (VL.op (R.mvI rfl) (VL.gT rfl rfl (VL.op (R.ixS Tryd.runUnderlying22 Tryd.sizeOf27 rfl rfl (by omega) (by omega) ((hE8.sl).some (i := k) (by omega))) (VL.gT rfl rfl (VL.op (R.ld1 Tryd.isAgg27 rfl (((((hE8.sl).ext (Mod.refl _ _)).row (i := k) (by omega)).cell (i := 0) rfl))) (VL.gT rfl rfl (VL.callX Tryd.call13 rfl (rset_spec (E.getD k default).a (E.getD k default).c (E.getD k default).l w8 (by omega) (hE8.at hkl)) fun s12 w12 hS12 e12 => VL.gT rfl rfl (VL.callP Tryd.call15 rfl (cont_spec s7.1 s12.1 s7.2 s12.2 (setF s) (setF (E.getD k default).l) _ (by omega) (by omega) ((OwnT.sl hS7).ext (e8.trans e12)) (OwnT.sl hS12)) fun w12_8 e12_8 => VL.gT rfl rfl (VL.op (R.not rfl) (VL.op (R.pickTB rfl rfl) (VL.op (R.asB rfl) (VL.nil (V.region (VL.op (R.mvI rfl) (VL.op (R.add rfl rfl (by omega) (by omega)) (VL.op (R.asI rfl) (VL.nil (⟨(k + 1, !contF (setF s) (setF (E.getD k default).l)), rfl, ⟨by dsimp only; omega, by rw [hat]; rfl, e8.trans (e12.trans e12_8)⟩, by dsimp only; omega⟩)))))))))))))))))))))))))
      · have hke : k = E.length := by omega
        subst hke
        rw [List.take_length] at hfr
        exact ⟨fr, rfl, hfr, e8⟩
    · obtain ⟨hfr, e8⟩ := hBB0
      have hNe := e4_7.trans (e7.trans e8)
      have hok : GOk wBB0 z.1 := hN.ok.ext hNe
      have hb : Blk wBB0 b4_7 (.cells (Value.agg (encGr z.1).toArray).cells 33 (0, 0)) := hB4_7.ext (e7.trans e8)
      have Ew := E7.trans (e7.trans e8)
      have hfree : freeF (vals z.1.edges) (setF s) = xB0 := by
        rw [show vals z.1.edges = minF (vals E) from congrArg Gr.edges hg, free_all (setF_inc s) hne, hfr]
        unfold vals; rw [List.all_map]; rfl
      refine V.region (VL.op (R.mvB rfl) (VL.op (R.mvB rfl) (VL.gT rfl rfl (VL.op (R.ldA Tryd.isAgg33 Tryd.sizeOf33 rfl rfl ((show RowAt _ _ _ (encGr z.1) from hb.rowAt 0 3)) rfl) (VL.gT rfl rfl (VL.callP Tryd.call19 rfl ((valid_is z.1 B _ hv hok hgl (Nat.le_trans hB Ew.size) (hT.ext hB Ew))) fun w13_3 e13_3 => VL.op (R.pickTB rfl rfl) (VL.op (R.mvB rfl) (VL.gT rfl rfl (VL.op (R.fld' (o := 0) Tryd.runUnderlying33 rfl rfl Tryd.sizeOf3 rfl rfl) (VL.gT rfl rfl (VL.op (R.ld1 Tryd.isAgg3 rfl ((show _ = some (Value.int .i64 z.1.n) from (hb.ext e13_3).cell 0))) (VL.gT rfl rfl (VL.op (R.mvI rfl) (VL.gT rfl rfl (VL.op (R.lit (R.eql rfl rfl) ((decide_eq_true (congrArg Gr.n hg)))) (VL.op (R.pickTB rfl rfl) (VL.op (R.mvB rfl) (VL.gT rfl rfl (VL.op (R.fld' (o := 1) Tryd.runUnderlying33 rfl rfl Tryd.sizeOf27 rfl rfl) (VL.gT rfl rfl (VL.op (R.ld1 Tryd.isAgg27 rfl ((show _ = some (Value.slice z.1.ca z.1.cost.length z.1.cc) from (hb.ext e13_3).cell 1))) (VL.gT rfl rfl (VL.op (R.mvS rfl) (VL.gT rfl rfl (VL.callP Tryd.call12 rfl ((ints_is z.1.cost cost z.1.ca ca z.1.cc cc _ (congrArg Gr.cost hg) hcl (hok.c.ext e13_3) (hC.ext (Ew.trans e13_3)))) fun w13_15 e13_15 => VL.op (R.pickTB rfl rfl) (VL.op (R.mvB rfl) (VL.gT rfl rfl (VL.op (R.fld' (o := 2) Tryd.runUnderlying33 rfl rfl Tryd.sizeOf22 rfl rfl) (VL.gT rfl rfl (VL.op (R.ld1 Tryd.isAgg22 rfl ((show _ = some (Value.slice z.1.ea z.1.edges.length z.1.ec) from (hb.ext (e13_3.trans e13_15)).cell 2))) (VL.gT rfl rfl (VL.op (R.mvS rfl) (VL.gT rfl rfl (VL.callP Tryd.call16 rfl (free_spec z.1.edges z.1.ea s7.1 z.1.ec s7.2 (setF s) _ hgl.e (fun x hx => Nat.le_trans (hN.each x hx).2 (by decide)) (by omega) (hok.e.ext (e13_3.trans e13_15)) ((OwnT.sl hS7).ext (e8.trans (e13_3.trans e13_15)))) fun w13_21 e13_21 => VL.gT rfl rfl (VL.op (R.mvB rfl) (VL.gT rfl rfl (VL.op (R.lit (R.eqlB eqB4 rfl rfl) ((decide_eq_true hfree))) (VL.op (R.pickTB rfl rfl) (VL.op (R.asB rfl) (VL.nil (V.ret (fret1 (v := .bool _) rfl rfl rfl (⟨rfl, Ew.trans ((e13_3.trans e13_15).trans e13_21)⟩)))))))))))))))))))))))))))))))))))))))))))
end Go.Proofs.YtoengpialdolbaaDoor
