/- Bond: the fixed examples: head. -/
import Derived.Test.YtlefkkelohhnkaaB21
namespace Go.Proofs.Ytlefkkelohhnkaa
open Go.Vc

theorem bind_is {recs : List Rec} {l : List Dec} {h : List Int} {p : List (Int × Int)} (hh : hds (hdR recs l) recs.length = h) (hp : bndP recs l = p) (ra la : Option Addr) (rc lc : Nat) (w : World) (hm1 : recs.length ≤ 1000000) (hm2 : l.length ≤ 1000000) (hR : RecSl w ra recs) (hL : DecSl w la l) :
    RetsX Try.prog 11 #[.slice ra recs.length rc, .slice la l.length lc] w (fun x : (Option Addr × Nat) × (Option Addr × Nat) => .tuple #[.slice x.1.1 h.length x.1.2, .slice x.2.1 p.length x.2.2]) (fun x w' => IntSl w' x.1.1 h ∧ PrSl w' x.2.1 p) := by
  subst hh; subst hp
  refine Rets.mono (bind_spec recs l ra la rc lc w hm1 hm2 hR hL) ?_
  rintro u w' ⟨x, rfl, hB, e⟩
  exact ⟨x, by rw [hds_len], ⟨hB.hd.sl, hB.pr⟩, e⟩
theorem contra_is {recs : List Rec} {l : List Dec} {p : List (Int × Int)} (hp : conP recs l = p) (ra la : Option Addr) (rc lc : Nat) (w : World) (hm1 : recs.length ≤ 1000000) (hm2 : l.length ≤ 1000000) (hR : RecSl w ra recs) (hL : DecSl w la l) :
    RetsX Try.prog 18 #[.slice ra recs.length rc, .slice la l.length lc] w (fun x : Option Addr × Nat => .slice x.1 p.length x.2) (fun x w' => PrSl w' x.1 p) := hp ▸ contra_spec recs l ra la rc lc w hm1 hm2 hR hL
theorem effective_is {l r : List Dec} (hv : effL l = r) (a : Option Addr) (ca : Nat) (w : World) (hm : l.length ≤ 1000000) (hS : DecSl w a l) :
    RetsX Try.prog 16 #[.slice a l.length ca] w (fun x : Option Addr × Nat => .slice x.1 r.length x.2) (fun x w' => DecSl w' x.1 r) := by
  subst hv
  refine Rets.mono (effective_spec a ca l w hm hS) ?_
  rintro u w' ⟨x, rfl, ⟨h, _⟩, e⟩
  exact ⟨x, rfl, h, e⟩
theorem hH2 : hds (hdR smp [dcS 1 0 2, dcS 1 2 3, dcS 2 1 3]) smp.length = [0, 1, 0, 0] := by decide +kernel
theorem hP2 : bndP smp [dcS 1 0 2, dcS 1 2 3, dcS 2 1 3] = [(0, 1)] := by decide +kernel
theorem hH3 : hds (hdR smp [dcS 1 0 2, dcS 2 0 2]) smp.length = [0, 1, 2, 3] := by decide +kernel
theorem hP3 : bndP smp [dcS 1 0 2, dcS 2 0 2] = [(0, 2)] := by decide +kernel
theorem hH4 : hds (hdR smp [dcS 1 0 2, dcS 1 2 3, dcS 2 0 3]) smp.length = [0, 1, 0, 0] := by decide +kernel
theorem hP4 : bndP smp [dcS 1 0 2, dcS 1 2 3, dcS 2 0 3] = [] := by decide +kernel
theorem hC5 : conP smp [dcS 1 0 2, dcS 1 2 3, dcS 2 0 3] = [(0, 3)] := by decide +kernel
theorem hE6 : effL [dcS 1 0 2, dcS 3 0 2, dcS 2 0 1] = [dcS 2 0 1] := by decide +kernel
set_option maxHeartbeats 4000000 in
theorem lhead_spec (w : World) : RetsP Try.prog 9 #[] w (.bool true) := by
  refine enter (args := []) Try.func9 rfl Try.ntmps9 (by kernel_rfl) rfl ?_
  refine V.seq (V.region (VL.op (R.asB rfl) (VL.nil (V.seq (V.region (VL.callX Try.call24 rfl (sample_spec _) fun x1 w1 hS e1 => VL.op (R.asS rfl) (VL.nil (V.seq (?_)))))))))
  refine V.region (VL.op (R.mvS rfl) (VL.callP Try.call25 rfl (decide_spec 1 0 2 _ (by decide) (by decide)) fun w2_1 e2_1 => VL.callP Try.call25 rfl (decide_spec 1 2 3 _ (by decide) (by decide)) fun w2_2 e2_2 => VL.callP Try.call25 rfl (decide_spec 2 1 3 _ (by decide) (by decide)) fun w2_3 e2_3 => VL.buildSl Try.runUnderlying23 Try.sizeOf39 Try.zeroValue39 rfl rfl rfl fun b2 w2 hb2 e2 hX2 => VL.callX Try.call11 rfl (bind_is hH2 hP2 x1 (some ⟨b2, 0, none⟩) 4 3 _ (by decide) (by decide) (hS.ext (((e2_1.trans e2_2).trans e2_3).trans e2)) (decBlk [dcS 1 0 2, dcS 1 2 3, dcS 2 1 3] hX2 rfl (by decide))) fun x2 v2 h2 f2 => VL.op (R.mvT rfl) (VL.op (R.extr rfl rfl) (VL.op (R.extr rfl rfl) (VL.op (R.asS rfl) (VL.op (R.asS rfl) (VL.nil (V.seq (?_)))))))))
  have E2 := e2_1.trans (e2_2.trans (e2_3.trans (e2.trans (f2))))
  have hS := hS.ext E2
  obtain ⟨hI2, hQ2⟩ := h2
  refine V.region (VL.op (R.mvS rfl) (VL.callP Try.call25 rfl (decide_spec 1 0 2 _ (by decide) (by decide)) fun w3_1 e3_1 => VL.callP Try.call25 rfl (decide_spec 2 0 2 _ (by decide) (by decide)) fun w3_2 e3_2 => VL.buildSl Try.runUnderlying23 Try.sizeOf39 Try.zeroValue39 rfl rfl rfl fun b3 w3 hb3 e3 hX3 => VL.callX Try.call11 rfl (bind_is hH3 hP3 x1 (some ⟨b3, 0, none⟩) 4 2 _ (by decide) (by decide) (hS.ext ((e3_1.trans e3_2).trans e3)) (decBlk [dcS 1 0 2, dcS 2 0 2] hX3 rfl (by decide))) fun x3 v3 h3 f3 => VL.op (R.mvT rfl) (VL.op (R.extr rfl rfl) (VL.op (R.extr rfl rfl) (VL.op (R.asS rfl) (VL.op (R.asS rfl) (VL.nil (V.seq (?_)))))))))
  have E3 := e3_1.trans (e3_2.trans (e3.trans (f3)))
  have hS := hS.ext E3
  have hI2 := hI2.ext E3
  have hQ2 := hQ2.ext E3
  obtain ⟨hI3, hQ3⟩ := h3
  refine V.region (VL.op (R.mvS rfl) (VL.callP Try.call25 rfl (decide_spec 1 0 2 _ (by decide) (by decide)) fun w4_1 e4_1 => VL.callP Try.call25 rfl (decide_spec 1 2 3 _ (by decide) (by decide)) fun w4_2 e4_2 => VL.callP Try.call25 rfl (decide_spec 2 0 3 _ (by decide) (by decide)) fun w4_3 e4_3 => VL.buildSl Try.runUnderlying23 Try.sizeOf39 Try.zeroValue39 rfl rfl rfl fun b4 w4 hb4 e4 hX4 => VL.callX Try.call11 rfl (bind_is hH4 hP4 x1 (some ⟨b4, 0, none⟩) 4 3 _ (by decide) (by decide) (hS.ext (((e4_1.trans e4_2).trans e4_3).trans e4)) (decBlk [dcS 1 0 2, dcS 1 2 3, dcS 2 0 3] hX4 rfl (by decide))) fun x4 v4 h4 f4 => VL.op (R.mvT rfl) (VL.op (R.extr rfl rfl) (VL.op (R.extr rfl rfl) (VL.op (R.asS rfl) (VL.op (R.asS rfl) (VL.nil (V.seq (?_)))))))))
  have E4 := e4_1.trans (e4_2.trans (e4_3.trans (e4.trans (f4))))
  have hS := hS.ext E4
  have hI2 := hI2.ext E4
  have hQ2 := hQ2.ext E4
  have hI3 := hI3.ext E4
  have hQ3 := hQ3.ext E4
  obtain ⟨hI4, hQ4⟩ := h4
  refine V.region (VL.op (R.mvS rfl) (VL.callP Try.call25 rfl (decide_spec 1 0 2 _ (by decide) (by decide)) fun w5_1 e5_1 => VL.callP Try.call25 rfl (decide_spec 1 2 3 _ (by decide) (by decide)) fun w5_2 e5_2 => VL.callP Try.call25 rfl (decide_spec 2 0 3 _ (by decide) (by decide)) fun w5_3 e5_3 => VL.buildSl Try.runUnderlying23 Try.sizeOf39 Try.zeroValue39 rfl rfl rfl fun b5 w5 hb5 e5 hX5 => VL.callX Try.call18 rfl (contra_is hC5 x1 (some ⟨b5, 0, none⟩) 4 3 _ (by decide) (by decide) (hS.ext (((e5_1.trans e5_2).trans e5_3).trans e5)) (decBlk [dcS 1 0 2, dcS 1 2 3, dcS 2 0 3] hX5 rfl (by decide))) fun x5 v5 h5 f5 => VL.op (R.asS rfl) (VL.nil (V.seq (?_)))))
  have E5 := e5_1.trans (e5_2.trans (e5_3.trans (e5.trans (f5))))
  have hS := hS.ext E5
  have hI2 := hI2.ext E5
  have hQ2 := hQ2.ext E5
  have hI3 := hI3.ext E5
  have hQ3 := hQ3.ext E5
  have hI4 := hI4.ext E5
  have hQ4 := hQ4.ext E5
  refine V.region (VL.callP Try.call25 rfl (decide_spec 1 0 2 _ (by decide) (by decide)) fun w6_0 e6_0 => VL.callP Try.call25 rfl (decide_spec 3 0 2 _ (by decide) (by decide)) fun w6_1 e6_1 => VL.callP Try.call25 rfl (decide_spec 2 0 1 _ (by decide) (by decide)) fun w6_2 e6_2 => VL.buildSl Try.runUnderlying23 Try.sizeOf39 Try.zeroValue39 rfl rfl rfl fun b6 w6 hb6 e6 hX6 => VL.callX Try.call16 rfl (effective_is hE6 (some ⟨b6, 0, none⟩) 3 _ (by decide) (decBlk [dcS 1 0 2, dcS 3 0 2, dcS 2 0 1] hX6 rfl (by decide))) fun x6 v6 h6 f6 => VL.op (R.asS rfl) (VL.nil (V.seq (?_))))
  have E6 := e6_0.trans (e6_1.trans (e6_2.trans (e6.trans (f6))))
  have hS := hS.ext E6
  have hI2 := hI2.ext E6
  have hQ2 := hQ2.ext E6
  have hI3 := hI3.ext E6
  have hQ3 := hQ3.ext E6
  have hI4 := hI4.ext E6
  have hQ4 := hQ4.ext E6
  have h5 := h5.ext E6
  refine V.regionCut [10, 49, 50, 51, 52, 53, 54, 55, 56, 57, 58, 59, 60, 61, 62, 63, 64, 65, 66, 67, 68] 10 (.bool true) (fun w' => Ext _ w') rfl (VL.op (R.mvS rfl) (VL.buildSl Try.runUnderlying26 Try.sizeOf3 Try.zeroValue3 rfl rfl rfl fun b7 w7 hb7 e7 hX7 => VL.callP Try.call13 rfl (ints_spec x2.1.1 (some ⟨b7, 0, none⟩) x2.1.2 4 [0, 1, 0, 0] [0, 1, 0, 0] _ (by decide) (by decide) (hI2.ext e7) (intBlk [0, 1, 0, 0] hX7 rfl (by decide))) fun w7_2 e7_2 => VL.op (R.mvB rfl) (VL.and rfl rfl (fun g7_3 => VL.op (R.mvS rfl) (VL.gT rfl rfl (VL.op (R.buildArr Try.zeroValue48 Try.runUnderlying48 Try.sizeOf3 rfl) (VL.gT rfl rfl (VL.buildSl Try.runUnderlying27 Try.sizeOf48 Try.zeroValue48 rfl rfl rfl fun b8 w8 hb8 e8 hX8 => VL.gT rfl rfl (VL.callP Try.call14 rfl (pairs_spec x2.2.1 (some ⟨b8, 0, none⟩) x2.2.2 1 [(0, 1)] [(0, 1)] _ (by decide) (by decide) (hQ2.ext ((e7.trans e7_2).trans e8)) (prBlk [(0, 1)] hX8 rfl (by decide))) fun w7_7 e7_7 => VL.op (R.pickTB rfl rfl) (VL.op (R.mvB rfl) (VL.and rfl rfl (fun g7_9 => VL.op (R.mvS rfl) (VL.gT rfl rfl (VL.buildSl Try.runUnderlying26 Try.sizeOf3 Try.zeroValue3 rfl rfl rfl fun b9 w9 hb9 e9 hX9 => VL.gT rfl rfl (VL.callP Try.call13 rfl (ints_spec x3.1.1 (some ⟨b9, 0, none⟩) x3.1.2 4 [0, 1, 2, 3] [0, 1, 2, 3] _ (by decide) (by decide) (hI3.ext ((((e7.trans e7_2).trans e8).trans e7_7).trans e9)) (intBlk [0, 1, 2, 3] hX9 rfl (by decide))) fun w7_12 e7_12 => VL.op (R.pickTB rfl rfl) (VL.op (R.mvB rfl) (VL.and rfl rfl (fun g7_14 => VL.op (R.mvS rfl) (VL.gT rfl rfl (VL.op (R.buildArr Try.zeroValue48 Try.runUnderlying48 Try.sizeOf3 rfl) (VL.gT rfl rfl (VL.buildSl Try.runUnderlying27 Try.sizeOf48 Try.zeroValue48 rfl rfl rfl fun b10 w10 hb10 e10 hX10 => VL.gT rfl rfl (VL.callP Try.call14 rfl (pairs_spec x3.2.1 (some ⟨b10, 0, none⟩) x3.2.2 1 [(0, 2)] [(0, 2)] _ (by decide) (by decide) (hQ3.ext ((((((e7.trans e7_2).trans e8).trans e7_7).trans e9).trans e7_12).trans e10)) (prBlk [(0, 2)] hX10 rfl (by decide))) fun w7_18 e7_18 => VL.op (R.pickTB rfl rfl) (VL.op (R.asB rfl) (VL.nil ⟨rfl, cutB rfl ?_, (Mod.trans e7 (Mod.trans e7_2 (Mod.trans e8 (Mod.trans e7_7 (Mod.trans e9 (Mod.trans e7_12 (Mod.trans e10 e7_18)))))))⟩)))))))) (fun g7_14 => VL.gF rfl rfl (VL.gF rfl rfl (VL.gF rfl rfl (VL.op (R.pickFB rfl rfl) (VL.op (R.asB rfl) (VL.nil ⟨rfl, cutB rfl ?_, (Mod.trans e7 (Mod.trans e7_2 (Mod.trans e8 (Mod.trans e7_7 (Mod.trans e9 e7_12)))))⟩)))))))))))) (fun g7_9 => VL.gF rfl rfl (VL.gF rfl rfl (VL.op (R.pickFB rfl rfl) (VL.op (R.mvB rfl) (VL.gF rfl rfl (VL.gF rfl rfl (VL.gF rfl rfl (VL.gF rfl rfl (VL.op (R.pickFB rfl rfl) (VL.op (R.asB rfl) (VL.nil ⟨rfl, cutB rfl ?_, (Mod.trans e7 (Mod.trans e7_2 (Mod.trans e8 e7_7)))⟩))))))))))))))))))) (fun g7_3 => VL.gF rfl rfl (VL.gF rfl rfl (VL.gF rfl rfl (VL.op (R.pickFB rfl rfl) (VL.op (R.mvB rfl) (VL.gF rfl rfl (VL.gF rfl rfl (VL.gF rfl rfl (VL.op (R.pickFB rfl rfl) (VL.op (R.mvB rfl) (VL.gF rfl rfl (VL.gF rfl rfl (VL.gF rfl rfl (VL.gF rfl rfl (VL.op (R.pickFB rfl rfl) (VL.op (R.asB rfl) (VL.nil ⟨rfl, cutB rfl ?_, (Mod.trans e7 e7_2)⟩)))))))))))))))))))) (fun rg7 w7c e7c => V.seq (?_))
  · rfl
  · exact absurd rfl (of_decide_eq_false g7_14)
  · exact absurd rfl (of_decide_eq_false g7_9)
  · exact absurd rfl (of_decide_eq_false g7_3)
  have hI4 := hI4.ext e7c
  have h5 := h5.ext e7c
  have h6 := h6.ext e7c
  refine V.region (VL.op (R.mvB rfl) (VL.op (R.mvB rfl) (VL.and rfl rfl (fun g8_1 => VL.op (R.mvS rfl) (VL.gT rfl rfl (VL.buildSl Try.runUnderlying26 Try.sizeOf3 Try.zeroValue3 rfl rfl rfl fun b11 w11 hb11 e11 hX11 => VL.gT rfl rfl (VL.callP Try.call13 rfl (ints_spec x4.1.1 (some ⟨b11, 0, none⟩) x4.1.2 4 [0, 1, 0, 0] [0, 1, 0, 0] _ (by decide) (by decide) (hI4.ext e11) (intBlk [0, 1, 0, 0] hX11 rfl (by decide))) fun w8_4 e8_4 => VL.op (R.pickTB rfl rfl) (VL.op (R.mvB rfl) (VL.and rfl rfl (fun g8_6 => VL.op (R.mvS rfl) (VL.gT rfl rfl (VL.op (R.lenS Try.runUnderlying27 rfl) (VL.gT rfl rfl (VL.op (R.eql rfl rfl) (VL.op (R.pickTB rfl rfl) (VL.op (R.mvB rfl) (VL.andP rfl rfl (fun g8_11 => VL.op (R.mvS rfl) (VL.gT rfl rfl (VL.op (R.buildArr Try.zeroValue48 Try.runUnderlying48 Try.sizeOf3 rfl) (VL.gT rfl rfl (VL.buildSl Try.runUnderlying27 Try.sizeOf48 Try.zeroValue48 rfl rfl rfl fun b12 w12 hb12 e12 hX12 => VL.gT rfl rfl (VL.callP Try.call14 rfl (pairs_spec x5.1 (some ⟨b12, 0, none⟩) x5.2 1 [(0, 3)] [(0, 3)] _ (by decide) (by decide) (h5.ext ((e11.trans e8_4).trans e12)) (prBlk [(0, 3)] hX12 rfl (by decide))) fun w8_15 e8_15 => VL.op (R.pickTB rfl rfl) (VL.op (R.mvB rfl) (VL.and rfl rfl (fun g8_17 => VL.op (R.mvS rfl) (VL.gT rfl rfl (VL.callP Try.call25 rfl (decide_spec 2 0 1 _ (by decide) (by decide)) fun w8_19 e8_19 => VL.gT rfl rfl (VL.buildSl Try.runUnderlying23 Try.sizeOf39 Try.zeroValue39 rfl rfl rfl fun b13 w13 hb13 e13 hX13 => VL.gT rfl rfl (VL.callP Try.call15 rfl (same_spec x6.1 (some ⟨b13, 0, none⟩) x6.2 1 [dcS 2 0 1] [dcS 2 0 1] _ (by decide) (by decide) (h6.ext (((((e11.trans e8_4).trans e12).trans e8_15).trans e8_19).trans e13)) (decBlk [dcS 2 0 1] hX13 rfl (by decide))) fun w8_21 e8_21 => VL.op (R.pickTB rfl rfl) (VL.op (R.asB rfl) (VL.nil (V.ret (fret1 (v := .bool _) rfl rfl rfl (⟨?_, ((e1.trans (E2.trans (E3.trans (E4.trans (E5.trans E6))))).trans e7c).trans ((((((e11.trans e8_4).trans e12).trans e8_15).trans e8_19).trans e13).trans e8_21)⟩)))))))))) (fun g8_17 => VL.gF rfl rfl (VL.gF rfl rfl (VL.gF rfl rfl (VL.op (R.pickFB rfl rfl) (VL.op (R.asB rfl) (VL.nil (V.ret (fret1 (v := .bool _) rfl rfl rfl (⟨?_, ((e1.trans (E2.trans (E3.trans (E4.trans (E5.trans E6))))).trans e7c).trans (((e11.trans e8_4).trans e12).trans e8_15)⟩))))))))))))))))) (fun g8_11 => VL.gF rfl rfl (VL.gF rfl rfl (VL.gF rfl rfl (VL.op (R.pickFB rfl rfl) (VL.op (R.mvB rfl) (VL.gF rfl rfl (VL.gF rfl rfl (VL.gF rfl rfl (VL.gF rfl rfl (VL.op (R.pickFB rfl rfl) (VL.op (R.asB rfl) (VL.nil (V.ret (fret1 (v := .bool _) rfl rfl rfl (⟨?_, ((e1.trans (E2.trans (E3.trans (E4.trans (E5.trans E6))))).trans e7c).trans (e11.trans e8_4)⟩))))))))))))))))))))))) (fun g8_6 => VL.gF rfl rfl (VL.gF rfl rfl (VL.op (R.pickFB rfl rfl) (VL.op (R.mvB rfl) (VL.gF rfl rfl (VL.gF rfl rfl (VL.gF rfl rfl (VL.gF rfl rfl (VL.op (R.pickFB rfl rfl) (VL.op (R.mvB rfl) (VL.gF rfl rfl (VL.gF rfl rfl (VL.gF rfl rfl (VL.gF rfl rfl (VL.op (R.pickFB rfl rfl) (VL.op (R.asB rfl) (VL.nil (V.ret (fret1 (v := .bool _) rfl rfl rfl (⟨?_, ((e1.trans (E2.trans (E3.trans (E4.trans (E5.trans E6))))).trans e7c).trans (e11.trans e8_4)⟩)))))))))))))))))))))))))) (fun g8_1 => VL.gF rfl rfl (VL.gF rfl rfl (VL.op (R.pickFB rfl rfl) (VL.op (R.mvB rfl) (VL.gF rfl rfl (VL.gF rfl rfl (VL.gF rfl rfl (VL.op (R.pickFB rfl rfl) (VL.op (R.mvB rfl) (VL.gF rfl rfl (VL.gF rfl rfl (VL.gF rfl rfl (VL.gF rfl rfl (VL.op (R.pickFB rfl rfl) (VL.op (R.mvB rfl) (VL.gF rfl rfl (VL.gF rfl rfl (VL.gF rfl rfl (VL.gF rfl rfl (VL.op (R.pickFB rfl rfl) (VL.op (R.asB rfl) (VL.nil (V.ret (fret1 (v := .bool _) rfl rfl rfl (⟨?_, ((e1.trans (E2.trans (E3.trans (E4.trans (E5.trans E6))))).trans e7c).trans (Mod.refl _ _)⟩))))))))))))))))))))))))))))
  · exact congrArg Value.bool (decide_eq_true rfl)
  all_goals exfalso
  all_goals first | exact absurd rfl (of_decide_eq_false (by assumption)) | (simp at *; done)
end Go.Proofs.Ytlefkkelohhnkaa
