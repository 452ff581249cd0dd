/- Repair: the walk of law RepairAll. -/
import Derived.Test.YtlnbkoojelhjdaaGreatDoorXR17
import Derived.Test.YtlnbkoojelhjdaaGreatDoorXR20
namespace Go.Proofs.YtlnbkoojelhjdaaGreatDoor
open Go.Vc
set_option maxRecDepth 100000 in
theorem less28_spec (a b : Option Addr) (ca cb : Nat) (l m : List Int) (w : World) (hl : l.length ≤ 9223372036854775807) (hm : m.length ≤ 9223372036854775807) (hS : IntSl w a l) (hT : IntSl w b m) :
    RetsP Tryz.prog 30 #[.slice a l.length ca, .slice b m.length cb] w (.bool (lexB l m)) := by
  refine enter (args := [_, _]) Tryz.func30 rfl Tryz.ntmps30 (by kernel_rfl) rfl ?_
  refine V.seq (V.region (VL.op (R.asB rfl) (VL.nil (V.seq (V.region (VL.op (R.mvS rfl) (VL.op (R.mvS rfl) (VL.callP Tryz.call65 rfl (less_spec a b ca cb l m _ hl hm hS hT) fun w1_2 e1_2 => VL.op (R.asB rfl) (VL.nil (V.ret (fret1 (v := .bool _) rfl rfl rfl (⟨rfl, e1_2⟩))))))))))))
/-- What a list of the repairs says, laid. -/
theorem list_is {w : World} {B : Nat} {g : Gr} {x : LsR} (hg : validG g = true) (_ho : LsOk B w x.a x.c x.L) (hv : (vals x.L, x.e) = listG g) :
    (x.e = 0 ∧ (∀ R, R ∈ vals x.L ↔ IsRep g R) ∧ Up lexB (vals x.L) ∧ 0 < x.L.length ∧ x.L.length ≤ 1000) ∨ x.e = 3 := by
  unfold listG at hv
  rw [if_pos hg] at hv
  by_cases h : (repsG g).length ≤ 1000
  · rw [if_pos h] at hv
    have h1 : vals x.L = repsG g := congrArg Prod.fst hv
    have h2 : x.e = 0 := congrArg Prod.snd hv
    have h3 : x.L.length = (repsG g).length := by rw [← h1]; exact (List.length_map _).symm
    have h4 : 0 < (repsG g).length := List.length_pos_iff.2 (reps_ne hg)
    exact .inl ⟨h2, fun R => by rw [h1]; exact reps_mem hg, by rw [h1]; exact reps_up hg, by omega, by omega⟩
  · rw [if_neg h] at hv
    exact .inr (congrArg Prod.snd hv)
def fndK (L : List SlI) (S : List Int) (k : Nat) : Bool := (L.take k).any fun y => decide (y.l = S)
theorem fndK_succ {L : List SlI} {S : List Int} {k : Nat} (h : k < L.length) : fndK L S (k + 1) = (fndK L S k || decide ((L.getD k default).l = S)) := by
  unfold fndK
  rw [List.take_succ_eq_append_getElem h, List.any_append, gget h]
  simp
theorem up_at {L : List SlI} (h : Up lexB (vals L)) {i j : Nat} (hij : i < j) (hj : j < L.length) : lexB (L.getD i default).l (L.getD j default).l = true := by
  have hl : (vals L).length = L.length := List.length_map _
  have := List.pairwise_iff_getElem.1 h i j (by omega) (by omega) hij
  rw [← gget (l := vals L) (by omega), ← gget (l := vals L) (by omega)] at this
  rwa [show (vals L).getD i default = (L.getD i default).l from gmap SlI.l L default (by omega), show (vals L).getD j default = (L.getD j default).l from gmap SlI.l L default hj] at this
theorem rep_len {g : Gr} {R : List Int} (hR : IsRep g R) (h0 : 0 ≤ g.n) : (R.length : Int) ≤ g.n := by
  have h5 := setB_iff.1 hR.set
  exact set_len h5.1 h5.2 h0
set_option maxRecDepth 100000 in
set_option maxHeartbeats 16000000 in
theorem all_law (g : GrW) (sa : Option Addr) (sc B : Nat) (bs : List Bool) (w : World) (hI : GIn w g) (hS : TSl encBo 1 w sa bs) (hsl : bs.length ≤ 9223372036854775807) (hB : B ≤ w.heap.size) (hT : TabW B w) :
    RetsP Tryz.prog 6 #[.agg (encGr g).toArray, .slice sa bs.length sc] w (.bool true) := by
  refine enter (args := [_, _]) Tryz.func6 rfl Tryz.ntmps6 (by kernel_rfl) rfl ?_
  refine V.seq (V.region (VL.box (v := .agg _) rfl fun b0_0 w0_0 hb0_0 e0_0 hB0_0 => VL.op (R.asB rfl) (VL.nil (V.seq (V.region (VL.callP Tryz.call11 rfl (head_spec28 B _ (Nat.le_trans hB (e0_0).size) (hT.ext hB e0_0)) fun w1_0 e1_0 => VL.op (R.asB rfl) (VL.nil (V.seq (V.seq (V.region (VL.op (R.ldA Tryz.isAgg25 Tryz.sizeOf25 rfl rfl ((show RowAt _ _ _ (encGr g) from ((hB0_0.ext e1_0).rowAt 0 3))) rfl) (VL.callP Tryz.call12 rfl (small_spec g 12 _ (hI.ok.ext (e0_0.trans e1_0)) hI.c hI.e.len (fun x hx => (hI.e.each x hx).1) (by decide) (by decide)) fun w2_1 e2_1 => VL.op (R.not rfl) (VL.op (R.mvB rfl) (VL.or rfl rfl (fun g2_3 => VL.op (R.ldA Tryz.isAgg25 Tryz.sizeOf25 rfl rfl ((show RowAt _ _ _ (encGr g) from (((hB0_0.ext e1_0).ext e2_1).rowAt 0 3))) rfl) (VL.gT rfl rfl (VL.callP Tryz.call28 rfl (valid_spec g B _ (hI.ok.ext ((e0_0.trans e1_0).trans e2_1)) (small_glen hI (by simpa using g2_3)) (Nat.le_trans hB (((e0_0.trans e1_0).trans e2_1)).size) (hT.ext hB ((e0_0.trans e1_0).trans e2_1))) fun w2_5 e2_5 => VL.gT rfl rfl (VL.op (R.not rfl) (VL.op (R.pickFB rfl rfl) (VL.nil (V.cond rfl (fun c19 => V.seq (V.region (VL.op (R.mvB rfl) (VL.op (R.asB rfl) (VL.nil (V.ret (fret1 (v := .bool _) rfl rfl rfl (⟨rfl, (((e0_0.trans e1_0).trans e2_1).trans e2_5)⟩)))))))) (fun c19 => V.skip (V.seq (?_)))))))))) (fun g2_3 => VL.gF rfl rfl (VL.gF rfl rfl (VL.op (R.pickTB rfl rfl) (VL.nil (V.condT rfl (V.seq (V.region (VL.op (R.mvB rfl) (VL.op (R.asB rfl) (VL.nil (V.ret (fret1 (v := .bool _) rfl rfl rfl (⟨rfl, ((e0_0.trans e1_0).trans e2_1)⟩)))))))))))))))))))))))))))
  have hsm : smallB (grV g) 12 = true := by simpa using g2_3
  have hv : validG (grV g) = true := by simpa using c19
  have hgl := small_glen hI hsm
  have hcb := costB_iff.1 (validG_iff.1 hv).1
  have hgn : (grV g).n = g.n := rfl
  obtain ⟨N, hN⟩ : ∃ N : Nat, g.n = (N : Int) := ⟨g.n.toNat, by have := hcb.1; omega⟩
  have hN12 : N ≤ 12 := by have := (smallB_iff.1 hsm).1; omega
  have E2 := (e0_0.trans e1_0).trans (e2_1.trans e2_5)
  have hX2 : Blk w2_5 b0_0 (.cells (Value.agg (encGr g).toArray).cells 25 (0, 0)) := hB0_0.ext (e1_0.trans (e2_1.trans e2_5))
  refine V.region (VL.op (R.ldA Tryz.isAgg25 Tryz.sizeOf25 rfl rfl ((show RowAt _ _ _ (encGr g) from hX2.rowAt 0 3)) rfl) (VL.callX Tryz.call15 rfl (list_spec28 g B w2_5 (hI.ok.ext E2) hgl (Nat.le_trans hB E2.size) (hT.ext hB E2)) fun x4 w4 h4 e4 => VL.op (R.mvT rfl) (VL.op (R.extr rfl rfl) (VL.op (R.extr rfl rfl) (VL.op (R.asS rfl) (VL.op (R.asI rfl) (VL.nil (V.seq (V.seq (?_))))))))))
  obtain ⟨ho4, hv4⟩ := h4
  rcases list_is hv ho4 hv4 with ⟨he0, hmem, hup, hpos, hle⟩ | he3
  · obtain ⟨a4, c4, L, e0⟩ := x4
    dsimp only at he0 hmem hup hpos hle ho4 ⊢
    subst he0
    refine V.region (VL.op (R.mvI rfl) (VL.op (R.lit (R.neq rfl rfl) ((decide_eq_false (fun h => h rfl)))) (VL.op (R.mvB rfl) (VL.gT rfl rfl (VL.op (R.mvS rfl) (VL.gT rfl rfl (VL.op (R.lenS Tryz.runUnderlying23 rfl) (VL.gT rfl rfl (VL.op (R.lit (R.eql rfl rfl) ((decide_eq_false (by omega)))) (VL.op (R.pickFB rfl rfl) (VL.nil (V.condF rfl (V.skip (V.seq (?_)))))))))))))))
    have hX4 := hX2.ext e4
    have E4 := E2.trans e4
    have hL4 : LL w4 a4 L := ⟨OwnT.sl ho4.own, fun y hy => OwnT.sl (ho4.each y hy)⟩
    have hyl : ∀ y ∈ L, y.l.length ≤ 12 := fun y hy => by
      have := rep_len ((hmem y.l).1 (List.mem_map_of_mem hy)) hcb.1
      omega
    refine V.region (VL.op (R.fld' (o := 0) Tryz.runUnderlying25 rfl rfl Tryz.sizeOf3 rfl rfl) (VL.op (R.ld1 Tryz.isAgg3 rfl ((show w4.cell? ⟨b0_0, 0, none⟩ = some (Value.int .i64 ((N : Nat) : Int)) from by rw [← hN]; exact hX4.cell 0))) (VL.op (R.mvS rfl) (VL.callX Tryz.call29 rfl (some28_spec N sa sc bs w4 (hS.ext E4) (by omega) hsl) fun y7 w7 ⟨ho7, hset, hyl7⟩ e7 => VL.op (R.asS rfl) (VL.nil (V.seq (?_)))))))
    have hX7 := hX4.ext e7
    have E7 := E4.trans e7
    have hL7 := hL4.ext e7
    have hs7 : IntSl w7 y7.a y7.l := OwnT.sl ho7
    refine V.region (VL.op (R.asB rfl) (VL.nil (V.seq (V.seq (V.region (VL.op (R.asI rfl) (VL.nil (V.block (?_)))))))))
    refine V.loop [2, 5, 6, 8, 9, 10] (fun x : Nat × Bool => [.pointer (some ⟨b0_0, 0, none⟩), .bool true, .slice a4 L.length c4, .slice y7.a y7.l.length y7.c, .bool x.2, .int .i64 (x.1 : Nat)]) (fun x w' => x.1 ≤ L.length ∧ x.2 = fndK L y7.l x.1 ∧ Ext w7 w') (fun x => L.length - x.1) (0, false) rfl ⟨Nat.zero_le _, rfl, Vc.Mod.refl _ _⟩ ?_
    rintro ρ ⟨i, fd⟩ w8 ⟨hi, hfd, e8⟩
    dsimp only at hi hfd e8 ⊢
    have hX8 := hX7.ext e8
    have hL8 := hL7.ext e8
    have hs8 := hs7.ext e8
    have E8 := E7.trans e8
    refine V.seq (V.seq (V.region (VL.op (R.mvI rfl) (VL.op (R.mvS rfl) (VL.op (R.lenS Tryz.runUnderlying23 rfl) (VL.op (R.lss rfl rfl) (VL.nil (V.condP rfl (fun c45 => V.skip (V.seq (V.block (V.seq (V.seq (?_)))))) (fun c45 => V.exit (V.seq (?_)))))))))))
    · have hil : i < L.length := by omega
      have hri := (hmem (L.getD i default).l).1 (List.mem_map_of_mem (gmem hil))
      have hyi := hyl _ (gmem hil)
      have hx8 := hL8.at hil
      refine V.regionQCut mixed 25 (by kernel_rfl) rfl (fun w' => Ext _ w') (Ext.drawn _) [48, 49, 50, 51, 52, 53, 54, 55, 56, 57, 58, 59, 60, 61, 62, 63, 64, 65, 66, 67, 68, 69, 70, 71, 72] 72 (.bool (false)) rfl (VQ.op (fun wq eq => R.ldA Tryz.isAgg25 Tryz.sizeOf25 rfl rfl ((show RowAt _ _ _ (encGr g) from (hX8.ext eq).rowAt 0 3)) rfl) (VQ.op (fun wq eq => R.mvS rfl) (VQ.op (fun wq eq => R.mvI rfl) (VQ.op (fun wq eq => R.ixS Tryz.runUnderlying23 Tryz.sizeOf22 rfl rfl (by omega) (by omega) ((hL8.sl).some (i := i) (by omega))) (VQ.op (fun wq eq => R.ld1 Tryz.isAgg22 rfl (((((hL8.sl).ext eq).row (i := i) (by omega)).cell (i := 0) rfl))) (VQ.callP (fun _ _ h k => Mod.trans h k) Tryz.call19 rfl (fun wq eq => (by
          have := is_spec28 g (L.getD i default).a (L.getD i default).c (L.getD i default).l B wq (hI.ok.ext (E8.trans eq)) hgl (hx8.ext eq) (by omega) (Nat.le_trans hB (E8.trans eq).size) (hT.ext hB (E8.trans eq))
          rwa [(isB_iff hv).2 hri] at this)) (VQ.op (fun wq eq => R.not rfl) (VQ.op (fun wq eq => R.mvB rfl) (VQ.gT rfl rfl (VQ.op (fun wq eq => R.mvI rfl) (VQ.gT rfl rfl (VQ.op (fun wq eq => R.gtr rfl rfl) (VQ.gT rfl rfl (VQ.op (fun wq eq => R.mvB rfl) (VQ.andP rfl rfl (fun g12_10 => VQ.op (fun wq eq => R.mvS rfl) (VQ.gT rfl rfl (VQ.op (fun wq eq => R.mvI rfl) (VQ.gT rfl rfl (VQ.op (fun wq eq => R.sub rfl rfl (by omega) (by omega)) (VQ.gT rfl rfl (VQ.op (fun wq eq => R.max rfl rfl) (VQ.gT rfl rfl (VQ.op (fun wq eq => R.ixS Tryz.runUnderlying23 Tryz.sizeOf22 rfl rfl (by omega) (by omega) ((hL8.sl).some (i := (max ((i : Int) - 1) 0).toNat) (by omega))) (VQ.gT rfl rfl (VQ.op (fun wq eq => R.ld1 Tryz.isAgg22 rfl (((((hL8.sl).ext eq).row (i := (max ((i : Int) - 1) 0).toNat) (by omega)).cell (i := 0) rfl))) (VQ.gT rfl rfl (VQ.op (fun wq eq => R.mvS rfl) (VQ.gT rfl rfl (VQ.op (fun wq eq => R.mvI rfl) (VQ.gT rfl rfl (VQ.op (fun wq eq => R.ixS Tryz.runUnderlying23 Tryz.sizeOf22 rfl rfl (by omega) (by omega) ((hL8.sl).some (i := i) (by omega))) (VQ.gT rfl rfl (VQ.op (fun wq eq => R.ld1 Tryz.isAgg22 rfl (((((hL8.sl).ext eq).row (i := i) (by omega)).cell (i := 0) rfl))) (VQ.gT rfl rfl (VQ.callP (fun _ _ h k => Mod.trans h k) Tryz.call30 rfl (fun wq eq => (by
          have hmi : 0 < i := by omega
          have h1 : (max ((i : Int) - 1) 0).toNat < i := by omega
          have := less28_spec (L.getD (max ((i : Int) - 1) 0).toNat default).a (L.getD i default).a (L.getD (max ((i : Int) - 1) 0).toNat default).c (L.getD i default).c (L.getD (max ((i : Int) - 1) 0).toNat default).l (L.getD i default).l wq (by have := hyl _ (gmem (show (max ((i : Int) - 1) 0).toNat < L.length by omega)); omega) (by omega) ((hL8.at (by omega)).ext eq) (hx8.ext eq)
          rwa [up_at hup h1 hil] at this)) (VQ.gT rfl rfl (VQ.op (fun wq eq => R.not rfl) (VQ.gT rfl rfl (VQ.op (fun wq eq => R.pickTB rfl rfl) (VQ.op (fun wq eq => R.pickFB rfl rfl) (VQ.nil (cutB rfl ?_)))))))))))))))))))))))))))) (fun g12_10 => VQ.gF rfl rfl (VQ.gF rfl rfl (VQ.gF rfl rfl (VQ.gF rfl rfl (VQ.gF rfl rfl (VQ.gF rfl rfl (VQ.gF rfl rfl (VQ.gF rfl rfl (VQ.gF rfl rfl (VQ.gF rfl rfl (VQ.gF rfl rfl (VQ.gT rfl rfl (VQ.op (fun wq eq => R.pickFB rfl rfl) (VQ.op (fun wq eq => R.pickFB rfl rfl) (VQ.nil (cutB rfl ?_))))))))))))))))))))))))))))))) (fun rg12 w12c e12c => V.cond rfl (fun c72 => V.seq (V.region (VL.op (R.asB rfl) (VL.nil (V.ret (fret1 (v := .bool _) rfl rfl rfl (?_))))))) (fun c72 => V.skip (?_)))
      · rfl
      · rfl
      · nomatch c72
      have hX9 := hX8.ext e12c
      have hL9 := hL8.ext e12c
      have hs9 := hs8.ext e12c
      have E9 := e8.trans e12c
      have hsucc := fndK_succ (S := y7.l) hil
      rw [← hfd] at hsucc
      cases fd with
      | true => refine V.region (VL.op (R.mvB rfl) (VL.op (R.mvB rfl) (VL.gF rfl rfl (VL.gF rfl rfl (VL.gF rfl rfl (VL.gF rfl rfl (VL.gF rfl rfl (VL.gF rfl rfl (VL.gF rfl rfl (VL.gF rfl rfl (VL.op (R.pickTB rfl rfl) (VL.op (R.asB rfl) (VL.nil (V.region (VL.op (R.mvI rfl) (VL.op (R.add rfl rfl (by omega) (by omega)) (VL.op (R.asI rfl) (VL.nil (⟨(i + 1, true), rfl, ⟨by dsimp only; omega, by rw [hsucc]; rfl, E9.trans (Mod.refl _ _)⟩, by dsimp only; omega⟩)))))))))))))))))))
      | false =>
        refine V.region (VL.op (R.mvB rfl) (VL.op (R.mvB rfl) (VL.gT rfl rfl (VL.op (R.mvS rfl) (VL.gT rfl rfl (VL.op (R.mvI rfl) (VL.gT rfl rfl (VL.op (R.ixS Tryz.runUnderlying23 Tryz.sizeOf22 rfl rfl (by omega) (by omega) ((hL9.sl).some (i := i) (by omega))) (VL.gT rfl rfl (VL.op (R.ld1 Tryz.isAgg22 rfl (((((hL9.sl).ext (Mod.refl _ _)).row (i := i) (by omega)).cell (i := 0) rfl))) (VL.gT rfl rfl (VL.buildSl Tryz.runUnderlying23 Tryz.sizeOf22 Tryz.zeroValue22 rfl rfl rfl fun b14_6 w14_6 hb14_6 e14_6 hB14_6 => VL.gT rfl rfl (VL.op (R.mvS rfl) (VL.gT rfl rfl (VL.buildSl Tryz.runUnderlying23 Tryz.sizeOf22 Tryz.zeroValue22 rfl rfl rfl fun b14_8 w14_8 hb14_8 e14_8 hB14_8 => VL.gT rfl rfl (VL.callP Tryz.call21 rfl (sets_spec ([L.getD i default] : List SlI) ([y7] : List SlI) _ _ 1 1 _ (Nat.le_of_ble_eq_true rfl) (Nat.le_of_ble_eq_true rfl) (fun x hx => by rw [List.mem_singleton.1 hx]; omega) (fun x hx => by rw [List.mem_singleton.1 hx]; omega) (litL (L := ([L.getD i default] : List SlI)) (hB14_6.ext e14_8) rfl (fun x hx => by rw [List.mem_singleton.1 hx]; exact (hL9.at hil).ext (e14_6.trans e14_8))) (litL (L := ([y7] : List SlI)) hB14_8 rfl (fun x hx => by rw [List.mem_singleton.1 hx]; exact hs9.ext (e14_6.trans e14_8)))) fun w14_9 e14_9 => VL.op (R.pickFB rfl rfl) (VL.op (R.asB rfl) (VL.nil (V.region (VL.op (R.mvI rfl) (VL.op (R.add rfl rfl (by omega) (by omega)) (VL.op (R.asI rfl) (VL.nil (⟨(i + 1, decide (vals ([L.getD i default] : List SlI) = vals ([y7] : List SlI))), rfl, ⟨by dsimp only; omega, ?_, E9.trans ((e14_6.trans e14_8).trans e14_9)⟩, by dsimp only; omega⟩))))))))))))))))))))))))
        rw [hsucc, Bool.false_or]
        exact decide_eq_decide.2 ⟨fun h => by injection h, fun h => by show [(L.getD i default).l] = [y7.l]; rw [h]⟩
    · have hie : i = L.length := by omega
      subst hie
      have hfin : fd = isB (grV g) y7.l := by
        rw [hfd]
        unfold fndK
        rw [List.take_length, Bool.eq_iff_iff, isB_iff hv, ← hmem, List.any_eq_true]
        exact ⟨fun ⟨y, hy, h⟩ => by rw [← of_decide_eq_true h]; exact List.mem_map_of_mem hy, fun h => by
          obtain ⟨y, hy, h2⟩ := List.mem_map.1 h
          exact ⟨y, hy, decide_eq_true h2⟩⟩
      refine V.region (VL.op (R.mvB rfl) (VL.op (R.mvB rfl) (VL.gT rfl rfl (VL.op (R.mvB rfl) (VL.gT rfl rfl (VL.op (R.ldA Tryz.isAgg25 Tryz.sizeOf25 rfl rfl ((show RowAt _ _ _ (encGr g) from hX8.rowAt 0 3)) rfl) (VL.gT rfl rfl (VL.op (R.mvS rfl) (VL.gT rfl rfl (VL.callP Tryz.call19 rfl (is_spec28 g y7.a y7.c y7.l B w8 (hI.ok.ext E8) hgl hs8 (by omega) (Nat.le_trans hB E8.size) (hT.ext hB E8)) fun w15_5 e15_5 => VL.gT rfl rfl (VL.op (R.lit (R.eqlB eqW4 rfl rfl) ((decide_eq_true hfin))) (VL.op (R.pickTB rfl rfl) (VL.op (R.asB rfl) (VL.nil (V.ret (fret1 (v := .bool _) rfl rfl rfl (⟨rfl, E8.trans e15_5⟩)))))))))))))))))
  · obtain ⟨a4, c4, L, e0⟩ := x4
    dsimp only at he3 ⊢
    subst he3
    refine V.region (VL.op (R.mvI rfl) (VL.op (R.lit (R.neq rfl rfl) ((decide_eq_true (by decide)))) (VL.op (R.mvB rfl) (VL.gF rfl rfl (VL.gF rfl rfl (VL.gF rfl rfl (VL.op (R.pickTB rfl rfl) (VL.nil (V.condT rfl (V.seq (V.region (VL.op (R.mvB rfl) (VL.op (R.mvB rfl) (VL.gT rfl rfl (VL.op (R.mvI rfl) (VL.gT rfl rfl (VL.op (R.lit (R.eql rfl rfl) ((decide_eq_true rfl))) (VL.op (R.pickTB rfl rfl) (VL.op (R.asB rfl) (VL.nil (V.ret (fret1 (v := .bool _) rfl rfl rfl (⟨rfl, E2.trans e4⟩)))))))))))))))))))))))
end Go.Proofs.YtlnbkoojelhjdaaGreatDoor
