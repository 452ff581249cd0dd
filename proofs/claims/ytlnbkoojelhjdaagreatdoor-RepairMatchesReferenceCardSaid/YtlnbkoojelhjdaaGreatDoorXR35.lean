/- Repair: the walk of law RepairMatchesReference. -/
import Derived.Test.YtlnbkoojelhjdaaGreatDoorXR17
import Derived.Test.YtlnbkoojelhjdaaGreatDoorXR34
import Derived.Test.YtlnbkoojelhjdaaGreatDoorXVcApp2
namespace Go.Proofs.YtlnbkoojelhjdaaGreatDoor
open Go.Vc
set_option maxRecDepth 100000
set_option maxHeartbeats 16000000
theorem pickT28 {P : Program} {ρ : Env} {w : World} {ty : TypeId} {a b c : Operand} {v : Bool} (hc : tm ρ c = .bool true) (ha : tm ρ a = .bool v) : run1 P ρ (.pick c a b) ty w = .ok (.value (.bool v)) w := R.pickTB hc ha
theorem matches28_law (g : GrW) (sa : Option Addr) (sc B : Nat) (S : List Int) (w : World) (hI : GIn w g) (hS : IntSl w sa S) (hax : sa = none → sc = 0) (hsl : S.length ≤ 9223372036854775807) (hB : B ≤ w.heap.size) (hT : TabW B w) :
  RetsP Tryz.prog 3 #[.agg (encGr g).toArray, .slice sa S.length sc] w (.bool true) := by
 refine enter (args := [_, _]) Tryz.func3 rfl Tryz.ntmps3 (by kernel_rfl) rfl ?_
 refine V.seq (V.region (VL.box (v := .agg _) rfl fun b0_0 w0_0 hb0_0 e0_0 hB0_0 => VL.op (R.asB rfl) (VL.nil (V.seq (V.region (VL.callP Tryz.call11 rfl (head_spec28 B _ (Nat.le_trans hB (e0_0).size) (hT.ext hB e0_0)) fun w1_0 e1_0 => VL.op (R.asB rfl) (VL.nil (V.seq (V.seq (V.region (VL.op (R.ldA Tryz.isAgg25 Tryz.sizeOf25 rfl rfl ((show RowAt _ _ _ (encGr g) from ((hB0_0.ext e1_0).rowAt 0 3))) rfl) (VL.callP Tryz.call12 rfl (small_spec g 10 _ (hI.ok.ext (e0_0.trans e1_0)) hI.c hI.e.len (fun x hx => (hI.e.each x hx).1) (by decide) (by decide)) fun w2_1 e2_1 => VL.op (R.not rfl) (VL.op (R.mvB rfl) (VL.or rfl rfl (fun g2_3 => VL.op (R.mvS rfl) (VL.gT rfl rfl (VL.op (R.lenS Tryz.runUnderlying22 rfl) (VL.gT rfl rfl (VL.op (R.gtr rfl rfl) (VL.op (R.pickFB rfl rfl) (VL.nil (V.condP rfl (fun c22 => V.seq (V.region (VL.op (R.mvB rfl) (VL.op (R.asB rfl) (VL.nil (V.ret (fret1 (v := .bool _) rfl rfl rfl (⟨rfl, ((e0_0.trans e1_0).trans e2_1)⟩)))))))) (fun c22 => V.skip (V.seq (?_))))))))))) (fun g2_3 => VL.gF rfl rfl (VL.gF rfl rfl (VL.op (R.pickTB rfl rfl) (VL.nil (V.condT rfl (V.seq (V.region (VL.op (R.mvB rfl) (VL.op (R.asB rfl) (VL.nil (V.ret (fret1 (v := .bool _) rfl rfl rfl (⟨rfl, ((e0_0.trans e1_0).trans e2_1)⟩)))))))))))))))))))))))))))
 have hsm : smallB (grV g) 10 = true := by simpa using g2_3
 have hgl := small_glen hI hsm
 have hsl2 : S.length ≤ 20 := by omega
 have hn10 : g.n ≤ 10 := (smallB_iff.1 hsm).1
 have E2 := (e0_0.trans e1_0).trans e2_1
 have hX2 : Blk w2_1 b0_0 (.cells (Value.agg (encGr g).toArray).cells 25 (0, 0)) := hB0_0.ext (e1_0.trans e2_1)
 refine V.region (VL.op (R.ldA Tryz.isAgg25 Tryz.sizeOf25 rfl rfl ((show RowAt _ _ _ (encGr g) from hX2.rowAt 0 3)) rfl) (VL.op (R.mvS rfl) (VL.callX Tryz.call13 rfl (extend_spec g sa sc S B w2_1 (hI.ok.ext E2) hgl (hS.ext E2) (by omega) (Nat.le_trans hB E2.size) (hT.ext hB E2)) fun x4 w4 h4 e4 => VL.op (R.mvT rfl) (VL.op (R.extr rfl rfl) (VL.op (R.extr rfl rfl) (VL.op (R.asS rfl) (VL.op (R.asI rfl) (VL.nil (V.seq (V.region (VL.op (R.ldA Tryz.isAgg25 Tryz.sizeOf25 rfl rfl ((show RowAt _ _ _ (encGr g) from (hX2.ext e4).rowAt 0 3)) rfl) (VL.op (R.mvS rfl) (VL.callX Tryz.call14 rfl (rext28_spec g sa sc S w4 (hI.ok.ext (E2.trans e4)) hgl (by omega) hax (hS.ext (E2.trans e4))) fun x5 w5 h5 e5 => VL.op (R.mvT rfl) (VL.op (R.extr rfl rfl) (VL.op (R.extr rfl rfl) (VL.op (R.asS rfl) (VL.op (R.asI rfl) (VL.nil (V.seq (V.region (VL.op (R.ldA Tryz.isAgg25 Tryz.sizeOf25 rfl rfl ((show RowAt _ _ _ (encGr g) from (hX2.ext (e4.trans e5)).rowAt 0 3)) rfl) (VL.callX Tryz.call15 rfl (list_spec28 g B w5 (hI.ok.ext (E2.trans (e4.trans e5))) hgl (Nat.le_trans hB (E2.trans (e4.trans e5)).size) (hT.ext hB (E2.trans (e4.trans e5)))) fun x6 w6 h6 e6 => VL.op (R.mvT rfl) (VL.op (R.extr rfl rfl) (VL.op (R.extr rfl rfl) (VL.op (R.asS rfl) (VL.op (R.asI rfl) (VL.nil (V.seq (V.region (VL.op (R.ldA Tryz.isAgg25 Tryz.sizeOf25 rfl rfl ((show RowAt _ _ _ (encGr g) from (hX2.ext (e4.trans (e5.trans e6))).rowAt 0 3)) rfl) (VL.callX Tryz.call16 rfl (list28_spec g w6 (hI.ok.ext (E2.trans (e4.trans (e5.trans e6)))) hgl hn10) fun x7 w7 h7 e7 => VL.op (R.mvT rfl) (VL.op (R.extr rfl rfl) (VL.op (R.extr rfl rfl) (VL.op (R.asS rfl) (VL.op (R.asI rfl) (VL.nil (V.seq (?_))))))))))))))))))))))))))))))))))))))
 obtain ⟨ho4, hv4⟩ := h4
 obtain ⟨hq5, hv5⟩ := h5
 obtain ⟨ho6, hv6⟩ := h6
 obtain ⟨hL7, hv7⟩ := h7
 have k1 : x4.1.l = x5.1.l := congrArg (fun x : List Int × Int => x.1) (hv4.trans hv5.symm)
 have k2 : x4.2 = x5.2 := congrArg (fun x : List Int × Int => x.2) (hv4.trans hv5.symm)
 have k3 : vals x6.L = vals x7.L := congrArg (fun x : List (List Int) × Int => x.1) (hv6.trans hv7.symm)
 have k4 : x6.e = x7.e := congrArg (fun x : List (List Int) × Int => x.2) (hv6.trans hv7.symm)
 have E7 := E2.trans (e4.trans (e5.trans (e6.trans e7)))
 have hX7 := hX2.ext (e4.trans (e5.trans (e6.trans e7)))
 have hs4 : IntSl w7 x4.1.a x4.1.l := (OwnT.sl ho4).ext (e5.trans (e6.trans e7))
 have hs5 : IntSl w7 x5.1.a x5.1.l := hq5.ext (e6.trans e7)
 have hL6 : LL w7 x6.a x6.L := ⟨(OwnT.sl ho6.own).ext e7, fun y hy => (OwnT.sl (ho6.each y hy)).ext e7⟩
 have hrow : ∀ {wq : World}, Ext w7 wq → RowAt wq b0_0 0 (encGr g) := fun e => (hX7.ext e).rowAt 0 3
 have hel : (extF (grV g) S).length ≤ 1000 := by
  refine Nat.le_trans (memK_len _ _) ?_
  have hgn : (grV g).n = g.n := rfl
  omega
 have hl4 : x4.1.l.length ≤ 1000 := by
  have h := congrArg (fun x : List Int × Int => x.1.length) hv4
  dsimp only at h
  split at h
  ·dsimp only at h; omega
  ·rw [h]; exact Nat.zero_le _
 have hvl : (vals x6.L).length ≤ 1000 ∧ ∀ e ∈ vals x6.L, e.length ≤ 10 := by
  have h := congrArg (fun x : List (List Int) × Int => x.1) hv6
  dsimp only at h
  rw [h]
  unfold listG
  split
  ·rename_i hv
   split
   ·rename_i hle
    refine ⟨hle, fun e he => ?_⟩
    have := rep_len ((reps_mem hv).1 he) (costB_iff.1 (validG_iff.1 hv).1).1
    have hgn : (grV g).n = g.n := rfl
    omega
   ·exact ⟨Nat.zero_le _, fun e he => nomatch he⟩
  ·exact ⟨Nat.zero_le _, fun e he => nomatch he⟩
 have hc6 : x6.L.length ≤ 1000 ∧ ∀ y ∈ x6.L, y.l.length ≤ 10 := ⟨by have := hvl.1; rwa [show (vals x6.L).length = x6.L.length from List.length_map _] at this, fun y hy => hvl.2 _ (List.mem_map_of_mem hy)⟩
 have hc7 : x7.L.length ≤ 1000 ∧ ∀ y ∈ x7.L, y.l.length ≤ 10 := by
  rw [k3] at hvl
  exact ⟨by have := hvl.1; rwa [show (vals x7.L).length = x7.L.length from List.length_map _] at this, fun y hy => hvl.2 _ (List.mem_map_of_mem hy)⟩
 clear hq5 ho4 ho6
 obtain ⟨⟨a4, c4, l4⟩, r4⟩ := x4
 obtain ⟨⟨a5, c5, l5⟩, r5⟩ := x5
 obtain ⟨a6, c6, L6, r6⟩ := x6
 obtain ⟨a7, c7, L7, r7⟩ := x7
 dsimp only at k1 k2 k3 k4 hs4 hs5 hL6 hL7 hl4 hc6 hc7 ⊢
 subst k1 k2 k4
 refine V.regionD (T := Ext) mixed 39 (by kernel_rfl) rfl (fun us => VD.op (fun wq eq => R.mvB rfl) (VD.op (fun wq eq => R.mvB rfl) (VD.gT rfl rfl (VD.op (fun wq eq => R.ldA Tryz.isAgg25 Tryz.sizeOf25 rfl rfl ((hrow eq)) rfl) (VD.gT rfl rfl (VD.op (fun wq eq => R.mvS rfl) (VD.gT rfl rfl (VD.callP Tryz.call17 rfl (fun wq eq => indep_spec g sa sc S B wq (hI.ok.ext (E7.trans eq)) hgl (hS.ext (E7.trans eq)) (by omega) (Nat.le_trans hB (E7.trans eq).size) (hT.ext hB (E7.trans eq))) (VD.gT rfl rfl (VD.op (fun wq eq => R.ldA Tryz.isAgg25 Tryz.sizeOf25 rfl rfl ((hrow eq)) rfl) (VD.gT rfl rfl (VD.op (fun wq eq => R.mvS rfl) (VD.gT rfl rfl (VD.callP Tryz.call18 rfl (fun wq eq => ind28_spec g sa sc S wq (hI.ok.ext (E7.trans eq)) hgl (by omega) (hS.ext (E7.trans eq))) (VD.gT rfl rfl (VD.op (fun wq eq => R.lit (R.eqlB eqW4 rfl rfl) ((decide_eq_true rfl))) (VD.op (fun wq eq => R.pickTB rfl rfl) (VD.op (fun wq eq => R.mvB rfl) (VD.gT rfl rfl (VD.op (fun wq eq => R.ldA Tryz.isAgg25 Tryz.sizeOf25 rfl rfl ((hrow eq)) rfl) (VD.gT rfl rfl (VD.op (fun wq eq => R.mvS rfl) (VD.gT rfl rfl (VD.callP Tryz.call19 rfl (fun wq eq => is_spec28 g sa sc S B wq (hI.ok.ext (E7.trans eq)) hgl (hS.ext (E7.trans eq)) (by omega) (Nat.le_trans hB (E7.trans eq).size) (hT.ext hB (E7.trans eq))) (VD.gT rfl rfl (VD.op (fun wq eq => R.ldA Tryz.isAgg25 Tryz.sizeOf25 rfl rfl ((hrow eq)) rfl) (VD.gT rfl rfl (VD.op (fun wq eq => R.mvS rfl) (VD.gT rfl rfl (VD.callP Tryz.call20 rfl (fun wq eq => ris28_spec g sa sc S wq (hI.ok.ext (E7.trans eq)) hgl (by omega) hax (hS.ext (E7.trans eq))) (VD.gT rfl rfl (VD.op (fun wq eq => R.lit (R.eqlB eqW4 rfl rfl) ((decide_eq_true rfl))) (VD.op (fun wq eq => R.pickTB rfl rfl) (VD.op (fun wq eq => R.mvB rfl) (VD.gT rfl rfl (VD.op (fun wq eq => R.mvI rfl) (VD.gT rfl rfl (VD.op (fun wq eq => R.mvI rfl) (VD.gT rfl rfl (VD.op (fun wq eq => R.lit (R.eql rfl rfl) ((decide_eq_true rfl))) (VD.op (fun wq eq => R.pickTB rfl rfl) (VD.op (fun wq eq => R.mvB rfl) (VD.gT rfl rfl (VD.op (fun wq eq => R.mvS rfl) (VD.gT rfl rfl (VD.spec (fun _ => SB1 encSl 1 22 w7.heap.size (⟨a4, c4, l4⟩ : SlI)) (DepS.const _) (fun u x y _ ⟨b, h1, h2⟩ eb => ⟨b, h1, h2.ext eb⟩) rfl (fun wq eq hq => yieldsR_build1 Tryz.runUnderlying23 Tryz.sizeOf22 Tryz.zeroValue22 rfl rfl rfl (⟨a4, c4, l4⟩ : SlI) rfl rfl rfl eq.size fun b w2 ho he => ⟨⟨b, rfl, ho⟩, he⟩) (VD.gT rfl rfl (VD.op (fun wq eq => R.mvS rfl) (VD.gT rfl rfl (VD.spec (fun _ => SB1 encSl 1 22 w7.heap.size (⟨a5, c5, l4⟩ : SlI)) (DepS.const _) (fun u x y _ ⟨b, h1, h2⟩ eb => ⟨b, h1, h2.ext eb⟩) rfl (fun wq eq hq => yieldsR_build1 Tryz.runUnderlying23 Tryz.sizeOf22 Tryz.zeroValue22 rfl rfl rfl (⟨a5, c5, l4⟩ : SlI) rfl rfl rfl eq.size fun b w2 ho he => ⟨⟨b, rfl, ho⟩, he⟩) (VD.gT rfl rfl (VD.callX (fun _ => fun u _ => u = .bool true) (DepS.const _) (fun u x y _ h eb => h) Tryz.call21 rfl (fun wq eq hq => by
   obtain ⟨p, hp, p1⟩ := hq 26 (by kernel_rfl)
   obtain ⟨q, hqq, q1⟩ := hq 28 (by kernel_rfl)
   rw [show us 26 = _ from hp, show us 28 = _ from hqq]
   exact sets_is ([⟨a4, c4, l4⟩] : List SlI) ([⟨a5, c5, l4⟩] : List SlI) _ _ 1 1 wq rfl (Nat.le_of_ble_eq_true rfl) (fun x hx => by rw [List.mem_singleton.1 hx]; dsimp only; omega) (fun x hx => by rw [List.mem_singleton.1 hx]; dsimp only; omega) ⟨OwnT.sl p1, fun x hx => by rw [List.mem_singleton.1 hx]; exact hs4.ext eq⟩ ⟨OwnT.sl q1, fun x hx => by rw [List.mem_singleton.1 hx]; exact hs5.ext eq⟩) (VD.spec (fun _ => fun u _ => u = .bool true) (DepS.const _) (fun u x y _ h eb => h) rfl (fun wq eq hq => by
   have h := hq 29 (by kernel_rfl)
   exact yieldsR_op (pickT28 rfl h) ⟨rfl, Turn.refl _⟩) (VD.spec (fun _ => fun u _ => u = .bool true) (DepS.const _) (fun u x y _ h eb => h) rfl (fun wq eq hq => by
   have h := hq 30 (by kernel_rfl)
   exact yieldsR_op (R.mv h) ⟨rfl, Turn.refl _⟩) (VD.specG (fun _ => fun u _ => u = .int .i64 r6) (DepS.const _) (fun u x y _ h eb => h) (fun wq eq hq => wanted_of rfl (hq 31 (by kernel_rfl))) (fun wq eq hq => yieldsR_op (R.mvI rfl) ⟨rfl, Turn.refl _⟩) (VD.specG (fun _ => fun u _ => u = .int .i64 r6) (DepS.const _) (fun u x y _ h eb => h) (fun wq eq hq => wanted_of rfl (hq 31 (by kernel_rfl))) (fun wq eq hq => yieldsR_op (R.mvI rfl) ⟨rfl, Turn.refl _⟩) (VD.specG (fun _ => fun u _ => u = .bool true) (DepS.const _) (fun u x y _ h eb => h) (fun wq eq hq => wanted_of rfl (hq 31 (by kernel_rfl))) (fun wq eq hq => by
   have h1 := hq 32 (by kernel_rfl)
   have h2 := hq 33 (by kernel_rfl)
   exact yieldsR_op (R.eql h1 h2) ⟨congrArg Value.bool (decide_eq_true rfl), Turn.refl _⟩) (VD.spec (fun _ => fun u _ => u = .bool true) (DepS.const _) (fun u x y _ h eb => h) rfl (fun wq eq hq => by
   have h1 := hq 31 (by kernel_rfl)
   have h2 := hq 34 (by kernel_rfl)
   exact yieldsR_op (pickT28 h1 h2) ⟨rfl, Turn.refl _⟩) (VD.spec (fun _ => fun u _ => u = .bool true) (DepS.const _) (fun u x y _ h eb => h) rfl (fun wq eq hq => by
   have h := hq 35 (by kernel_rfl)
   exact yieldsR_op (R.mv h) ⟨rfl, Turn.refl _⟩) (VD.specG (fun _ => fun u _ => u = .slice a6 L6.length c6) (DepS.const _) (fun u x y _ h eb => h) (fun wq eq hq => wanted_of rfl (hq 36 (by kernel_rfl))) (fun wq eq hq => yieldsR_op (R.mvS rfl) ⟨rfl, Turn.refl _⟩) (VD.specG (fun _ => fun u _ => u = .slice a7 L7.length c7) (DepS.const _) (fun u x y _ h eb => h) (fun wq eq hq => wanted_of rfl (hq 36 (by kernel_rfl))) (fun wq eq hq => yieldsR_op (R.mvS rfl) ⟨rfl, Turn.refl _⟩) (VD.nil (fun w9 e9 h9 => ?_))))))))))))))))))))))))))))))))))))))))))))))))))))))))))))))) rfl
 have h36 : us 36 = .bool true := h9 36
 have h37 : us 37 = .slice a6 L6.length c6 := h9 37
 have h38 : us 38 = .slice a7 L7.length c7 := h9 38
 rw [h36, h37, h38]
 refine VL.gT rfl rfl (VL.callP Tryz.call21 rfl ((sets_is L6 L7 a6 a7 c6 c7 w9 k3 (by omega) (fun x hx => by have := hc6.2 x hx; omega) (fun x hx => by have := hc7.2 x hx; omega) (hL6.ext e9) (hL7.ext e9))) fun w8_39 e8_39 => VL.op (R.pickTB rfl rfl) (VL.op (R.asB rfl) (VL.nil (V.ret (fret1 (v := .bool _) rfl rfl rfl (⟨rfl, E7.trans (e9.trans e8_39)⟩))))))
end Go.Proofs.YtlnbkoojelhjdaaGreatDoor
