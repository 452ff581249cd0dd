/- Repair: the reference: Cheapest. -/
import Derived.Test.YtlnbkoojelhjdaaGreatDoorXR37
import Derived.Test.YtlnbkoojelhjdaaGreatDoorXR34
import Derived.Test.YtlnbkoojelhjdaaGreatDoorXR28
namespace Go.Proofs.YtlnbkoojelhjdaaGreatDoor
open Go.Vc
set_option maxRecDepth 100000
set_option maxHeartbeats 16000000
theorem put_cheap {O c r : List Int} {k : Nat} : ∀ z, z ∈ setF (O ++ [c.getD (r.getD k default).toNat default]) ↔ z ∈ O ∨ z = c.getD (r.getD k default).toNat default := fun z => by
 rw [setF_mem, List.mem_append, List.mem_singleton]
theorem rcheap28_spec (g : GrW) (w : World) (hG : GOk w g) (hgl : GLen g) (hnw : narrowB (grV g) = true) :
  RetsX Tryz.prog 26 #[.agg (encGr g).toArray] w (fun x : SlI × Int × Int => .tuple #[.slice x.1.a x.1.l.length x.1.c, .int .i64 x.2.1, .int .i64 x.2.2]) (fun x w' => IntSl w' x.1.a x.1.l ∧ ((x.1.l, x.2.1), x.2.2) = cheapG (grV g)) := by
 refine enter (args := [_]) Tryz.func26 rfl Tryz.ntmps26 (by kernel_rfl) rfl ?_
 refine V.seq (V.region (VL.box (v := .agg _) rfl fun b0_0 w0_0 hb0_0 e0_0 hB0_0 => VL.op (R.asS rfl) (VL.op (R.asI rfl) (VL.op (R.asI rfl) (VL.nil (V.seq (V.region (VL.op (R.ldA Tryz.isAgg25 Tryz.sizeOf25 rfl rfl ((show RowAt _ _ _ (encGr g) from (hB0_0.rowAt 0 3))) rfl) (VL.callX Tryz.call56 rfl (parts28_spec g _ (hG.ext e0_0) hgl hnw) fun x w1 h1 e1 => VL.op (R.mvT rfl) (VL.op (R.extr rfl rfl) (VL.op (R.extr rfl rfl) (VL.op (R.extr rfl rfl) (VL.op (R.asS rfl) (VL.op (R.asS rfl) (VL.op (R.asI rfl) (VL.nil (V.seq (V.seq (?_)))))))))))))))))))
 have E1 := e0_0.trans e1
 have hX1 : Blk w1 b0_0 (.cells (Value.agg (encGr g).toArray).cells 25 (0, 0)) := hB0_0.ext e1
 rcases h1 with ⟨hv, he⟩ | ⟨hv, he, hP⟩
 ·have hpe : partsE (grV g) = 1 := by unfold partsE; rw [if_neg (by rw [hv]; decide)]
  have hch : cheapG (grV g) = (([], 0), 1) := by unfold cheapG; rw [hpe, if_neg (by decide)]
  refine V.region (VL.op (R.mvI rfl) (VL.op (R.lit (R.neq rfl rfl) ((decide_eq_true (by omega)))) (VL.nil (V.condT rfl (V.seq (V.region (VL.op (R.mvI rfl) (VL.op (R.asS rfl) (VL.op (R.asI rfl) (VL.op (R.asI rfl) (VL.nil (V.ret (fret3 (v := .slice _ _ _) (x := .int _ _) (y := .int _ _) rfl rfl rfl rfl rfl rfl rfl (?_))))))))))))))
  exact ⟨(⟨none, 0, []⟩, 0, x.e), rfl, ⟨TSl.nil _ _ _ _, by rw [hch, he]⟩, E1⟩
 have hnw' := narrowB_iff.1 hnw
 have hcb := costB_iff.1 (validG_iff.1 hv).1
 have hgn : (grV g).n = g.n := rfl
 have hn4 : g.n ≤ 4000 := hcb.2.1
 have hn0 : 0 ≤ g.n := hcb.1
 have hln := comps_len hv
 have hlen := hP.len
 have hzl : x.z.length = (compsG (grV g)).length := by rw [← hP.zv]; exact (List.length_map _).symm
 have hzat : ∀ i, i < x.z.length → (compsG (grV g)).getD i default = (x.z.getD i default).l := fun i hi => by rw [← hP.zv]; exact gmap SlI.l x.z default hi
 have hpe := partsE_narrow hv hnw
 obtain ⟨hc0, hch, _⟩ := cheap_is hv hpe
 obtain ⟨F, hF⟩ : ∃ F : List Int → List Int × Int, F = fun c => chF (partG (grV g) c).cost c (repsG (partG (grV g) c)) := ⟨_, rfl⟩
 have hFc : ∀ c, F c = chF (partG (grV g) c).cost c (repsG (partG (grV g) c)) := fun c => by rw [hF]
 have hbest : ∀ v, v ∈ (cheapG (grV g)).1.1 ↔ ∃ c ∈ compsG (grV g), v ∈ (F c).1 := fun v => by
  have : cheapG (grV g) = ((srtF ((compsG (grV g)).map fun c => (F c).1).flatten, sm ((compsG (grV g)).map fun c => (F c).2)), 0) := by
   unfold cheapG partsC
   rw [if_pos hpe, if_pos hpe, hF]
   simp only [List.map_map]
   rfl
  rw [this]
  dsimp only
  rw [srtF_mem, List.mem_flatten]
  constructor
  ·rintro ⟨l, hl, h⟩
   obtain ⟨c, hc, rfl⟩ := List.mem_map.1 hl
   exact ⟨c, hc, h⟩
  ·rintro ⟨c, hc, h⟩
   exact ⟨_, List.mem_map_of_mem hc, h⟩
 have hbl := rep_len hch.rep hn0
 refine V.region (VL.op (R.mvI rfl) (VL.op (R.lit (R.neq rfl rfl) ((decide_eq_false (fun h => h he)))) (VL.nil (V.condF rfl (V.skip (V.seq (?_)))))))
 refine V.region (VL.op (R.asS rfl) (VL.nil (V.seq (V.seq (V.region (VL.op (R.asI rfl) (VL.nil (V.block (?_)))))))))
 refine V.loop [1, 5, 6, 8, 9] (fun y : Nat × SlI => [.pointer (some ⟨b0_0, 0, none⟩), .slice x.a x.L.length x.c, .slice x.za x.z.length x.zc, .slice y.2.a y.2.l.length y.2.c, .int .i64 (y.1 : Nat)])
  (fun y w' => y.1 ≤ x.L.length ∧ IntSl w' y.2.a y.2.l ∧ (y.2.a = none → y.2.c = 0) ∧ Inc y.2.l ∧ (∀ v, v ∈ y.2.l ↔ ∃ j, j < y.1 ∧ v ∈ (F ((compsG (grV g)).getD j default)).1) ∧ (∀ v ∈ y.2.l, v ∈ (cheapG (grV g)).1.1) ∧ Ext w1 w') (fun y => x.L.length - y.1) (0, ⟨none, 0, []⟩) rfl ⟨Nat.zero_le _, TSl.nil _ _ _ _, fun _ => rfl, List.Pairwise.nil, fun v => ⟨fun h => (nomatch h), fun ⟨j, h, _⟩ => absurd h (Nat.not_lt_zero j)⟩, (fun v h => nomatch h), Vc.Mod.refl _ _⟩ ?_
 rintro ρ ⟨i, O⟩ w2 ⟨hi, hO, hOa, hOi, hOm, hOb, e2⟩
 dsimp only at hi hO hOa hOi hOm hOb e2 ⊢
 have hs2 := hP.s.ext e2
 have hz2 := hP.zl.ext e2
 have hX2 := hX1.ext e2
 have hOl : O.l.length ≤ 4000 := by
  have := nodup_sub (inc_nodup hOi) hOb
  omega
 refine V.seq (V.seq (V.region (VL.op (R.mvI rfl) (VL.op (R.mvS rfl) (VL.op (R.lenS Tryz.runUnderlying72 rfl) (VL.op (R.lss rfl rfl) (VL.nil (V.condP rfl (fun c26 => V.skip (V.seq (V.block (V.seq (?_))))) (fun c26 => V.exit (V.seq (?_)))))))))))
 ·have hil : i < x.L.length := by omega
  have hPk := (hP.at_ i hil).ext e2
  obtain ⟨c, hc⟩ : ∃ c, c = (compsG (grV g)).getD i default := ⟨_, rfl⟩
  have hcc : c ∈ compsG (grV g) := by rw [hc]; exact gmem (by omega)
  rw [← hc] at hPk
  have hpv := part_valid hv (comps_set hv hcc)
  have hyv : validG (grV (x.L.getD i default)) = true := by rw [hPk.v]; exact hpv
  have hyn : (x.L.getD i default).n = ((c.length : Nat) : Int) := congrArg Gr.n hPk.v
  have hyc : (x.L.getD i default).cost = (partG (grV g) c).cost := congrArg Gr.cost hPk.v
  have hc10 := hnw' c hcc
  have hpcb := costB_iff.1 (validG_iff.1 hpv).1
  have hyc0 : ∀ v ∈ (x.L.getD i default).cost, 0 ≤ v ∧ v ≤ 1000000000 := by rw [hyc]; exact hpcb.2.2.2
  have hycl : ((x.L.getD i default).cost.length : Int) = (c.length : Nat) := by rw [hyc]; exact hpcb.2.2.1
  have hgl' := hPk.n.valid hyv
  have hrl := narrow_len (g := partG (grV g) c) rfl hc10
  have hup : ∀ {B' : Nat} {w' : World} {z : List SlI × Option Addr × Nat}, AlR B' w' z (allR (grV (x.L.getD i default)) c.length c.length []) → vals z.1 = repsG (partG (grV g) c) ∧ z.1.length ≤ 1024 ∧ ∀ y ∈ z.1, y.l.length ≤ 10 := fun h => by
   have h1 := h.v
   rw [allR_reps hyv hyn, hPk.v] at h1
   refine ⟨h1, by rw [← show (vals _).length = _ from List.length_map _, h1]; exact hrl, fun y hy => ?_⟩
   have hym : y.l ∈ repsG (partG (grV g) c) := by rw [← h1]; exact List.mem_map_of_mem hy
   have := rep_len ((reps_mem hpv).1 hym) hpcb.1
   have hn : (partG (grV g) c).n = ((c.length : Nat) : Int) := rfl
   omega
  refine V.region (VL.op (R.mvS rfl) (VL.op (R.mvI rfl) (VL.op (R.ixS Tryz.runUnderlying72 Tryz.sizeOf25 rfl rfl (by omega) (by omega) (hs2.some (i := i) hil)) (VL.op (R.ldA Tryz.isAgg25 Tryz.sizeOf25 rfl rfl ((show RowAt _ _ _ (encGr (x.L.getD i default)) from (hs2.row (i := i) hil))) rfl) (VL.callX Tryz.call47 rfl (all28_spec (x.L.getD i default) c.length hgl' hyv hyn hc10 c.length 0 (by omega) none 0 [] w2 hPk.n.ok (TSl.nil _ _ _ _) (TyA.none _ _) (fun _ => rfl) (setB_iff.2 ⟨List.Pairwise.nil, fun x hx => nomatch hx⟩) (loadB_iff.1 (load_nil hyv)).2.2) fun z w8 h8 e8 => VL.callX Tryz.call48 rfl (sorted28_spec z.2.1 z.2.2 z.1 w8 (OwnT.hax h8.o) ⟨OwnT.sl h8.o, fun y hy => (h8.e y hy).s⟩ (by have := (hup h8).2.1; omega) (fun y hy => by have := (hup h8).2.2 y hy; omega) (by rw [(hup h8).1]; exact reps_up hpv)) fun s w9 h9 e9 => VL.op (R.asS rfl) (VL.nil (V.seq (?_))))))))
  obtain ⟨hzv, hzle, hyl⟩ := hup h8
  have hL9 : LL w9 s.1 z.1 := ⟨OwnT.sl h9, fun y hy => (h8.e y hy).s.ext e9⟩
  have hzp : 0 < z.1.length := by
   rw [← show (vals z.1).length = z.1.length from List.length_map _, hzv]
   exact List.length_pos_iff.2 (reps_ne hpv)
  have hrep : ∀ j, j < z.1.length → IsRep (partG (grV g) c) (z.1.getD j default).l := fun j hj => (reps_mem hpv).1 (by rw [← hzv]; exact List.mem_map_of_mem (gmem hj))
  have hrr : ∀ j, j < z.1.length → ∀ v ∈ (z.1.getD j default).l, 0 ≤ v ∧ v < ((x.L.getD i default).cost.length : Int) := fun j hj v hv' => by
   obtain ⟨q, hq, rfl⟩ := rep_in (hrep j hj) v hv'
   omega
  have hcr : ∀ r, 0 ≤ costR (x.L.getD i default).cost r := fun r => (costR_bnd hyc0 r).1
  have E9 := e8.trans e9
  refine V.region (VL.op (R.mvS rfl) (VL.op (R.ixS Tryz.runUnderlying23 Tryz.sizeOf22 rfl rfl (by omega) (by omega) (hL9.sl.some (i := 0) hzp)) (VL.op (R.ld1 Tryz.isAgg22 rfl (((hL9.sl.row (i := 0) hzp).cell (i := 0) rfl))) (VL.op (R.asS rfl) (VL.nil (V.seq (V.seq (?_))))))))
  refine V.region (VL.op (R.asI rfl) (VL.nil (V.block (?_))))
  refine V.loop [1, 5, 6, 8, 9, 10, 11, 12] (fun y : Nat × Nat => [.pointer (some ⟨b0_0, 0, none⟩), .slice x.a x.L.length x.c, .slice x.za x.z.length x.zc, .slice O.a O.l.length O.c, .int .i64 (i : Nat), .slice s.1 z.1.length s.2, .slice (z.1.getD y.2 default).a (z.1.getD y.2 default).l.length (z.1.getD y.2 default).c, .int .i64 (y.1 : Nat)])
   (fun y w' => 1 ≤ y.1 ∧ y.1 ≤ z.1.length ∧ y.2 < z.1.length ∧ chF (x.L.getD i default).cost c ((vals z.1).take y.1) = ((z.1.getD y.2 default).l.map fun v => c.getD v.toNat default, costR (x.L.getD i default).cost (z.1.getD y.2 default).l) ∧ Ext w9 w') (fun y => z.1.length - y.1) (1, 0) rfl ⟨Nat.le_refl _, hzp, hzp, ?_, Vc.Mod.refl _ _⟩ ?_
  ·rw [List.take_succ_eq_append_getElem (by rw [show (vals z.1).length = z.1.length from List.length_map _]; exact hzp), List.take_zero, List.nil_append]
   show stepC _ _ ([], -1) _ = _
   unfold stepC
   rw [if_pos (.inl (show (-1 : Int) < 0 by decide)), ← gget (by rw [show (vals z.1).length = z.1.length from List.length_map _]; exact hzp), show (vals z.1).getD 0 default = (z.1.getD 0 default).l from gmap SlI.l z.1 default hzp]
  rintro ρ2 ⟨k, j⟩ w3 ⟨hk1, hk, hj, hch2, e3⟩
  dsimp only at hk1 hk hj hch2 e3 ⊢
  have hL3 := hL9.ext e3
  have hs3 := hs2.ext (E9.trans e3)
  have hPk3 := hPk.ext (E9.trans e3)
  have hz3 := hz2.ext (E9.trans e3)
  have hO3 := hO.ext (E9.trans e3)
  refine V.seq (V.seq (V.region (VL.op (R.mvI rfl) (VL.op (R.mvS rfl) (VL.op (R.lenS Tryz.runUnderlying23 rfl) (VL.op (R.lss rfl rfl) (VL.nil (V.condP rfl (fun c41 => V.skip (V.seq (V.block (V.seq (?_))))) (fun c41 => V.exit (V.seq (?_)))))))))))
  ·have hkl : k < z.1.length := by omega
   have hyk := hyl _ (gmem hkl)
   have hyj := hyl _ (gmem hj)
   have hst : chF (x.L.getD i default).cost c ((vals z.1).take (k + 1)) = stepC (x.L.getD i default).cost c (chF (x.L.getD i default).cost c ((vals z.1).take k)) (z.1.getD k default).l := by
    have hvl : k < (vals z.1).length := by rw [show (vals z.1).length = z.1.length from List.length_map _]; exact hkl
    rw [List.take_succ_eq_append_getElem hvl, chF_snoc, ← gget hvl, show (vals z.1).getD k default = (z.1.getD k default).l from gmap SlI.l z.1 default hkl]
   rw [hch2] at hst
   refine V.regionQ mixed 16 (by kernel_rfl) rfl (fun w' => Ext _ w') (Ext.drawn _) (VQ.op (fun wq eq => R.mvS rfl) (VQ.op (fun wq eq => R.mvI rfl) (VQ.op (fun wq eq => R.ixS Tryz.runUnderlying72 Tryz.sizeOf25 rfl rfl (by omega) (by omega) (hs3.some (i := i) hil)) (VQ.op (fun wq eq => R.ldA Tryz.isAgg25 Tryz.sizeOf25 rfl rfl ((show RowAt _ _ _ (encGr (x.L.getD i default)) from ((hs3.ext eq).row (i := i) hil))) rfl) (VQ.op (fun wq eq => R.mvS rfl) (VQ.op (fun wq eq => R.mvI rfl) (VQ.op (fun wq eq => R.ixS Tryz.runUnderlying23 Tryz.sizeOf22 rfl rfl (by omega) (by omega) (hL3.sl.some (i := k) hkl)) (VQ.op (fun wq eq => R.ld1 Tryz.isAgg22 rfl ((((hL3.sl.ext eq).row (i := k) hkl).cell (i := 0) rfl))) (VQ.callP (fun _ _ h k => Mod.trans h k) Tryz.call35 rfl (fun wq eq => cost28_spec (x.L.getD i default) (z.1.getD k default).a (z.1.getD k default).c (z.1.getD k default).l wq (hPk3.n.ok.ext eq) hyc0 ((hL3.ext eq).at hkl) (by omega) (hrr k hkl) (by omega)) (VQ.op (fun wq eq => R.mvS rfl) (VQ.op (fun wq eq => R.mvI rfl) (VQ.op (fun wq eq => R.ixS Tryz.runUnderlying72 Tryz.sizeOf25 rfl rfl (by omega) (by omega) (hs3.some (i := i) hil)) (VQ.op (fun wq eq => R.ldA Tryz.isAgg25 Tryz.sizeOf25 rfl rfl ((show RowAt _ _ _ (encGr (x.L.getD i default)) from ((hs3.ext eq).row (i := i) hil))) rfl) (VQ.op (fun wq eq => R.mvS rfl) (VQ.callP (fun _ _ h k => Mod.trans h k) Tryz.call35 rfl (fun wq eq => cost28_spec (x.L.getD i default) (z.1.getD j default).a (z.1.getD j default).c (z.1.getD j default).l _ (hPk3.n.ok.ext eq) hyc0 ((hL3.ext eq).at hj) (by omega) (hrr j hj) (by omega)) (VQ.op (fun wq eq => R.lss rfl rfl) (VQ.nil fun w13q e13q => VL.nil (V.condP rfl (fun c59 => V.region (VL.op (R.mvS rfl) (VL.op (R.mvI rfl) (VL.op (R.ixS Tryz.runUnderlying23 Tryz.sizeOf22 rfl rfl (by omega) (by omega) ((hL3.sl.ext e13q).some (i := k) hkl)) (VL.op (R.ld1 Tryz.isAgg22 rfl ((((hL3.sl.ext e13q).row (i := k) hkl).cell (i := 0) rfl))) (VL.op (R.asS rfl) (VL.nil (V.region (VL.op (R.mvI rfl) (VL.op (R.add rfl rfl (by omega) (by omega)) (VL.op (R.asI rfl) (VL.nil (?_))))))))))))) (fun c59 => V.skip (V.region (VL.op (R.mvI rfl) (VL.op (R.add rfl rfl (by omega) (by omega)) (VL.op (R.asI rfl) (VL.nil (?_)))))))))))))))))))))))))
   ·refine ⟨(k + 1, k), rfl, ⟨by dsimp only; omega, by dsimp only; omega, hkl, ?_, e3.trans e13q⟩, by dsimp only; omega⟩
    dsimp only
    rw [hst]
    unfold stepC
    rw [if_pos (.inr c59)]
   ·refine ⟨(k + 1, j), rfl, ⟨by dsimp only; omega, by dsimp only; omega, hj, ?_, e3.trans e13q⟩, by dsimp only; omega⟩
    dsimp only
    rw [hst]
    unfold stepC
    have := hcr (z.1.getD j default).l
    rw [if_neg (by dsimp only; omega)]
  ·have hke : k = z.1.length := by omega
   subst hke
   rw [List.take_of_length_le (by rw [show (vals z.1).length = z.1.length from List.length_map _]; exact Nat.le_refl _), hzv, hyc] at hch2
   obtain ⟨r, hr⟩ : ∃ r, r = z.1.getD j default := ⟨_, rfl⟩
   rw [← hr] at hch2 ⊢
   have hrl2 : r.l.length ≤ 10 := by rw [hr]; exact hyl _ (gmem hj)
   have hrs : IntSl w3 r.a r.l := by rw [hr]; exact hL3.at hj
   have hrx : ∀ v ∈ r.l, ∃ q : Nat, q < c.length ∧ v = (q : Int) := by rw [hr]; exact rep_in (hrep j hj)
   have hFr : (F c).1 = r.l.map fun v => c.getD v.toNat default := by rw [hFc, hch2]
   have hiz : i < x.z.length := by omega
   have hcz : (x.z.getD i default).l = c := by rw [hc, hzat i hiz]
   refine V.region (VL.op (R.asI rfl) (VL.nil (V.block (?_))))
   refine V.loop [1, 5, 6, 8, 9, 11, 13] (fun y : Nat × SlI => [.pointer (some ⟨b0_0, 0, none⟩), .slice x.a x.L.length x.c, .slice x.za x.z.length x.zc, .slice y.2.a y.2.l.length y.2.c, .int .i64 (i : Nat), .slice r.a r.l.length r.c, .int .i64 (y.1 : Nat)])
    (fun y w' => y.1 ≤ r.l.length ∧ IntSl w' y.2.a y.2.l ∧ (y.2.a = none → y.2.c = 0) ∧ Inc y.2.l ∧ (∀ v, v ∈ y.2.l ↔ v ∈ O.l ∨ v ∈ (r.l.take y.1).map fun v => c.getD v.toNat default) ∧ Ext w3 w') (fun y => r.l.length - y.1) (0, O) rfl ⟨Nat.zero_le _, hO3, hOa, hOi, fun v => ⟨.inl, fun h => h.resolve_right (by simp)⟩, Vc.Mod.refl _ _⟩ ?_
   rintro ρ3 ⟨q, Q⟩ w4 ⟨hq, hQ, hQa, hQi, hQm, e4⟩
   dsimp only at hq hQ hQa hQi hQm e4 ⊢
   have hz4 := hz3.ext e4
   have hr4 := hrs.ext e4
   have hcz4 := hz4.at hiz
   have hQb : ∀ v ∈ Q.l, v ∈ (cheapG (grV g)).1.1 := fun v hv' => by
    rcases (hQm v).1 hv' with h | h
    ·exact hOb v h
    ·refine (hbest v).2 ⟨c, hcc, ?_⟩
     rw [hFr]
     obtain ⟨u, hu, rfl⟩ := List.mem_map.1 h
     exact List.mem_map_of_mem (List.mem_of_mem_take hu)
   have hQl : Q.l.length ≤ 4000 := by
    have := nodup_sub (inc_nodup hQi) hQb
    omega
   refine V.seq (V.seq (V.region (VL.op (R.mvI rfl) (VL.op (R.mvS rfl) (VL.op (R.lenS Tryz.runUnderlying22 rfl) (VL.op (R.lss rfl rfl) (VL.nil (V.condP rfl (fun c67 => V.skip (V.seq (V.block (?_)))) (fun c67 => V.exit (V.region (VL.op (R.mvI rfl) (VL.op (R.add rfl rfl (by omega) (by omega)) (VL.op (R.asI rfl) (VL.nil (?_)))))))))))))))
   ·have hql : q < r.l.length := by omega
    obtain ⟨u, hu, hru⟩ := hrx _ (gmem hql)
    have hcl : c.length = (x.z.getD i default).l.length := by rw [hcz]
    refine V.regionQ mixed 11 (by kernel_rfl) rfl (fun w' => Ext _ w') (Ext.drawn _) (VQ.op (fun wq eq => R.mvS rfl) (VQ.op (fun wq eq => R.mvS rfl) (VQ.op (fun wq eq => R.mvI rfl) (VQ.op (fun wq eq => R.ixS Tryz.runUnderlying23 Tryz.sizeOf22 rfl rfl (by omega) (by omega) ((hz4.sl).some (i := i) (by omega))) (VQ.op (fun wq eq => R.ld1 Tryz.isAgg22 rfl (((((hz4.sl).ext eq).row (i := i) (by omega)).cell (i := 0) rfl))) (VQ.op (fun wq eq => R.mvS rfl) (VQ.op (fun wq eq => R.mvI rfl) (VQ.op (fun wq eq => R.ixS Tryz.runUnderlying22 Tryz.sizeOf3 rfl rfl (by omega) (by omega) ((hr4).some (i := q) (by omega))) (VQ.op (fun wq eq => R.ld1 Tryz.isAgg3 rfl (((((hr4).ext eq).row (i := q) (by omega)).cell (i := 0) rfl))) (VQ.op (fun wq eq => R.ixS Tryz.runUnderlying22 Tryz.sizeOf3 rfl rfl (by omega) (by omega) ((hcz4).some (i := (r.l.getD q default).toNat) (by omega))) (VQ.op (fun wq eq => R.ld1 Tryz.isAgg3 rfl (((((hcz4).ext eq).row (i := (r.l.getD q default).toNat) (by omega)).cell (i := 0) rfl))) (VQ.nil fun w18q e18q => VL.callX Tryz.call34 rfl (put28_spec Q.a Q.c Q.l ((x.z.getD i default).l.getD (r.l.getD q default).toNat default) _ (by omega) hQa (hQ.ext e18q)) fun s18 w18 h18 e18 => VL.op (R.asS rfl) (VL.nil (V.region (VL.op (R.mvI rfl) (VL.op (R.add rfl rfl (by omega) (by omega)) (VL.op (R.asI rfl) (VL.nil (?_)))))))))))))))))))
    refine ⟨(q + 1, ⟨s18.1, s18.2, setF (Q.l ++ [(x.z.getD i default).l.getD (r.l.getD q default).toNat default])⟩), rfl, ⟨by dsimp only; omega, OwnT.sl h18, OwnT.hax h18, setF_inc _, fun v => ?_, e4.trans (e18q.trans e18)⟩, by dsimp only; omega⟩
    dsimp only
    rw [hcz, put_cheap, hQm, List.take_succ_eq_append_getElem hql, List.map_append, List.mem_append, gget hql, or_assoc]
    simp
   ·have hqe : q = r.l.length := by omega
    subst hqe
    rw [List.take_length, ← hFr] at hQm
    refine ⟨(i + 1, Q), rfl, ⟨by dsimp only; omega, hQ, hQa, hQi, fun v => ?_, hQb, e2.trans (E9.trans (e3.trans e4))⟩, by dsimp only; omega⟩
    dsimp only
    rw [hQm, hOm]
    constructor
    ·rintro (⟨t, ht, h⟩ | h)
     ·exact ⟨t, by omega, h⟩
     ·exact ⟨i, by omega, by rw [← hc]; exact h⟩
    ·rintro ⟨t, ht, h⟩
     by_cases hti : t = i
     ·subst hti; rw [← hc] at h; exact .inr h
     ·exact .inl ⟨t, by omega, h⟩
 ·have hie : i = x.L.length := by omega
  subst hie
  have hOeq : O.l = (cheapG (grV g)).1.1 := inc_ext hOi (setB_iff.1 hch.rep.set).1 fun v => by
   rw [hOm, hbest]
   constructor
   ·rintro ⟨j, hj, h⟩
    exact ⟨_, gmem (show j < (compsG (grV g)).length by omega), h⟩
   ·rintro ⟨c, hc, h⟩
    obtain ⟨j, hj, rfl⟩ := List.getElem_of_mem hc
    exact ⟨j, by omega, by rw [gget hj]; exact h⟩
  have hgc : ∀ v ∈ g.cost, 0 ≤ v ∧ v ≤ 1000000000 := hcb.2.2.2
  have hgcl : (g.cost.length : Int) = g.n := hcb.2.2.1
  refine V.region (VL.op (R.mvS rfl) (VL.op (R.ldA Tryz.isAgg25 Tryz.sizeOf25 rfl rfl ((show RowAt _ _ _ (encGr g) from hX2.rowAt 0 3)) rfl) (VL.op (R.mvS rfl) (VL.callP Tryz.call35 rfl (cost28_spec g O.a O.c O.l w2 (hG.ext (E1.trans e2)) hgc hO (by omega) (fun v hv' => by have := (setB_iff.1 hch.rep.set).2 v (hOb v hv'); omega) (by omega)) fun w19_3 e19_3 => VL.op (R.asS rfl) (VL.op (R.asI rfl) (VL.op (R.asI rfl) (VL.nil (V.ret (fret3 (v := .slice _ _ _) (x := .int _ _) (y := .int _ _) rfl rfl rfl rfl rfl rfl rfl (?_))))))))))
  refine ⟨(O, costR g.cost O.l, 0), rfl, ⟨hO.ext e19_3, ?_⟩, E1.trans (e2.trans e19_3)⟩
  dsimp only
  have h1 := hch.cost
  rw [hOeq]
  exact Prod.ext (Prod.ext rfl h1) hc0.symm
end Go.Proofs.YtlnbkoojelhjdaaGreatDoor
