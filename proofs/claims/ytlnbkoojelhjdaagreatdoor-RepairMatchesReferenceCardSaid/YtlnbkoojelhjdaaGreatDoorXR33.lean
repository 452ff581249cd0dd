/- Repair: the reference: blocked, Independent, Is. -/
import Derived.Test.YtlnbkoojelhjdaaGreatDoorXR6
import Derived.Test.YtlnbkoojelhjdaaGreatDoorXR18
import Derived.Test.YtlnbkoojelhjdaaGreatDoorXQ1
import Derived.Test.YtlnbkoojelhjdaaGreatDoorXR26
import Derived.Test.YtlnbkoojelhjdaaGreatDoorXH22a
namespace Go.Proofs.YtlnbkoojelhjdaaGreatDoor
open Go.Vc
set_option maxRecDepth 100000
set_option maxHeartbeats 16000000
theorem blkR_eq {g : Gr} (hg : validG g = true) {S : List Int} (_hi : Inc S) (hf : indB g.edges S = true) (v : Int) : (!freeF g.edges (setF (S ++ [v]))) = blkB g.edges S v := by
 have hE := (validG_iff.1 hg).2.2.1
 have hf := indB_iff.1 hf
 have key : freeF g.edges (setF (S ++ [v])) = true ↔ blkB g.edges S v = false := by
  rw [freeF_sets (fun e he => ⟨(hE e he).2.1, (hE e he).1⟩) (setF_inc _)]
  constructor
  ·intro h
   rw [← Bool.not_eq_true]
   intro hb
   obtain ⟨e, he, hve, hall⟩ := blkB_iff.1 hb
   have := h e he
   rw [subB_iff.2 fun x hx => (setF_mem _ _).2 (List.mem_append.2 (by
    by_cases hxv : x = v
    ·exact .inr (by simp [hxv])
    ·exact .inl (hall x hx hxv)))] at this
   cases this
  ·intro hb e he
   rw [← Bool.not_eq_true]
   intro hs
   have hs := subB_iff.1 hs
   have hin : ∀ x ∈ e, x ≠ v → x ∈ S := fun x hx hne => by
    rcases List.mem_append.1 ((setF_mem _ _).1 (hs x hx)) with h | h
    ·exact h
    ·exact absurd (List.mem_singleton.1 h) hne
   by_cases hve : v ∈ e
   ·rw [blkB_iff.2 ⟨e, he, hve, hin⟩] at hb; cases hb
   ·have := hf e he
    rw [subB_iff.2 fun x hx => hin x hx fun e => hve (e ▸ hx)] at this
    cases this
 cases h : freeF g.edges (setF (S ++ [v])) with
 | true => rw [key.1 h]; rfl
 | false =>
  cases hb : blkB g.edges S v with
  | true => rfl
  | false => rw [key.2 hb] at h; cases h
theorem free_ind {g : Gr} (hg : validG g = true) {S : List Int} (hi : Inc S) : freeF g.edges S = indB g.edges S := by
 have hE := (validG_iff.1 hg).2.2.1
 rw [Bool.eq_iff_iff, freeF_sets (fun e he => ⟨(hE e he).2.1, (hE e he).1⟩) hi, indB_iff]
theorem blocked28_spec (g : GrW) (a : Option Addr) (c : Nat) (S : List Int) (v : Int) (w : World) (hG : GOk w g) (hl : GLen g) (hm : S.length ≤ 100000) (hax : a = none → c = 0) (hS : IntSl w a S) :
  RetsP Tryz.prog 44 #[.agg (encGr g).toArray, .slice a S.length c, .int .i64 v] w (.bool (!freeF (vals g.edges) (setF (S ++ [v])))) := by
 have hpl := setF_len (S ++ [v])
 have hpl2 : (S ++ [v]).length = S.length + 1 := by simp
 refine enter (args := [_, _, _]) Tryz.func44 rfl Tryz.ntmps44 (by kernel_rfl) rfl ?_
 refine V.seq (V.region (VL.box (v := .agg _) rfl fun b0_0 w0_0 hb0_0 e0_0 hB0_0 => VL.op (R.asB rfl) (VL.nil (V.seq (?_)))))
 refine V.regionD (T := Ext) mixed 5 (by kernel_rfl) rfl (fun us => VD.op (fun wq eq => R.fld' (o := 2) Tryz.runUnderlying25 rfl rfl Tryz.sizeOf23 rfl rfl) (VD.op (fun wq eq => R.ld1 Tryz.isAgg23 rfl ((show wq.cell? ⟨b0_0, 2, none⟩ = some (Value.slice g.ea g.edges.length g.ec) from (hB0_0.ext eq).cell 2))) (VD.op (fun wq eq => R.mvS rfl) (VD.op (fun wq eq => R.mvI rfl) (VD.callX (fun _ => fun u w' => ∃ x : Option Addr × Nat, u = .slice x.1 (setF (S ++ [v])).length x.2 ∧ IntSl w' x.1 (setF (S ++ [v]))) (DepS.const _) (fun u a b _ ⟨x, h1, h2⟩ eb => ⟨x, h1, h2.ext eb⟩) Tryz.call34 rfl (fun wq eq hq => by
   refine Rets.mono (put28_spec a c S v wq hm hax (hS.ext (e0_0.trans eq))) ?_
   rintro u w' ⟨x, hu, h1, he⟩
   exact ⟨⟨x, hu, OwnT.sl h1⟩, he⟩) (VD.nil (fun w1 e1 h1 => ?_))))))) rfl
 obtain ⟨x, hx, hxs⟩ := h1 4
 rw [hx]
 refine VL.callP Tryz.call51 rfl (free_spec g.edges g.ea x.1 g.ec x.2 (setF (S ++ [v])) w1 (by have := hl.e; omega) (fun y hy => by have := (hl.each y hy).1; omega) (by omega) (hG.e.ext (e0_0.trans e1)) hxs) fun w1_5 e1_5 => VL.op (R.not rfl) (VL.op (R.asB rfl) (VL.nil (V.ret (fret1 (v := .bool _) rfl rfl rfl (⟨rfl, e0_0.trans (e1.trans e1_5)⟩)))))
theorem ind28_spec (g : GrW) (a : Option Addr) (c : Nat) (S : List Int) (w : World) (hG : GOk w g) (hl : GLen g) (hm : S.length ≤ 100000) (hS : IntSl w a S) :
  RetsP Tryz.prog 18 #[.agg (encGr g).toArray, .slice a S.length c] w (.bool (loadB (grV g) S)) := by
 have hle := hl.e
 refine enter (args := [_, _]) Tryz.func18 rfl Tryz.ntmps18 (by kernel_rfl) rfl ?_
 refine V.seq (V.region (VL.box (v := .agg _) rfl fun b0_0 w0_0 hb0_0 e0_0 hB0_0 => VL.op (R.asB rfl) (VL.nil (V.seq (V.region (VL.op (R.ldA Tryz.isAgg25 Tryz.sizeOf25 rfl rfl ((show RowAt _ _ _ (encGr g) from (hB0_0.rowAt 0 3))) rfl) (VL.callP Tryz.call46 rfl (rvalid_spec g _ (hG.ext e0_0) hl) fun w1_1 e1_1 => VL.op (R.mvB rfl) (VL.and rfl rfl (fun g1_2 => VL.op (R.mvS rfl) (VL.gT rfl rfl (VL.op (R.fld' (o := 0) Tryz.runUnderlying25 rfl rfl Tryz.sizeOf3 rfl rfl) (VL.gT rfl rfl (VL.op (R.ld1 Tryz.isAgg3 rfl (((hB0_0.ext e1_1).cell 0))) (VL.gT rfl rfl (VL.callP Tryz.call49 rfl (verts_spec a c S g.n _ (by omega) (hS.ext (e0_0.trans e1_1))) fun w1_6 e1_6 => VL.op (R.pickTB rfl rfl) (VL.op (R.mvB rfl) (VL.and rfl rfl (fun g1_8 => VL.op (R.mvS rfl) (VL.gT rfl rfl (VL.callP Tryz.call50 rfl (incr_spec a c S _ (by omega) (hS.ext ((e0_0.trans e1_1).trans e1_6))) fun w1_10 e1_10 => VL.op (R.pickTB rfl rfl) (VL.op (R.mvB rfl) (VL.and rfl rfl (fun g1_12 => VL.op (R.fld' (o := 2) Tryz.runUnderlying25 rfl rfl Tryz.sizeOf23 rfl rfl) (VL.gT rfl rfl (VL.op (R.ld1 Tryz.isAgg23 rfl (((hB0_0.ext (e1_1.trans (e1_6.trans e1_10))).cell 2))) (VL.gT rfl rfl (VL.op (R.mvS rfl) (VL.gT rfl rfl (VL.callP Tryz.call51 rfl (free_spec g.edges g.ea a g.ec c S _ (by omega) (fun y hy => by have := (hl.each y hy).1; omega) (by omega) (hG.e.ext (((e0_0.trans e1_1).trans e1_6).trans e1_10)) (hS.ext (((e0_0.trans e1_1).trans e1_6).trans e1_10))) fun w1_16 e1_16 => VL.op (R.pickTB rfl rfl) (VL.op (R.asB rfl) (VL.nil (V.ret (fret1 (v := .bool _) rfl rfl rfl (⟨?_, ((((e0_0.trans e1_1).trans e1_6).trans e1_10).trans e1_16)⟩)))))))))))) (fun g1_12 => VL.gF rfl rfl (VL.gF rfl rfl (VL.gF rfl rfl (VL.op (R.pickFB rfl rfl) (VL.op (R.asB rfl) (VL.nil (V.ret (fret1 (v := .bool _) rfl rfl rfl (⟨?_, (((e0_0.trans e1_1).trans e1_6).trans e1_10)⟩)))))))))))))) (fun g1_8 => VL.gF rfl rfl (VL.op (R.pickFB rfl rfl) (VL.op (R.mvB rfl) (VL.gF rfl rfl (VL.gF rfl rfl (VL.gF rfl rfl (VL.gF rfl rfl (VL.op (R.pickFB rfl rfl) (VL.op (R.asB rfl) (VL.nil (V.ret (fret1 (v := .bool _) rfl rfl rfl (⟨?_, ((e0_0.trans e1_1).trans e1_6)⟩)))))))))))))))))))))) (fun g1_2 => VL.gF rfl rfl (VL.gF rfl rfl (VL.gF rfl rfl (VL.op (R.pickFB rfl rfl) (VL.op (R.mvB rfl) (VL.gF rfl rfl (VL.gF rfl rfl (VL.op (R.pickFB rfl rfl) (VL.op (R.mvB rfl) (VL.gF rfl rfl (VL.gF rfl rfl (VL.gF rfl rfl (VL.gF rfl rfl (VL.op (R.pickFB rfl rfl) (VL.op (R.asB rfl) (VL.nil (V.ret (fret1 (v := .bool _) rfl rfl rfl (⟨?_, (e0_0.trans e1_1)⟩)))))))))))))))))))))))))))
 ·rw [show freeF (vals g.edges) S = indB (grV g).edges S from free_ind (g := grV g) g1_2 (setB_iff.1 g1_8).1]
  unfold loadB
  rw [g1_2, show setB S (grV g).n = true from g1_8]
  rfl
 ·exact absurd (setB_iff.1 g1_8).1 (of_decide_eq_false g1_12)
 ·unfold loadB
  rw [show setB S (grV g).n = false from g1_8, Bool.and_false, Bool.false_and]
 ·unfold loadB
  rw [g1_2, Bool.false_and, Bool.false_and]
theorem ris28_spec (g : GrW) (a : Option Addr) (c : Nat) (S : List Int) (w : World) (hG : GOk w g) (hl : GLen g) (hm : S.length ≤ 100000) (hax : a = none → c = 0) (hS : IntSl w a S) :
  RetsP Tryz.prog 20 #[.agg (encGr g).toArray, .slice a S.length c] w (.bool (isB (grV g) S)) := by
 refine enter (args := [_, _]) Tryz.func20 rfl Tryz.ntmps20 (by kernel_rfl) rfl ?_
 refine V.seq (V.region (VL.box (v := .agg _) rfl fun b0_0 w0_0 hb0_0 e0_0 hB0_0 => VL.op (R.asB rfl) (VL.nil (V.seq (V.seq (V.region (VL.op (R.ldA Tryz.isAgg25 Tryz.sizeOf25 rfl rfl ((show RowAt _ _ _ (encGr g) from (hB0_0.rowAt 0 3))) rfl) (VL.op (R.mvS rfl) (VL.callP Tryz.call18 rfl (ind28_spec g a c S _ (hG.ext e0_0) hl hm (hS.ext e0_0)) fun w1_2 e1_2 => VL.op (R.not rfl) (VL.nil (V.cond rfl (fun c9 => V.seq (V.region (VL.op (R.asB rfl) (VL.nil (V.ret (fret1 (v := .bool _) rfl rfl rfl (⟨?_, (e0_0.trans e1_2)⟩))))))) (fun c9 => V.skip (V.seq (V.seq (?_)))))))))))))))
 ·have hb : loadB (grV g) S = false := by simpa using c9
  unfold isB; rw [hb, Bool.false_and]
 have hb : loadB (grV g) S = true := by simpa using c9
 obtain ⟨hv, hset, hind⟩ := loadB_iff.1 hb
 have hcb := costB_iff.1 (validG_iff.1 hv).1
 have hgn : (grV g).n = g.n := rfl
 obtain ⟨N, hN⟩ : ∃ N : Nat, g.n = (N : Int) := ⟨g.n.toNat, by have := hcb.1; omega⟩
 have hN4 : N ≤ 4000 := by have := hcb.2.1; omega
 have E1 := e0_0.trans e1_2
 have hX1 : Blk w1_2 b0_0 (.cells (Value.agg (encGr g).toArray).cells 25 (0, 0)) := hB0_0.ext e1_2
 refine V.region (VL.op (R.asI rfl) (VL.nil (V.block (?_))))
 refine V.loop [1, 2, 5] (fun v : Nat => [.slice a S.length c, .pointer (some ⟨b0_0, 0, none⟩), .int .i64 (v : Nat)]) (fun v w' => v ≤ N ∧ (∀ u : Nat, u < v → (u : Int) ∈ S ∨ blkB (vals g.edges) S (u : Int) = true) ∧ Ext w1_2 w') (fun v => N - v) 0 rfl ⟨Nat.zero_le _, fun u h => absurd h (Nat.not_lt_zero u), Vc.Mod.refl _ _⟩ ?_
 rintro ρ v w2 ⟨hvN, hu, e2⟩
 have hX2 := hX1.ext e2
 have hS2 := hS.ext (E1.trans e2)
 have hbl : (!freeF (vals g.edges) (setF (S ++ [(v : Int)]))) = blkB (vals g.edges) S (v : Int) := blkR_eq hv (setB_iff.1 hset).1 hind (v : Int)
 refine V.seq (V.seq (V.region (VL.op (R.mvI rfl) (VL.op (R.fld' (o := 0) Tryz.runUnderlying25 rfl rfl Tryz.sizeOf3 rfl rfl) (VL.op (R.ld1 Tryz.isAgg3 rfl ((show w2.cell? ⟨b0_0, 0, none⟩ = some (Value.int .i64 ((N : Nat) : Int)) from by rw [← hN]; exact hX2.cell 0))) (VL.op (R.lss rfl rfl) (VL.nil (V.condP rfl (fun c13 => V.skip (V.seq (V.block (V.seq (?_))))) (fun c13 => V.exit (V.seq (V.region (VL.op (R.asB rfl) (VL.nil (V.ret (fret1 (v := .bool _) rfl rfl rfl (⟨?_, E1.trans e2⟩))))))))))))))))
 ·have hvl : v < N := by omega
  refine V.region (VL.op (R.mvS rfl) (VL.op (R.mvI rfl) (VL.callP Tryz.call33 rfl (in_spec a c S (v : Int) w2 (by omega) hS2) fun w6_2 e6_2 => VL.op (R.not rfl) (VL.op (R.mvB rfl) (VL.and rfl rfl (fun g6_4 => VL.op (R.ldA Tryz.isAgg25 Tryz.sizeOf25 rfl rfl ((show RowAt _ _ _ (encGr g) from (hX2.ext e6_2).rowAt 0 3)) rfl) (VL.gT rfl rfl (VL.op (R.mvS rfl) (VL.gT rfl rfl (VL.op (R.mvI rfl) (VL.gT rfl rfl (VL.callP Tryz.call44 rfl (blocked28_spec g a c S (v : Int) _ (hG.ext (E1.trans (e2.trans e6_2))) hl hm hax (hS2.ext e6_2)) fun w6_8 e6_8 => VL.gT rfl rfl (VL.op (R.not rfl) (VL.op (R.pickTB rfl rfl) (VL.nil (V.cond rfl (fun c26 => V.seq (V.region (VL.op (R.asB rfl) (VL.nil (V.ret (fret1 (v := .bool _) rfl rfl rfl (⟨?_, E1.trans (e2.trans (e6_2.trans e6_8))⟩))))))) (fun c26 => V.skip (V.region (VL.op (R.mvI rfl) (VL.op (R.add rfl rfl (by omega) (by omega)) (VL.op (R.asI rfl) (VL.nil (⟨v + 1, rfl, ⟨by omega, fun u h => ?_, e2.trans (e6_2.trans e6_8)⟩, by omega⟩)))))))))))))))))) (fun g6_4 => VL.gF rfl rfl (VL.gF rfl rfl (VL.gF rfl rfl (VL.gF rfl rfl (VL.op (R.pickFB rfl rfl) (VL.nil (V.condF rfl (V.skip (V.region (VL.op (R.mvI rfl) (VL.op (R.add rfl rfl (by omega) (by omega)) (VL.op (R.asI rfl) (VL.nil (⟨v + 1, rfl, ⟨by omega, fun u h => ?_, e2.trans e6_2⟩, by omega⟩)))))))))))))))))))
  ·have h1 : (v : Int) ∉ S := by simpa using g6_4
   have h2 : blkB (vals g.edges) S (v : Int) = false := by rw [← hbl]; simpa using c26
   have : isB (grV g) S = false := Bool.eq_false_iff.2 fun hh => by
    unfold isB at hh
    rw [hb, Bool.true_and, List.all_eq_true] at hh
    have := hh v (List.mem_range.2 (by omega))
    rw [decide_eq_false h1, Bool.false_or] at this
    rw [show (grV g).edges = vals g.edges from rfl, h2] at this
    cases this
   rw [this]
  ·by_cases e : u = v
   ·subst e
    refine .inr ?_
    rw [← hbl]; simpa using c26
   ·exact hu u (by omega)
  ·by_cases e : u = v
   ·subst e
    exact .inl (by simpa using g6_4)
   ·exact hu u (by omega)
 ·have : isB (grV g) S = true := by
   unfold isB
   rw [hb, Bool.true_and, List.all_eq_true]
   intro v' hv'
   have hv' := List.mem_range.1 hv'
   rcases hu v' (by omega) with h | h
   ·rw [decide_eq_true h, Bool.true_or]
   ·rw [show (grV g).edges = vals g.edges from rfl, h, Bool.or_true]
  rw [this]
end Go.Proofs.YtlnbkoojelhjdaaGreatDoor

/- Repair: the reference: Extend, needed. -/
namespace Go.Proofs.YtlnbkoojelhjdaaGreatDoor
open Go.Vc
set_option maxRecDepth 100000
set_option maxHeartbeats 16000000
theorem blkB_congr {E : List (List Int)} {P Q : List Int} {v : Int} (h : ∀ x, x ∈ P ↔ x ∈ Q) : blkB E P v = blkB E Q v := by
 rw [Bool.eq_iff_iff]
 exact ⟨blkB_mono fun x hx => (h x).1 hx, blkB_mono fun x hx => (h x).2 hx⟩
theorem indB_congr {E : List (List Int)} {P Q : List Int} (h : ∀ x, x ∈ P ↔ x ∈ Q) : indB E P = indB E Q := by
 rw [Bool.eq_iff_iff, indB_iff, indB_iff]
 have : ∀ e : List Int, subB e P = subB e Q := fun e => by
  rw [Bool.eq_iff_iff, subB_iff, subB_iff]
  exact ⟨fun k x hx => (h x).1 (k x hx), fun k x hx => (h x).2 (k x hx)⟩
 exact ⟨fun k e he => by rw [← this]; exact k e he, fun k e he => by rw [this]; exact k e he⟩
theorem rext28_spec (g : GrW) (a : Option Addr) (c : Nat) (S : List Int) (w : World) (hG : GOk w g) (hl : GLen g) (hm : S.length ≤ 100000) (hax : a = none → c = 0) (hS : IntSl w a S) :
  RetsX Tryz.prog 14 #[.agg (encGr g).toArray, .slice a S.length c] w (fun x : SlI × Int => .tuple #[.slice x.1.a x.1.l.length x.1.c, .int .i64 x.2]) (fun x w' => IntSl w' x.1.a x.1.l ∧ (x.1.l, x.2) = if loadB (grV g) S = true then (extF (grV g) S, 0) else ([], 1)) := by
 refine enter (args := [_, _]) Tryz.func14 rfl Tryz.ntmps14 (by kernel_rfl) rfl ?_
 refine V.seq (V.region (VL.box (v := .agg _) rfl fun b0_0 w0_0 hb0_0 e0_0 hB0_0 => VL.op (R.asS rfl) (VL.op (R.asI rfl) (VL.nil (V.seq (V.seq (V.region (VL.op (R.ldA Tryz.isAgg25 Tryz.sizeOf25 rfl rfl ((show RowAt _ _ _ (encGr g) from (hB0_0.rowAt 0 3))) rfl) (VL.op (R.mvS rfl) (VL.callP Tryz.call18 rfl (ind28_spec g a c S _ (hG.ext e0_0) hl hm (hS.ext e0_0)) fun w1_2 e1_2 => VL.op (R.not rfl) (VL.nil (V.cond rfl (fun c11 => V.seq (V.region (VL.op (R.asS rfl) (VL.op (R.asI rfl) (VL.nil (V.ret (fret2 (v := .slice _ _ _) (x := .int _ _) rfl rfl rfl rfl rfl (?_)))))))) (fun c11 => V.skip (V.seq (?_)))))))))))))))
 ·have hb : loadB (grV g) S = false := by simpa using c11
  exact ⟨(⟨none, 0, []⟩, 1), rfl, ⟨TSl.nil _ _ _ _, by rw [hb]; rfl⟩, e0_0.trans e1_2⟩
 have hb : loadB (grV g) S = true := by simpa using c11
 obtain ⟨hv, hset, hind⟩ := loadB_iff.1 hb
 have hcb := costB_iff.1 (validG_iff.1 hv).1
 have hgn : (grV g).n = g.n := rfl
 obtain ⟨N, hN⟩ : ∃ N : Nat, g.n = (N : Int) := ⟨g.n.toNat, by have := hcb.1; omega⟩
 have hN4 : N ≤ 4000 := by have := hcb.2.1; omega
 have E1 := e0_0.trans e1_2
 have hX1 : Blk w1_2 b0_0 (.cells (Value.agg (encGr g).toArray).cells 25 (0, 0)) := hB0_0.ext e1_2
 refine V.region (VL.buildSl Tryz.runUnderlying22 Tryz.sizeOf3 Tryz.zeroValue3 rfl rfl rfl fun b3 w3 hb3 e3 hB3 => VL.op (R.mvS rfl) (VL.appendT el22 (fun _ => rfl) rfl (rfl) ((OwnT.of0 Vc.encI 1 hB3 (Nat.le_of_eq hb3.symm))) rfl (rfl) ((hS.ext (E1.trans e3))) (hax) (by simp; omega) (by simp [maxLen]; omega) e3.size (show 0 + S.length = ([] ++ S : List Int).length by simp) fun a4 c4 w4 ho4 m4 hf4 => VL.op (R.asS rfl) (VL.nil (V.seq (V.seq (?_))))))
 have E4 : Ext w1_2 w4 := e3.ownA m4 fun q hq => by have := aBlk_some hq; omega
 have hX4 := hX1.ext E4
 rw [List.nil_append] at ho4 ⊢
 have hSi := setB_iff.1 hset
 refine V.region (VL.op (R.asI rfl) (VL.nil (V.block (?_))))
 refine V.loop [2, 6, 7] (fun x : Nat × SlI => [.pointer (some ⟨b0_0, 0, none⟩), .slice x.2.a x.2.l.length x.2.c, .int .i64 (x.1 : Nat)]) (fun x w' => x.1 ≤ N ∧ IntSl w' x.2.a x.2.l ∧ (x.2.a = none → x.2.c = 0) ∧ setB x.2.l (N : Int) = true ∧ (∀ y, y ∈ x.2.l ↔ y ∈ extK (vals g.edges) S x.1) ∧ Ext w4 w') (fun x => N - x.1) (0, ⟨a4, c4, S⟩) rfl ⟨Nat.zero_le _, OwnT.sl ho4, OwnT.hax ho4, by rw [← hN]; exact hset, fun _ => Iff.rfl, Vc.Mod.refl _ _⟩ ?_
 rintro ρ ⟨v, y⟩ w5 ⟨hvN, hy, hya, hys, hym, e5⟩
 dsimp only at hvN hy hya hys hym e5 ⊢
 have hX5 := hX4.ext e5
 have hG5 := hG.ext (E1.trans (E4.trans e5))
 have hysi := setB_iff.1 hys
 have hyl := set_len hysi.1 hysi.2 (by omega)
 have hyi : indB (vals g.edges) y.l = true := by rw [indB_congr hym]; exact extK_ind hind v
 have hbl : (!freeF (vals g.edges) (setF (y.l ++ [(v : Int)]))) = blkB (vals g.edges) (extK (vals g.edges) S v) (v : Int) := by
  rw [← blkB_congr hym]; exact blkR_eq hv hysi.1 hyi (v : Int)
 have hst := extK_succ (vals g.edges) S v
 refine V.seq (V.seq (V.region (VL.op (R.mvI rfl) (VL.op (R.fld' (o := 0) Tryz.runUnderlying25 rfl rfl Tryz.sizeOf3 rfl rfl) (VL.op (R.ld1 Tryz.isAgg3 rfl ((show w5.cell? ⟨b0_0, 0, none⟩ = some (Value.int .i64 ((N : Nat) : Int)) from by rw [← hN]; exact hX5.cell 0))) (VL.op (R.lss rfl rfl) (VL.nil (V.condP rfl (fun c18 => V.skip (V.seq (V.block (V.seq (?_))))) (fun c18 => V.exit (V.seq (V.region (VL.op (R.mvS rfl) (VL.op (R.asS rfl) (VL.op (R.asI rfl) (VL.nil (V.ret (fret2 (v := .slice _ _ _) (x := .int _ _) rfl rfl rfl rfl rfl (?_))))))))))))))))))
 ·have hvl : v < N := by omega
  refine V.region (VL.op (R.mvS rfl) (VL.op (R.mvI rfl) (VL.callP Tryz.call33 rfl (in_spec y.a y.c y.l (v : Int) w5 (by omega) hy) fun w7_2 e7_2 => VL.op (R.not rfl) (VL.op (R.mvB rfl) (VL.and rfl rfl (fun g7_4 => VL.op (R.ldA Tryz.isAgg25 Tryz.sizeOf25 rfl rfl ((show RowAt _ _ _ (encGr g) from (hX5.ext e7_2).rowAt 0 3)) rfl) (VL.gT rfl rfl (VL.op (R.mvS rfl) (VL.gT rfl rfl (VL.op (R.mvI rfl) (VL.gT rfl rfl (VL.callP Tryz.call44 rfl (blocked28_spec g y.a y.c y.l (v : Int) _ (hG5.ext e7_2) hl (by omega) hya (hy.ext e7_2)) fun w7_8 e7_8 => VL.gT rfl rfl (VL.op (R.not rfl) (VL.op (R.pickTB rfl rfl) (VL.nil (V.cond rfl (fun c31 => V.region (VL.op (R.mvS rfl) (VL.op (R.mvI rfl) (VL.callX Tryz.call34 rfl (put28_spec y.a y.c y.l (v : Int) _ (by omega) hya (hy.ext (e7_2.trans e7_8))) fun x8 w8 h8 e8 => VL.op (R.asS rfl) (VL.nil (V.region (VL.op (R.mvI rfl) (VL.op (R.add rfl rfl (by omega) (by omega)) (VL.op (R.asI rfl) (VL.nil (?_))))))))))) (fun c31 => V.skip (V.region (VL.op (R.mvI rfl) (VL.op (R.add rfl rfl (by omega) (by omega)) (VL.op (R.asI rfl) (VL.nil (?_)))))))))))))))))) (fun g7_4 => VL.gF rfl rfl (VL.gF rfl rfl (VL.gF rfl rfl (VL.gF rfl rfl (VL.op (R.pickFB rfl rfl) (VL.nil (V.condF rfl (V.skip (V.region (VL.op (R.mvI rfl) (VL.op (R.add rfl rfl (by omega) (by omega)) (VL.op (R.asI rfl) (VL.nil (?_)))))))))))))))))))
  ·have h1 : (v : Int) ∉ y.l := by simpa using g7_4
   have h2 : blkB (vals g.edges) (extK (vals g.edges) S v) (v : Int) = false := by rw [← hbl]; simpa using c31
   have h3 : (v : Int) ∉ extK (vals g.edges) S v := fun h => h1 ((hym _).2 h)
   rw [show stepX (vals g.edges) (extK (vals g.edges) S v) (v : Int) = extK (vals g.edges) S v ++ [(v : Int)] by unfold stepX; rw [if_neg (fun h => h.elim h3 fun h => by rw [h2] at h; cases h)]] at hst
   refine ⟨(v + 1, ⟨x8.1, x8.2, setF (y.l ++ [(v : Int)])⟩), rfl, ⟨by dsimp only; omega, OwnT.sl h8, OwnT.hax h8, setB_iff.2 ⟨setF_inc _, fun z hz => ?_⟩, fun z => ?_, e5.trans (e7_2.trans (e7_8.trans e8))⟩, by dsimp only; omega⟩
   ·rcases List.mem_append.1 ((setF_mem _ _).1 hz) with h | h
    ·exact hysi.2 z h
    ·rw [List.mem_singleton.1 h]; omega
   ·dsimp only
    rw [hst, setF_mem, List.mem_append, List.mem_append, hym]
  ·have h2 : blkB (vals g.edges) (extK (vals g.edges) S v) (v : Int) = true := by rw [← hbl]; simpa using c31
   rw [show stepX (vals g.edges) (extK (vals g.edges) S v) (v : Int) = extK (vals g.edges) S v by unfold stepX; rw [if_pos (.inr h2)]] at hst
   exact ⟨(v + 1, y), rfl, ⟨by dsimp only; omega, hy.ext (e7_2.trans e7_8), hya, hys, by dsimp only; rw [hst]; exact hym, e5.trans (e7_2.trans e7_8)⟩, by dsimp only; omega⟩
  ·have h2 : (v : Int) ∈ extK (vals g.edges) S v := (hym _).1 (by simpa using g7_4)
   rw [show stepX (vals g.edges) (extK (vals g.edges) S v) (v : Int) = extK (vals g.edges) S v by unfold stepX; rw [if_pos (.inl h2)]] at hst
   exact ⟨(v + 1, y), rfl, ⟨by dsimp only; omega, hy.ext e7_2, hya, hys, by dsimp only; rw [hst]; exact hym, e5.trans e7_2⟩, by dsimp only; omega⟩
 ·have hve : v = N := by omega
  subst hve
  refine ⟨(y, 0), rfl, ⟨hy, ?_⟩, E1.trans (E4.trans e5)⟩
  rw [if_pos hb]
  refine Prod.ext ?_ rfl
  dsimp only
  unfold extF
  rw [hgn, hN]
  exact inc_ext hysi.1 (memK_inc _ _) fun z => by
   rw [memK_mem, hym]
   refine ⟨fun h => ?_, fun h => h.2.2⟩
   have := hysi.2 z ((hym z).2 h)
   exact ⟨this.1, by omega, h⟩
theorem vals_ex {E : List SlI} {e : List Int} : e ∈ vals E ↔ ∃ i, i < E.length ∧ (E.getD i default).l = e := by
 constructor
 ·intro h
  obtain ⟨y, hy, rfl⟩ := List.mem_map.1 h
  obtain ⟨i, hi, rfl⟩ := List.getElem_of_mem hy
  exact ⟨i, hi, by rw [gget hi]⟩
 ·rintro ⟨i, hi, rfl⟩
  exact List.mem_map_of_mem (gmem hi)
def needB (E : List (List Int)) (P : List Int) (v : Int) : Bool := E.any fun e => decide (v ∈ e) && e.all fun x => decide (v ≤ x) || decide (x ∈ P)
theorem needB_iff {E : List (List Int)} {P : List Int} {v : Int} : needB E P v = true ↔ ∃ e ∈ E, v ∈ e ∧ ∀ x ∈ e, v ≤ x ∨ x ∈ P := by
 unfold needB
 simp only [List.any_eq_true, Bool.and_eq_true, decide_eq_true_eq, List.all_eq_true, Bool.or_eq_true]
def ndK (e P : List Int) (v : Int) (k : Nat) : Bool := decide (v ∈ e) && (e.take k).all fun x => decide (v ≤ x) || decide (x ∈ P)
theorem ndK_succ {e P : List Int} {v : Int} {k : Nat} (h : k < e.length) : ndK e P v (k + 1) = (ndK e P v k && (decide (v ≤ e.getD k default) || decide (e.getD k default ∈ P))) := by
 unfold ndK
 rw [List.take_succ_eq_append_getElem h, List.all_append, gget h, Bool.and_assoc]
 simp
theorem needed28_spec (g : GrW) (a : Option Addr) (c : Nat) (P : List Int) (v : Int) (w : World) (hG : GOk w g) (hl : GLen g) (hm : P.length ≤ 100000) (hS : IntSl w a P) :
  RetsP Tryz.prog 78 #[.agg (encGr g).toArray, .slice a P.length c, .int .i64 v] w (.bool (needB (vals g.edges) P v)) := by
 have hle := hl.e
 refine enter (args := [_, _, _]) Tryz.func78 rfl Tryz.ntmps78 (by kernel_rfl) rfl ?_
 refine V.seq (V.region (VL.box (v := .agg _) rfl fun b0_0 w0_0 hb0_0 e0_0 hB0_0 => VL.op (R.asB rfl) (VL.nil (V.seq (V.seq (V.region (VL.op (R.asI rfl) (VL.nil (V.block (?_))))))))))
 refine V.loop [1, 2, 3, 7] (fun i : Nat => [.slice a P.length c, .int .i64 v, .pointer (some ⟨b0_0, 0, none⟩), .int .i64 (i : Nat)]) (fun i w' => i ≤ g.edges.length ∧ (∀ j, j < i → ndK (g.edges.getD j default).l P v (g.edges.getD j default).l.length = false) ∧ Ext w0_0 w') (fun i => g.edges.length - i) 0 rfl ⟨Nat.zero_le _, fun j h => absurd h (Nat.not_lt_zero j), Vc.Mod.refl _ _⟩ ?_
 rintro ρ i w1 ⟨hi, hj, e1⟩
 have hX1 := hB0_0.ext e1
 have hE1 := (hG.ext (e0_0.trans e1)).e
 have hP1 := hS.ext (e0_0.trans e1)
 have hex : needB (vals g.edges) P v = true ↔ ∃ j, j < g.edges.length ∧ ndK (g.edges.getD j default).l P v (g.edges.getD j default).l.length = true := by
  have hnd : ∀ e : List Int, ndK e P v e.length = true ↔ v ∈ e ∧ ∀ x ∈ e, v ≤ x ∨ x ∈ P := fun e => by
   unfold ndK
   rw [List.take_length]
   simp only [Bool.and_eq_true, decide_eq_true_eq, List.all_eq_true, Bool.or_eq_true]
  rw [needB_iff]
  constructor
  ·rintro ⟨e, he, h⟩
   obtain ⟨j, hjl, rfl⟩ := vals_ex.1 he
   exact ⟨j, hjl, (hnd _).2 h⟩
  ·rintro ⟨j, hjl, h⟩
   exact ⟨_, vals_ex.2 ⟨j, hjl, rfl⟩, (hnd _).1 h⟩
 refine V.seq (V.seq (V.region (VL.op (R.mvI rfl) (VL.op (R.fld' (o := 2) Tryz.runUnderlying25 rfl rfl Tryz.sizeOf23 rfl rfl) (VL.op (R.ld1 Tryz.isAgg23 rfl ((show w1.cell? ⟨b0_0, 2, none⟩ = some (Value.slice g.ea g.edges.length g.ec) from hX1.cell 2))) (VL.op (R.lenS Tryz.runUnderlying23 rfl) (VL.op (R.lss rfl rfl) (VL.nil (V.condP rfl (fun c15 => V.skip (V.seq (V.block (V.seq (?_))))) (fun c15 => V.exit (V.seq (V.region (VL.op (R.asB rfl) (VL.nil (V.ret (fret1 (v := .bool _) rfl rfl rfl (?_)))))))))))))))))
 ·have hil : i < g.edges.length := by omega
  have hx1 := hE1.at hil
  have hxl : (g.edges.getD i default).l.length ≤ 1000000 := (hl.each _ (gmem hil)).1
  refine V.region (VL.op (R.fld' (o := 2) Tryz.runUnderlying25 rfl rfl Tryz.sizeOf23 rfl rfl) (VL.op (R.ld1 Tryz.isAgg23 rfl ((show w1.cell? ⟨b0_0, 2, none⟩ = some (Value.slice g.ea g.edges.length g.ec) from hX1.cell 2))) (VL.op (R.mvI rfl) (VL.op (R.ixS Tryz.runUnderlying23 Tryz.sizeOf22 rfl rfl (by omega) (by omega) (hE1.sl.some (i := i) hil)) (VL.op (R.ld1 Tryz.isAgg22 rfl (((hE1.sl.row (i := i) hil).cell (i := 0) rfl))) (VL.op (R.mvI rfl) (VL.callP Tryz.call33 rfl (in_spec (g.edges.getD i default).a (g.edges.getD i default).c (g.edges.getD i default).l v _ (by omega) hx1) fun w4_6 e4_6 => VL.op (R.asB rfl) (VL.nil (V.seq (V.seq (?_)))))))))))
  refine V.region (VL.op (R.asI rfl) (VL.nil (V.block (?_))))
  refine V.loop [1, 2, 3, 7, 8, 9] (fun k : Nat => [.slice a P.length c, .int .i64 v, .pointer (some ⟨b0_0, 0, none⟩), .int .i64 (i : Nat), .bool (ndK (g.edges.getD i default).l P v k), .int .i64 (k : Nat)]) (fun k w' => k ≤ (g.edges.getD i default).l.length ∧ Ext w1 w') (fun k => (g.edges.getD i default).l.length - k) 0 (by unfold ndK; rw [List.take_zero, List.all_nil, Bool.and_true]; rfl) ⟨Nat.zero_le _, e4_6⟩ ?_
  rintro ρ2 k w2 ⟨hk, e2⟩
  have hX2 := hX1.ext e2
  have hE2 := hE1.ext e2
  have hx2 := hE2.at hil
  have hP2 := hP1.ext e2
  refine V.seq (V.seq (V.region (VL.op (R.mvI rfl) (VL.op (R.fld' (o := 2) Tryz.runUnderlying25 rfl rfl Tryz.sizeOf23 rfl rfl) (VL.op (R.ld1 Tryz.isAgg23 rfl ((show w2.cell? ⟨b0_0, 2, none⟩ = some (Value.slice g.ea g.edges.length g.ec) from hX2.cell 2))) (VL.op (R.mvI rfl) (VL.op (R.ixS Tryz.runUnderlying23 Tryz.sizeOf22 rfl rfl (by omega) (by omega) (hE2.sl.some (i := i) hil)) (VL.op (R.ld1 Tryz.isAgg22 rfl (((hE2.sl.row (i := i) hil).cell (i := 0) rfl))) (VL.op (R.lenS Tryz.runUnderlying22 rfl) (VL.op (R.lss rfl rfl) (VL.nil (V.condP rfl (fun c32 => V.skip (V.seq (V.block (V.seq (?_))))) (fun c32 => V.exit (V.seq (?_)))))))))))))))
  ·have hkl : k < (g.edges.getD i default).l.length := by omega
   have hsu := ndK_succ (P := P) (v := v) hkl
   obtain ⟨nd, hnd⟩ : ∃ nd, nd = ndK (g.edges.getD i default).l P v k := ⟨_, rfl⟩
   rw [← hnd] at hsu ⊢
   cases nd with
   | false =>
    refine V.region (VL.op (R.fld' (o := 2) Tryz.runUnderlying25 rfl rfl Tryz.sizeOf23 rfl rfl) (VL.op (R.ld1 Tryz.isAgg23 rfl ((show w2.cell? ⟨b0_0, 2, none⟩ = some (Value.slice g.ea g.edges.length g.ec) from hX2.cell 2))) (VL.op (R.mvI rfl) (VL.op (R.ixS Tryz.runUnderlying23 Tryz.sizeOf22 rfl rfl (by omega) (by omega) (hE2.sl.some (i := i) hil)) (VL.op (R.ld1 Tryz.isAgg22 rfl (((hE2.sl.row (i := i) hil).cell (i := 0) rfl))) (VL.op (R.mvI rfl) (VL.op (R.ixS Tryz.runUnderlying22 Tryz.sizeOf3 rfl rfl (by omega) (by omega) (hx2.some (i := k) hkl)) (VL.op (R.ld1 Tryz.isAgg3 rfl (((hx2.row (i := k) hkl).cell (i := 0) rfl))) (VL.op (R.asI rfl) (VL.nil (V.region (VL.op (R.mvB rfl) (VL.op (R.mvB rfl) (VL.gF rfl rfl (VL.gF rfl rfl (VL.gF rfl rfl (VL.gF rfl rfl (VL.gU rfl rfl (VL.gU rfl rfl (VL.gU rfl rfl (VL.gF rfl rfl (VL.op (R.pickFB rfl rfl) (VL.op (R.asB rfl) (VL.nil (V.region (VL.op (R.mvI rfl) (VL.op (R.add rfl rfl (by omega) (by omega)) (VL.op (R.asI rfl) (VL.nil (⟨k + 1, by rw [hsu]; rfl, ⟨by omega, e2.trans (Mod.refl _ _)⟩, by omega⟩))))))))))))))))))))))))))))))
   | true =>
    refine V.region (VL.op (R.fld' (o := 2) Tryz.runUnderlying25 rfl rfl Tryz.sizeOf23 rfl rfl) (VL.op (R.ld1 Tryz.isAgg23 rfl ((show w2.cell? ⟨b0_0, 2, none⟩ = some (Value.slice g.ea g.edges.length g.ec) from hX2.cell 2))) (VL.op (R.mvI rfl) (VL.op (R.ixS Tryz.runUnderlying23 Tryz.sizeOf22 rfl rfl (by omega) (by omega) (hE2.sl.some (i := i) hil)) (VL.op (R.ld1 Tryz.isAgg22 rfl (((hE2.sl.row (i := i) hil).cell (i := 0) rfl))) (VL.op (R.mvI rfl) (VL.op (R.ixS Tryz.runUnderlying22 Tryz.sizeOf3 rfl rfl (by omega) (by omega) (hx2.some (i := k) hkl)) (VL.op (R.ld1 Tryz.isAgg3 rfl (((hx2.row (i := k) hkl).cell (i := 0) rfl))) (VL.op (R.asI rfl) (VL.nil (V.region (VL.op (R.mvB rfl) (VL.op (R.mvB rfl) (VL.gT rfl rfl (VL.op (R.mvI rfl) (VL.gT rfl rfl (VL.op (R.mvI rfl) (VL.gT rfl rfl (VL.op (R.geq rfl rfl) (VL.gT rfl rfl (VL.op (R.mvB rfl) (VL.orP rfl rfl (fun g9_5 => VL.op (R.mvS rfl) (VL.gT rfl rfl (VL.op (R.mvI rfl) (VL.gT rfl rfl (VL.callP Tryz.call33 rfl (in_spec a c P ((g.edges.getD i default).l.getD k default) _ (by omega) hP2) fun w9_8 e9_8 => VL.gT rfl rfl (VL.op (R.pickFB rfl rfl) (VL.op (R.pickTB rfl rfl) (VL.op (R.asB rfl) (VL.nil (V.region (VL.op (R.mvI rfl) (VL.op (R.add rfl rfl (by omega) (by omega)) (VL.op (R.asI rfl) (VL.nil (⟨k + 1, ?_, ⟨by omega, e2.trans e9_8⟩, by omega⟩))))))))))))))) (fun g9_5 => VL.gF rfl rfl (VL.gF rfl rfl (VL.gT rfl rfl (VL.op (R.pickTB rfl rfl) (VL.op (R.pickTB rfl rfl) (VL.op (R.asB rfl) (VL.nil (V.region (VL.op (R.mvI rfl) (VL.op (R.add rfl rfl (by omega) (by omega)) (VL.op (R.asI rfl) (VL.nil (⟨k + 1, ?_, ⟨by omega, e2.trans (Mod.refl _ _)⟩, by omega⟩)))))))))))))))))))))))))))))))))))
    ·rw [hsu, Bool.true_and, decide_eq_false g9_5, Bool.false_or]; rfl
    ·rw [hsu, Bool.true_and, decide_eq_true g9_5, Bool.true_or]; rfl
  ·have hke : k = (g.edges.getD i default).l.length := by omega
   subst hke
   refine V.region (VL.op (R.mvB rfl) (VL.nil (V.cond rfl (fun c54 => V.seq (V.region (VL.op (R.asB rfl) (VL.nil (V.ret (fret1 (v := .bool _) rfl rfl rfl (⟨?_, (e0_0.trans e1).trans e2⟩))))))) (fun c54 => V.skip (V.region (VL.op (R.mvI rfl) (VL.op (R.add rfl rfl (by omega) (by omega)) (VL.op (R.asI rfl) (VL.nil (⟨i + 1, rfl, ⟨by omega, fun j h => ?_, e1.trans e2⟩, by omega⟩))))))))))
   ·rw [hex.2 ⟨i, hil, by assumption⟩]
   ·by_cases e : j = i
    ·subst e; assumption
    ·exact hj j (by omega)
 ·have hie : i = g.edges.length := by omega
  subst hie
  refine ⟨?_, e0_0.trans e1⟩
  have : needB (vals g.edges) P v = false := Bool.eq_false_iff.2 fun hh => by
   obtain ⟨j, h1, h2⟩ := hex.1 hh
   rw [hj j h1] at h2; cases h2
  rw [this]
end Go.Proofs.YtlnbkoojelhjdaaGreatDoor

/- Repair: the reference: all. -/
namespace Go.Proofs.YtlnbkoojelhjdaaGreatDoor
open Go.Vc
def allR (g : Gr) (N : Nat) : Nat → List Int → List (List Int)
 | 0, P => if isB g P = true then [P] else []
 | f + 1, P => (if blkB g.edges P ((N - (f + 1) : Nat) : Int) = true then [] else allR g N f (P ++ [((N - (f + 1) : Nat) : Int)])) ++ if needB g.edges P ((N - (f + 1) : Nat) : Int) = true then allR g N f P else []
theorem allR_len (g : Gr) (N : Nat) : ∀ (f : Nat) (P : List Int), (allR g N f P).length ≤ 2 ^ f
 | 0, P => by
  unfold allR
  split
  ·exact Nat.le_refl _
  ·exact Nat.zero_le _
 | f + 1, P => by
  have h1 := allR_len g N f P
  have h2 := allR_len g N f (P ++ [((N - (f + 1) : Nat) : Int)])
  unfold allR
  rw [List.length_append, Nat.pow_succ]
  have a1 : (if blkB g.edges P ((N - (f + 1) : Nat) : Int) = true then [] else allR g N f (P ++ [((N - (f + 1) : Nat) : Int)])).length ≤ 2 ^ f := by
   split
   ·exact Nat.zero_le _
   ·exact h2
  have a2 : (if needB g.edges P ((N - (f + 1) : Nat) : Int) = true then allR g N f P else []).length ≤ 2 ^ f := by
   split
   ·exact h1
   ·exact Nat.zero_le _
  omega
theorem allR_mem {g : Gr} (hg : validG g = true) {N : Nat} (hN : g.n = (N : Int)) : ∀ (f : Nat), f ≤ N → ∀ P, setB P ((N - f : Nat) : Int) = true → ∀ R, R ∈ allR g N f P ↔ IsRep g R ∧ below R (N - f) = P := by
 intro f
 induction f with
 | zero =>
  intro _ P hP R
  have hall : ∀ {Q : List Int}, IsRep g Q → below Q (N - 0) = Q := fun h => below_all fun x hx => by have := (setB_iff.1 h.set).2 x hx; omega
  unfold allR
  by_cases h : isB g P = true
  ·rw [if_pos h, List.mem_singleton]
   have hr := (isB_iff hg).1 h
   constructor
   ·rintro rfl; exact ⟨hr, hall hr⟩
   ·rintro ⟨h1, h2⟩; rw [← h2, hall h1]
  ·rw [if_neg h]
   constructor
   ·intro h; cases h
   ·rintro ⟨h1, h2⟩
    rw [hall h1] at h2
    rw [← h2] at h
    exact absurd ((isB_iff hg).2 h1) h
 | succ f ih =>
  intro hf P hP R
  obtain ⟨v, hv⟩ : ∃ v, v = N - (f + 1) := ⟨_, rfl⟩
  have hv1 : N - f = v + 1 := by omega
  have hPs := setB_iff.1 hP
  rw [← hv] at hPs ⊢
  have hP1 : setB P ((v + 1 : Nat) : Int) = true := setB_iff.2 ⟨hPs.1, fun x hx => by have := hPs.2 x hx; omega⟩
  have hP2 : setB (P ++ [(v : Int)]) ((v + 1 : Nat) : Int) = true := setB_iff.2 ⟨List.pairwise_append.2 ⟨hPs.1, List.pairwise_singleton _ _, fun x hx y hy => by rw [List.mem_singleton.1 hy]; exact (hPs.2 x hx).2⟩, fun x hx => by
   rcases List.mem_append.1 hx with h | h
   ·have := hPs.2 x h; omega
   ·rw [List.mem_singleton.1 h]; omega⟩
  have i1 := ih (by omega) P (by rw [hv1]; exact hP1) R
  have i2 := ih (by omega) (P ++ [(v : Int)]) (by rw [hv1]; exact hP2) R
  rw [hv1] at i1 i2
  unfold allR
  rw [← hv, List.mem_append]
  have hvP : (v : Int) ∉ P := fun h => by have := (hPs.2 _ h).2; omega
  constructor
  ·rintro (h | h)
   ·split at h
    ·cases h
    ·obtain ⟨h1, h2⟩ := i2.1 h
     refine ⟨h1, ?_⟩
     have hvR : (v : Int) ∈ R := by
      have : (v : Int) ∈ below R (v + 1) := by rw [h2]; simp
      exact (below_mem.1 this).1
     rw [below_in (setB_iff.1 h1.set).1 hvR] at h2
     exact (List.append_inj_left' h2 rfl)
   ·split at h
    ·obtain ⟨h1, h2⟩ := i1.1 h
     refine ⟨h1, ?_⟩
     have hvR : (v : Int) ∉ R := fun hh => hvP (by rw [← h2]; exact below_mem.2 ⟨hh, by omega⟩)
     rw [← h2]
     exact (below_out hvR).symm
    ·cases h
  ·rintro ⟨h1, h2⟩
   by_cases hvR : (v : Int) ∈ R
   ·refine .inl ?_
    have hb : blkB g.edges P (v : Int) = false := by
     rw [← Bool.not_eq_true]
     intro hb
     have := ind_blk (S := R) (fun x hx => by rw [← h2] at hx; exact (below_mem.1 hx).1) hvR hb
     rw [indB_iff.2 h1.free] at this
     cases this
    rw [hb, if_neg (by decide)]
    exact i2.2 ⟨h1, by rw [below_in (setB_iff.1 h1.set).1 hvR, h2]⟩
   ·refine .inr ?_
    have hn : needB g.edges P (v : Int) = true := by
     obtain ⟨e, he, hve, hall⟩ := h1.max v (by omega) (by omega) hvR
     refine needB_iff.2 ⟨e, he, hve, fun x hx => ?_⟩
     by_cases hxv : (v : Int) ≤ x
     ·exact .inl hxv
     ·exact .inr (by rw [← h2]; exact below_mem.2 ⟨hall x hx (by omega), by omega⟩)
    rw [hn, if_pos rfl]
    exact i1.2 ⟨h1, by rw [below_out hvR, h2]⟩
theorem allR_up {g : Gr} (hg : validG g = true) {N : Nat} (hN : g.n = (N : Int)) : ∀ (f : Nat), f ≤ N → ∀ P, setB P ((N - f : Nat) : Int) = true → Up lexB (allR g N f P) := by
 intro f
 induction f with
 | zero =>
  intro _ P _
  unfold allR
  split
  ·exact List.pairwise_singleton _ _
  ·exact List.Pairwise.nil
 | succ f ih =>
  intro hf P hP
  obtain ⟨v, hv⟩ : ∃ v, v = N - (f + 1) := ⟨_, rfl⟩
  have hv1 : N - f = v + 1 := by omega
  have hPs := setB_iff.1 hP
  rw [← hv] at hPs
  have hP1 : setB P ((N - f : Nat) : Int) = true := setB_iff.2 ⟨hPs.1, fun x hx => by have := hPs.2 x hx; omega⟩
  have hP2 : setB (P ++ [(v : Int)]) ((N - f : Nat) : Int) = true := setB_iff.2 ⟨List.pairwise_append.2 ⟨hPs.1, List.pairwise_singleton _ _, fun x hx y hy => by rw [List.mem_singleton.1 hy]; exact (hPs.2 x hx).2⟩, fun x hx => by
   rcases List.mem_append.1 hx with h | h
   ·have := hPs.2 x h; omega
   ·rw [List.mem_singleton.1 h]; omega⟩
  have hvP : (v : Int) ∉ P := fun h => by have := (hPs.2 _ h).2; omega
  unfold allR
  rw [← hv]
  refine List.pairwise_append.2 ⟨?_, ?_, fun x hx y hy => ?_⟩
  ·split
   ·exact List.Pairwise.nil
   ·exact ih (by omega) _ hP2
  ·split
   ·exact ih (by omega) _ hP1
   ·exact List.Pairwise.nil
  ·split at hx
   ·cases hx
   ·split at hy
    ·obtain ⟨h1, h2⟩ := (allR_mem hg hN f (by omega) _ hP2 x).1 hx
     obtain ⟨h3, h4⟩ := (allR_mem hg hN f (by omega) _ hP1 y).1 hy
     rw [hv1] at h2 h4
     have hvx : (v : Int) ∈ x := (below_mem.1 (show (v : Int) ∈ below x (v + 1) by rw [h2]; simp)).1
     have hvy : (v : Int) ∉ y := fun hh => hvP (by rw [← h4]; exact below_mem.2 ⟨hh, by omega⟩)
     rcases lex_first (setB_iff.1 h1.set).1 (setB_iff.1 h3.set).1 hvx hvy (fun z hz => by
      have a1 : z ∈ x ↔ z ∈ below x (v + 1) := by rw [below_mem]; exact ⟨fun h => ⟨h, by omega⟩, fun h => h.1⟩
      have a2 : z ∈ y ↔ z ∈ below y (v + 1) := by rw [below_mem]; exact ⟨fun h => ⟨h, by omega⟩, fun h => h.1⟩
      rw [a1, a2, h2, h4, List.mem_append, List.mem_singleton]
      exact ⟨fun h => h.resolve_right (by omega), .inl⟩) with h | h
     ·exact h
     ·have := rep_anti h3 h1 h
      rw [this] at hvy
      exact absurd hvx hvy
    ·cases hy
theorem allR_reps {g : Gr} (hg : validG g = true) {N : Nat} (hN : g.n = (N : Int)) : allR g N N [] = repsG g := by
 have hs : setB [] ((N - N : Nat) : Int) = true := setB_iff.2 ⟨List.Pairwise.nil, fun x hx => nomatch hx⟩
 refine Up.ext lexB_sto (allR_up hg hN N (Nat.le_refl _) [] hs) (reps_up hg) fun R => ?_
 rw [allR_mem hg hN N (Nat.le_refl _) [] hs, reps_mem hg, Nat.sub_self]
 refine and_iff_left_of_imp fun h => List.filter_eq_nil_iff.2 fun x hx => ?_
 have := (setB_iff.1 h.set).2 x hx
 simp
 omega
end Go.Proofs.YtlnbkoojelhjdaaGreatDoor

/- Repair: the walk of the reference's all. -/
namespace Go.Proofs.YtlnbkoojelhjdaaGreatDoor
open Go.Vc
set_option maxRecDepth 100000
set_option maxHeartbeats 16000000
structure AlE (w : World) (x : SlI) : Prop where
 s : IntSl w x.a x.l
 t : TyA w x.a 3
 h : x.a = none → x.c = 0
theorem AlE.ext {w w' : World} {x : SlI} (h : AlE w x) (e : Ext w w') : AlE w' x := ⟨h.s.ext e, h.t.ext e, h.h⟩
theorem AlE.mod {w w' : World} {x : SlI} {a : Option Addr} (h : AlE w x) (ht : TyA w a 22) (m : Vc.Mod (aBlk a) w w') : AlE w' x := by
 have key : ∀ k, aBlk x.a k → ¬ aBlk a k := fun k hk hk2 => by
  obtain ⟨ad, ha, hb⟩ := hk2
  obtain ⟨c, z, hB⟩ := ht ad ha
  exact h.t.apart (hb ▸ hB) (by decide) hk
 exact ⟨h.s.mod m fun ad e => key _ ⟨ad, e, rfl⟩, h.t.mod m key, h.h⟩
structure AlR (B : Nat) (w : World) (y : List SlI × Option Addr × Nat) (L : List (List Int)) : Prop where
 o : OwnT encSl 1 22 B w y.2.1 y.2.2 y.1
 e : ∀ x ∈ y.1, AlE w x
 v : vals y.1 = L
theorem AlR.ext {B : Nat} {w w' : World} {y : List SlI × Option Addr × Nat} {L : List (List Int)} (h : AlR B w y L) (e : Ext w w') : AlR B w' y L := ⟨h.o.ext e, fun x hx => (h.e x hx).ext e, h.v⟩
theorem AlR.weaken {B B' : Nat} {w : World} {y : List SlI × Option Addr × Nat} {L : List (List Int)} (h : AlR B w y L) (hB : B' ≤ B) : AlR B' w y L := ⟨h.o.weaken hB, h.e, h.v⟩
theorem AlR.nil (B : Nat) (w : World) : AlR B w ([], none, 0) [] := ⟨OwnT.nil _ _ _ _ _, fun _ h => (nomatch h), rfl⟩
theorem AlR.len {B : Nat} {w : World} {y : List SlI × Option Addr × Nat} {L : List (List Int)} (h : AlR B w y L) : y.1.length = L.length := by rw [← h.v]; exact (List.length_map _).symm
theorem all28_spec (g : GrW) (N : Nat) (hl : GLen g) (hv : validG (grV g) = true) (hN : g.n = (N : Int)) (hN10 : N ≤ 10) : ∀ (f v : Nat), v + f = N → ∀ (a : Option Addr) (c : Nat) (P : List Int) (w : World), GOk w g → IntSl w a P → TyA w a 3 → (a = none → c = 0) → setB P (v : Int) = true → indB (vals g.edges) P = true →
  RetsX Tryz.prog 47 #[.agg (encGr g).toArray, .slice a P.length c, .int .i64 (v : Nat)] w (fun y : List SlI × Option Addr × Nat => .slice y.2.1 y.1.length y.2.2) (fun y w' => AlR w.heap.size w' y (allR (grV g) N f P)) := by
 have hgn : (grV g).n = g.n := rfl
 intro f
 induction f with
 | zero =>
  intro v hvf a c P w hG hS hTy hax hP hind
  have hPs := setB_iff.1 hP
  have hpl := set_len hPs.1 hPs.2 (by omega)
  refine enter (args := [_, _, _]) Tryz.func47 rfl Tryz.ntmps47 (by kernel_rfl) rfl ?_
  refine V.seq (V.region (VL.box (v := .agg _) rfl fun b0_0 w0_0 hb0_0 e0_0 hB0_0 => VL.op (R.asS rfl) (VL.nil (V.seq (V.seq (V.region (VL.op (R.mvI rfl) (VL.op (R.fld' (o := 0) Tryz.runUnderlying25 rfl rfl Tryz.sizeOf3 rfl rfl) (VL.op (R.ld1 Tryz.isAgg3 rfl ((show w0_0.cell? ⟨b0_0, 0, none⟩ = some (Value.int .i64 ((N : Nat) : Int)) from by rw [← hN]; exact hB0_0.cell 0))) (VL.op (R.lit (R.eql rfl rfl) ((decide_eq_true (by omega)))) (VL.nil (V.condT rfl (V.seq (V.seq (V.region (VL.op (R.ldA Tryz.isAgg25 Tryz.sizeOf25 rfl rfl ((show RowAt _ _ _ (encGr g) from (hB0_0.rowAt 0 3))) rfl) (VL.op (R.mvS rfl) (VL.callP Tryz.call20 rfl (ris28_spec g a c P _ (hG.ext e0_0) hl (by omega) hax (hS.ext e0_0)) fun w2_2 e2_2 => VL.nil (V.cond rfl (fun c14 => V.seq (V.region (VL.op (R.mvS rfl) (VL.buildSl Tryz.runUnderlying23 Tryz.sizeOf22 Tryz.zeroValue22 rfl rfl rfl fun b3_1 w3_1 hb3_1 e3_1 hB3_1 => VL.op (R.asS rfl) (VL.nil (V.ret (fret1 (v := .slice _ _ _) rfl rfl rfl (?_)))))))) (fun c14 => V.skip (V.seq (V.region (VL.op (R.asS rfl) (VL.nil (V.ret (fret1 (v := .slice _ _ _) rfl rfl rfl (?_)))))))))))))))))))))))))))
  ·have E3 : Ext w w3_1 := e0_0.trans (e2_2.trans e3_1)
   refine ⟨([⟨a, c, P⟩], some ⟨b3_1, 0, none⟩, 1), rfl, ⟨?_, fun x hx => by rw [List.mem_singleton.1 hx]; exact ⟨hS.ext E3, hTy.ext E3, hax⟩, ?_⟩, E3⟩
   ·exact OwnT.of_blk (l := [(⟨a, c, P⟩ : SlI)]) hB3_1 (by rw [hb3_1]; exact (e0_0.trans e2_2).size) rfl (fun r hr => by obtain ⟨x, _, rfl⟩ := List.mem_map.1 hr; rfl) (by show 1 ≤ maxLen; decide)
   ·unfold allR
    rw [if_pos (by assumption)]
    rfl
  ·refine ⟨([], none, 0), rfl, ⟨OwnT.nil _ _ _ _ _, fun _ h => (nomatch h), ?_⟩, e0_0.trans e2_2⟩
   unfold allR
   rw [if_neg (by simp_all)]
   rfl
 | succ f ih =>
  intro v hvf a c P w hG hS hTy hax hP hind
  have hPs := setB_iff.1 hP
  have hpl := set_len hPs.1 hPs.2 (by omega)
  have hvN : N - (f + 1) = v := by omega
  have hbl : (!freeF (vals g.edges) (setF (P ++ [(v : Int)]))) = blkB (vals g.edges) P (v : Int) := blkR_eq hv hPs.1 hind (v : Int)
  have hset : setF (P ++ [(v : Int)]) = P ++ [(v : Int)] := setF_id (List.pairwise_append.2 ⟨hPs.1, List.pairwise_singleton _ _, fun x hx y hy => by rw [List.mem_singleton.1 hy]; exact (hPs.2 x hx).2⟩)
  have hP1 : setB P ((v + 1 : Nat) : Int) = true := setB_iff.2 ⟨hPs.1, fun x hx => by have := hPs.2 x hx; omega⟩
  have hP2 : setB (P ++ [(v : Int)]) ((v + 1 : Nat) : Int) = true := setB_iff.2 ⟨by rw [← hset]; exact setF_inc _, fun x hx => by
   rcases List.mem_append.1 hx with h | h
   ·have := hPs.2 x h; omega
   ·rw [List.mem_singleton.1 h]; omega⟩
  have hlen1 := allR_len (grV g) N f (P ++ [(v : Int)])
  have hlen2 := allR_len (grV g) N f P
  have hpow : 2 ^ f ≤ 2 ^ 9 := Nat.pow_le_pow_right (by decide) (by omega)
  refine enter (args := [_, _, _]) Tryz.func47 rfl Tryz.ntmps47 (by kernel_rfl) rfl ?_
  refine V.seq (V.region (VL.box (v := .agg _) rfl fun b0_0 w0_0 hb0_0 e0_0 hB0_0 => VL.op (R.asS rfl) (VL.nil (V.seq (V.seq (V.region (VL.op (R.mvI rfl) (VL.op (R.fld' (o := 0) Tryz.runUnderlying25 rfl rfl Tryz.sizeOf3 rfl rfl) (VL.op (R.ld1 Tryz.isAgg3 rfl ((show w0_0.cell? ⟨b0_0, 0, none⟩ = some (Value.int .i64 ((N : Nat) : Int)) from by rw [← hN]; exact hB0_0.cell 0))) (VL.op (R.lit (R.eql rfl rfl) ((decide_eq_false (by omega)))) (VL.nil (V.condF rfl (V.skip (V.seq (V.region (VL.op (R.asS rfl) (VL.nil (V.cut [1, 2, 3, 7] (fun y : List SlI × Option Addr × Nat => [.slice a P.length c, .int .i64 (v : Nat), .pointer (some ⟨b0_0, 0, none⟩), .slice y.2.1 y.1.length y.2.2]) (fun y w' => AlR w.heap.size w' y (if blkB (vals g.edges) P (v : Int) = true then [] else allR (grV g) N f (P ++ [(v : Int)])) ∧ Ext w0_0 w') (V.seq (V.region (VL.op (R.ldA Tryz.isAgg25 Tryz.sizeOf25 rfl rfl ((show RowAt _ _ _ (encGr g) from (hB0_0.rowAt 0 3))) rfl) (VL.op (R.mvS rfl) (VL.op (R.mvI rfl) (VL.callP Tryz.call44 rfl (blocked28_spec g a c P (v : Int) _ (hG.ext e0_0) hl (by omega) hax (hS.ext e0_0)) fun w6_3 e6_3 => VL.op (R.not rfl) (VL.nil (V.cond rfl (fun c21 => ?_) (fun c21 => V.skip (?_)))))))))) (fun rgC21 xC21 wBC21 hBC21 => V.seq (V.seq (?_)))))))))))))))))))))
  ·have hb : blkB (vals g.edges) P (v : Int) = false := by rw [← hbl]; simpa using c21
   have hX6 : Blk w6_3 b0_0 (.cells (Value.agg (encGr g).toArray).cells 25 (0, 0)) := hB0_0.ext e6_3
   have E6 := e0_0.trans e6_3
   refine V.regionD (T := Ext) mixed 6 (by kernel_rfl) rfl (fun us => VD.op (fun wq eq => R.ldA Tryz.isAgg25 Tryz.sizeOf25 rfl rfl ((show RowAt _ _ _ (encGr g) from (hX6.ext eq).rowAt 0 3)) rfl) (VD.op (fun wq eq => R.mvS rfl) (VD.op (fun wq eq => R.mvI rfl) (VD.callX (fun _ => fun u w' => ∃ x : Option Addr × Nat, u = .slice x.1 (setF (P ++ [(v : Int)])).length x.2 ∧ AlE w' ⟨x.1, x.2, setF (P ++ [(v : Int)])⟩) (DepS.const _) (fun u a b _ ⟨x, h1, h2⟩ eb => ⟨x, h1, h2.ext eb⟩) Tryz.call34 rfl (fun wq eq hq => by
     refine Rets.mono (put28_spec a c P (v : Int) wq (by omega) hax (hS.ext (E6.trans eq))) ?_
     rintro u w' ⟨x, hu, h1, he⟩
     exact ⟨⟨x, hu, OwnT.sl h1, OwnT.tyA h1, OwnT.hax h1⟩, he⟩) (VD.op (fun wq eq => R.mvI rfl) (VD.op (fun wq eq => R.add rfl rfl (by omega) (by omega)) (VD.nil (fun w7 e7 h7 => ?_)))))))) rfl
   obtain ⟨x, hx, hxe⟩ := h7 3
   rw [hx]
   refine VL.callX Tryz.call47 rfl (ih (v + 1) (by omega) x.1 x.2 (setF (P ++ [(v : Int)])) w7 (hG.ext (E6.trans e7)) hxe.s hxe.t hxe.h (by rw [hset]; exact hP2) (by rw [hset]; exact ind_snoc hind hb)) fun z8 w8 h8 e8 => VL.op (R.asS rfl) (VL.nil (?_))
   rw [hset] at h8
   refine ⟨z8, rfl, ?_, e6_3.trans (e7.trans e8)⟩
   rw [hb, if_neg (by decide)]
   exact h8.weaken (E6.trans e7).size
  ·have hb : blkB (vals g.edges) P (v : Int) = true := by rw [← hbl]; simpa using c21
   refine ⟨([], none, 0), rfl, ?_, e6_3⟩
   rw [hb, if_pos rfl]
   exact AlR.nil _ _
  ·obtain ⟨h7, e7⟩ := hBC21
   obtain ⟨y7, hy7⟩ : ∃ y, y = xC21 := ⟨_, rfl⟩
   obtain ⟨w7, hw7⟩ : ∃ w, w = wBC21 := ⟨_, rfl⟩
   rw [← hy7] at h7 ⊢
   rw [← hw7] at h7 e7 ⊢
   have hX7 : Blk w7 b0_0 (.cells (Value.agg (encGr g).toArray).cells 25 (0, 0)) := hB0_0.ext e7
   have E7 := e0_0.trans e7
   have hl7 := h7.len
   have hle7 : y7.1.length ≤ 512 := by
    rw [hl7]
    split
    ·exact Nat.zero_le _
    ·omega
   refine V.region (VL.op (R.mvS rfl) (VL.op (R.lenS Tryz.runUnderlying23 rfl) (VL.op (R.lit (R.leq rfl rfl) ((decide_eq_true (by omega)))) (VL.op (R.mvB rfl) (VL.gT rfl rfl (VL.op (R.ldA Tryz.isAgg25 Tryz.sizeOf25 rfl rfl ((show RowAt _ _ _ (encGr g) from hX7.rowAt 0 3)) rfl) (VL.gT rfl rfl (VL.op (R.mvS rfl) (VL.gT rfl rfl (VL.op (R.mvI rfl) (VL.gT rfl rfl (VL.callP Tryz.call78 rfl (needed28_spec g a c P (v : Int) _ (hG.ext E7) hl (by omega) (hS.ext E7)) fun w8_7 e8_7 => VL.op (R.pickTB rfl rfl) (VL.nil (V.cond rfl (fun c37 => ?_) (fun c37 => V.skip (V.seq (V.region (VL.op (R.mvS rfl) (VL.op (R.asS rfl) (VL.nil (V.ret (fret1 (v := .slice _ _ _) rfl rfl rfl (?_)))))))))))))))))))))))
   ·have hX8 := hX7.ext e8_7
    have E8 := E7.trans e8_7
    have h8 := h7.ext e8_7
    refine V.region (VL.op (R.mvS rfl) (VL.op (R.ldA Tryz.isAgg25 Tryz.sizeOf25 rfl rfl ((show RowAt _ _ _ (encGr g) from hX8.rowAt 0 3)) rfl) (VL.op (R.mvS rfl) (VL.op (R.mvI rfl) (VL.op (R.add rfl rfl (by omega) (by omega)) (VL.callX Tryz.call47 rfl (ih (v + 1) (by omega) a c P w8_7 (hG.ext E8) (hS.ext E8) (hTy.ext E8) hax hP1 hind) fun z9 w9 h9 e9 => VL.appendT el23 (fun _ => rfl) rfl (rfl) ((h8.o.ext e9)) rfl (rfl) ((OwnT.sl h9.o)) ((OwnT.hax h9.o)) (by have := h9.len; omega) (by have := h9.len; simp [maxLen]; omega) (E8.trans e9).size (show y7.1.length + z9.1.length = (y7.1 ++ z9.1).length by simp) fun a10 c10 w10 ho10 m10 hf10 => VL.op (R.asS rfl) (VL.nil (V.seq (?_)))))))))
    refine V.region (VL.op (R.mvS rfl) (VL.op (R.asS rfl) (VL.nil (V.ret (fret1 (v := .slice _ _ _) rfl rfl rfl (?_))))))
    refine ⟨(y7.1 ++ z9.1, a10, c10), rfl, ⟨ho10, fun x hx => ?_, ?_⟩, (E8.trans e9).ownA m10 fun q hq => h8.o.ge q hq⟩
    ·have ht : TyA w9 y7.2.1 22 := (OwnT.tyA h8.o).ext e9
     rcases List.mem_append.1 hx with h | h
     ·exact ((h8.e x h).ext e9).mod ht m10
     ·exact (h9.e x h).mod ht m10
    ·unfold allR
     rw [hvN, show (grV g).edges = vals g.edges from rfl, c37, if_pos rfl, ← h8.v, ← h9.v]
     exact List.map_append
   ·refine ⟨y7, rfl, ⟨(h7.ext e8_7).o, (h7.ext e8_7).e, ?_⟩, E7.trans e8_7⟩
    unfold allR
    rw [hvN, show (grV g).edges = vals g.edges from rfl, c37]
    simp only [Bool.false_eq_true, if_false, List.append_nil]
    exact h7.v
end Go.Proofs.YtlnbkoojelhjdaaGreatDoor
