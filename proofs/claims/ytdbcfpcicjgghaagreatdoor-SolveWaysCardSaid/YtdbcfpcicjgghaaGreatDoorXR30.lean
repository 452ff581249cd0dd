/- Repair: the reference: blocked, Independent, Is. -/
import Derived.Test.YtdbcfpcicjgghaaGreatDoorXR5
import Derived.Test.YtdbcfpcicjgghaaGreatDoorXR18
import Derived.Test.YtdbcfpcicjgghaaGreatDoorXQ1
namespace Go.Proofs.YtdbcfpcicjgghaaGreatDoor
open Go.Vc
set_option maxRecDepth 100000
set_option maxHeartbeats 16000000
theorem blkR_eq {g : Gr} (hg : validG g = true) {S : List Int} (_hi : Inc S) (hf : indB g.edges S = true) (v : Int) : (!freeF g.edges (setF (S ++ [v]))) = blkB g.edges S v := by
 have hE := (validG_iff.1 hg).2.2.1
 have hf := indB_iff.1 hf
 have key : freeF g.edges (setF (S ++ [v])) = true ↔ blkB g.edges S v = false := by
  rw [freeF_sets (fun e he => ⟨(hE e he).2.1, (hE e he).1⟩) (setF_inc _)]
  constructor
  ·intro h
   rw [← Bool.not_eq_true]
   intro hb
   obtain ⟨e, he, hve, hall⟩ := blkB_iff.1 hb
   have := h e he
   rw [subB_iff.2 fun x hx => (setF_mem _ _).2 (List.mem_append.2 (by
    by_cases hxv : x = v
    ·exact .inr (by simp [hxv])
    ·exact .inl (hall x hx hxv)))] at this
   cases this
  ·intro hb e he
   rw [← Bool.not_eq_true]
   intro hs
   have hs := subB_iff.1 hs
   have hin : ∀ x ∈ e, x ≠ v → x ∈ S := fun x hx hne => by
    rcases List.mem_append.1 ((setF_mem _ _).1 (hs x hx)) with h | h
    ·exact h
    ·exact absurd (List.mem_singleton.1 h) hne
   by_cases hve : v ∈ e
   ·rw [blkB_iff.2 ⟨e, he, hve, hin⟩] at hb; cases hb
   ·have := hf e he
    rw [subB_iff.2 fun x hx => hin x hx fun e => hve (e ▸ hx)] at this
    cases this
 cases h : freeF g.edges (setF (S ++ [v])) with
 | true => rw [key.1 h]; rfl
 | false =>
  cases hb : blkB g.edges S v with
  | true => rfl
  | false => rw [key.2 hb] at h; cases h
theorem free_ind {g : Gr} (hg : validG g = true) {S : List Int} (hi : Inc S) : freeF g.edges S = indB g.edges S := by
 have hE := (validG_iff.1 hg).2.2.1
 rw [Bool.eq_iff_iff, freeF_sets (fun e he => ⟨(hE e he).2.1, (hE e he).1⟩) hi, indB_iff]
theorem blocked28_spec (g : GrW) (a : Option Addr) (c : Nat) (S : List Int) (v : Int) (w : World) (hG : GOk w g) (hl : GLen g) (hm : S.length ≤ 100000) (hax : a = none → c = 0) (hS : IntSl w a S) :
  RetsP Tryz.prog 53 #[.agg (encGr g).toArray, .slice a S.length c, .int .i64 v] w (.bool (!freeF (vals g.edges) (setF (S ++ [v])))) := by
 have hpl := setF_len (S ++ [v])
 have hpl2 : (S ++ [v]).length = S.length + 1 := by simp
 refine enter (args := [_, _, _]) Tryz.func53 rfl Tryz.ntmps53 (by kernel_rfl) rfl ?_
 refine V.seq (V.region (VL.box (v := .agg _) rfl fun b0_0 w0_0 hb0_0 e0_0 hB0_0 => VL.op (R.asB rfl) (VL.nil (V.seq (?_)))))
 refine V.regionD (T := Ext) mixed 5 (by kernel_rfl) rfl (fun us => VD.op (fun wq eq => R.fld' (o := 2) Tryz.runUnderlying25 rfl rfl Tryz.sizeOf23 rfl rfl) (VD.op (fun wq eq => R.ld1 Tryz.isAgg23 rfl ((show wq.cell? ⟨b0_0, 2, none⟩ = some (Value.slice g.ea g.edges.length g.ec) from (hB0_0.ext eq).cell 2))) (VD.op (fun wq eq => R.mvS rfl) (VD.op (fun wq eq => R.mvI rfl) (VD.callX (fun _ => fun u w' => ∃ x : Option Addr × Nat, u = .slice x.1 (setF (S ++ [v])).length x.2 ∧ IntSl w' x.1 (setF (S ++ [v]))) (DepS.const _) (fun u a b _ ⟨x, h1, h2⟩ eb => ⟨x, h1, h2.ext eb⟩) Tryz.call87 rfl (fun wq eq hq => by
   refine Rets.mono (put28_spec a c S v wq hm hax (hS.ext (e0_0.trans eq))) ?_
   rintro u w' ⟨x, hu, h1, he⟩
   exact ⟨⟨x, hu, OwnT.sl h1⟩, he⟩) (VD.nil (fun w1 e1 h1 => ?_))))))) rfl
 obtain ⟨x, hx, hxs⟩ := h1 4
 rw [hx]
 refine VL.callP Tryz.call86 rfl (free_spec g.edges g.ea x.1 g.ec x.2 (setF (S ++ [v])) w1 (by have := hl.e; omega) (fun y hy => by have := (hl.each y hy).1; omega) (by omega) (hG.e.ext (e0_0.trans e1)) hxs) fun w1_5 e1_5 => VL.op (R.not rfl) (VL.op (R.asB rfl) (VL.nil (V.ret (fret1 (v := .bool _) rfl rfl rfl (⟨rfl, e0_0.trans (e1.trans e1_5)⟩)))))
theorem ind28_spec (g : GrW) (a : Option Addr) (c : Nat) (S : List Int) (w : World) (hG : GOk w g) (hl : GLen g) (hm : S.length ≤ 100000) (hS : IntSl w a S) :
  RetsP Tryz.prog 52 #[.agg (encGr g).toArray, .slice a S.length c] w (.bool (loadB (grV g) S)) := by
 have hle := hl.e
 refine enter (args := [_, _]) Tryz.func52 rfl Tryz.ntmps52 (by kernel_rfl) rfl ?_
 refine V.seq (V.region (VL.box (v := .agg _) rfl fun b0_0 w0_0 hb0_0 e0_0 hB0_0 => VL.op (R.asB rfl) (VL.nil (V.seq (V.region (VL.op (R.ldA Tryz.isAgg25 Tryz.sizeOf25 rfl rfl ((show RowAt _ _ _ (encGr g) from (hB0_0.rowAt 0 3))) rfl) (VL.callP Tryz.call65 rfl (rvalid_spec g _ (hG.ext e0_0) hl) fun w1_1 e1_1 => VL.op (R.mvB rfl) (VL.and rfl rfl (fun g1_2 => VL.op (R.mvS rfl) (VL.gT rfl rfl (VL.op (R.fld' (o := 0) Tryz.runUnderlying25 rfl rfl Tryz.sizeOf3 rfl rfl) (VL.gT rfl rfl (VL.op (R.ld1 Tryz.isAgg3 rfl (((hB0_0.ext e1_1).cell 0))) (VL.gT rfl rfl (VL.callP Tryz.call84 rfl (verts_spec a c S g.n _ (by omega) (hS.ext (e0_0.trans e1_1))) fun w1_6 e1_6 => VL.op (R.pickTB rfl rfl) (VL.op (R.mvB rfl) (VL.and rfl rfl (fun g1_8 => VL.op (R.mvS rfl) (VL.gT rfl rfl (VL.callP Tryz.call85 rfl (incr_spec a c S _ (by omega) (hS.ext ((e0_0.trans e1_1).trans e1_6))) fun w1_10 e1_10 => VL.op (R.pickTB rfl rfl) (VL.op (R.mvB rfl) (VL.and rfl rfl (fun g1_12 => VL.op (R.fld' (o := 2) Tryz.runUnderlying25 rfl rfl Tryz.sizeOf23 rfl rfl) (VL.gT rfl rfl (VL.op (R.ld1 Tryz.isAgg23 rfl (((hB0_0.ext (e1_1.trans (e1_6.trans e1_10))).cell 2))) (VL.gT rfl rfl (VL.op (R.mvS rfl) (VL.gT rfl rfl (VL.callP Tryz.call86 rfl (free_spec g.edges g.ea a g.ec c S _ (by omega) (fun y hy => by have := (hl.each y hy).1; omega) (by omega) (hG.e.ext (((e0_0.trans e1_1).trans e1_6).trans e1_10)) (hS.ext (((e0_0.trans e1_1).trans e1_6).trans e1_10))) fun w1_16 e1_16 => VL.op (R.pickTB rfl rfl) (VL.op (R.asB rfl) (VL.nil (V.ret (fret1 (v := .bool _) rfl rfl rfl (⟨?_, ((((e0_0.trans e1_1).trans e1_6).trans e1_10).trans e1_16)⟩)))))))))))) (fun g1_12 => VL.gF rfl rfl (VL.gF rfl rfl (VL.gF rfl rfl (VL.op (R.pickFB rfl rfl) (VL.op (R.asB rfl) (VL.nil (V.ret (fret1 (v := .bool _) rfl rfl rfl (⟨?_, (((e0_0.trans e1_1).trans e1_6).trans e1_10)⟩)))))))))))))) (fun g1_8 => VL.gF rfl rfl (VL.op (R.pickFB rfl rfl) (VL.op (R.mvB rfl) (VL.gF rfl rfl (VL.gF rfl rfl (VL.gF rfl rfl (VL.gF rfl rfl (VL.op (R.pickFB rfl rfl) (VL.op (R.asB rfl) (VL.nil (V.ret (fret1 (v := .bool _) rfl rfl rfl (⟨?_, ((e0_0.trans e1_1).trans e1_6)⟩)))))))))))))))))))))) (fun g1_2 => VL.gF rfl rfl (VL.gF rfl rfl (VL.gF rfl rfl (VL.op (R.pickFB rfl rfl) (VL.op (R.mvB rfl) (VL.gF rfl rfl (VL.gF rfl rfl (VL.op (R.pickFB rfl rfl) (VL.op (R.mvB rfl) (VL.gF rfl rfl (VL.gF rfl rfl (VL.gF rfl rfl (VL.gF rfl rfl (VL.op (R.pickFB rfl rfl) (VL.op (R.asB rfl) (VL.nil (V.ret (fret1 (v := .bool _) rfl rfl rfl (⟨?_, (e0_0.trans e1_1)⟩)))))))))))))))))))))))))))
 ·rw [show freeF (vals g.edges) S = indB (grV g).edges S from free_ind (g := grV g) g1_2 (setB_iff.1 g1_8).1]
  unfold loadB
  rw [g1_2, show setB S (grV g).n = true from g1_8]
  rfl
 ·exact absurd (setB_iff.1 g1_8).1 (of_decide_eq_false g1_12)
 ·unfold loadB
  rw [show setB S (grV g).n = false from g1_8, Bool.and_false, Bool.false_and]
 ·unfold loadB
  rw [g1_2, Bool.false_and, Bool.false_and]
theorem ris28_spec (g : GrW) (a : Option Addr) (c : Nat) (S : List Int) (w : World) (hG : GOk w g) (hl : GLen g) (hm : S.length ≤ 100000) (hax : a = none → c = 0) (hS : IntSl w a S) :
  RetsP Tryz.prog 34 #[.agg (encGr g).toArray, .slice a S.length c] w (.bool (isB (grV g) S)) := by
 refine enter (args := [_, _]) Tryz.func34 rfl Tryz.ntmps34 (by kernel_rfl) rfl ?_
 refine V.seq (V.region (VL.box (v := .agg _) rfl fun b0_0 w0_0 hb0_0 e0_0 hB0_0 => VL.op (R.asB rfl) (VL.nil (V.seq (V.seq (V.region (VL.op (R.ldA Tryz.isAgg25 Tryz.sizeOf25 rfl rfl ((show RowAt _ _ _ (encGr g) from (hB0_0.rowAt 0 3))) rfl) (VL.op (R.mvS rfl) (VL.callP Tryz.call52 rfl (ind28_spec g a c S _ (hG.ext e0_0) hl hm (hS.ext e0_0)) fun w1_2 e1_2 => VL.op (R.not rfl) (VL.nil (V.cond rfl (fun c9 => V.seq (V.region (VL.op (R.asB rfl) (VL.nil (V.ret (fret1 (v := .bool _) rfl rfl rfl (⟨?_, (e0_0.trans e1_2)⟩))))))) (fun c9 => V.skip (V.seq (V.seq (?_)))))))))))))))
 ·have hb : loadB (grV g) S = false := by simpa using c9
  unfold isB; rw [hb, Bool.false_and]
 have hb : loadB (grV g) S = true := by simpa using c9
 obtain ⟨hv, hset, hind⟩ := loadB_iff.1 hb
 have hcb := costB_iff.1 (validG_iff.1 hv).1
 have hgn : (grV g).n = g.n := rfl
 obtain ⟨N, hN⟩ : ∃ N : Nat, g.n = (N : Int) := ⟨g.n.toNat, by have := hcb.1; omega⟩
 have hN4 : N ≤ 4000 := by have := hcb.2.1; omega
 have E1 := e0_0.trans e1_2
 have hX1 : Blk w1_2 b0_0 (.cells (Value.agg (encGr g).toArray).cells 25 (0, 0)) := hB0_0.ext e1_2
 refine V.region (VL.op (R.asI rfl) (VL.nil (V.block (?_))))
 refine V.loop [1, 2, 5] (fun v : Nat => [.slice a S.length c, .pointer (some ⟨b0_0, 0, none⟩), .int .i64 (v : Nat)]) (fun v w' => v ≤ N ∧ (∀ u : Nat, u < v → (u : Int) ∈ S ∨ blkB (vals g.edges) S (u : Int) = true) ∧ Ext w1_2 w') (fun v => N - v) 0 rfl ⟨Nat.zero_le _, fun u h => absurd h (Nat.not_lt_zero u), Vc.Mod.refl _ _⟩ ?_
 rintro ρ v w2 ⟨hvN, hu, e2⟩
 have hX2 := hX1.ext e2
 have hS2 := hS.ext (E1.trans e2)
 have hbl : (!freeF (vals g.edges) (setF (S ++ [(v : Int)]))) = blkB (vals g.edges) S (v : Int) := blkR_eq hv (setB_iff.1 hset).1 hind (v : Int)
 refine V.seq (V.seq (V.region (VL.op (R.mvI rfl) (VL.op (R.fld' (o := 0) Tryz.runUnderlying25 rfl rfl Tryz.sizeOf3 rfl rfl) (VL.op (R.ld1 Tryz.isAgg3 rfl ((show w2.cell? ⟨b0_0, 0, none⟩ = some (Value.int .i64 ((N : Nat) : Int)) from by rw [← hN]; exact hX2.cell 0))) (VL.op (R.lss rfl rfl) (VL.nil (V.condP rfl (fun c13 => V.skip (V.seq (V.block (V.seq (?_))))) (fun c13 => V.exit (V.seq (V.region (VL.op (R.asB rfl) (VL.nil (V.ret (fret1 (v := .bool _) rfl rfl rfl (⟨?_, E1.trans e2⟩))))))))))))))))
 ·have hvl : v < N := by omega
  refine V.region (VL.op (R.mvS rfl) (VL.op (R.mvI rfl) (VL.callP Tryz.call28 rfl (in_spec a c S (v : Int) w2 (by omega) hS2) fun w6_2 e6_2 => VL.op (R.not rfl) (VL.op (R.mvB rfl) (VL.and rfl rfl (fun g6_4 => VL.op (R.ldA Tryz.isAgg25 Tryz.sizeOf25 rfl rfl ((show RowAt _ _ _ (encGr g) from (hX2.ext e6_2).rowAt 0 3)) rfl) (VL.gT rfl rfl (VL.op (R.mvS rfl) (VL.gT rfl rfl (VL.op (R.mvI rfl) (VL.gT rfl rfl (VL.callP Tryz.call53 rfl (blocked28_spec g a c S (v : Int) _ (hG.ext (E1.trans (e2.trans e6_2))) hl hm hax (hS2.ext e6_2)) fun w6_8 e6_8 => VL.gT rfl rfl (VL.op (R.not rfl) (VL.op (R.pickTB rfl rfl) (VL.nil (V.cond rfl (fun c26 => V.seq (V.region (VL.op (R.asB rfl) (VL.nil (V.ret (fret1 (v := .bool _) rfl rfl rfl (⟨?_, E1.trans (e2.trans (e6_2.trans e6_8))⟩))))))) (fun c26 => V.skip (V.region (VL.op (R.mvI rfl) (VL.op (R.add rfl rfl (by omega) (by omega)) (VL.op (R.asI rfl) (VL.nil (⟨v + 1, rfl, ⟨by omega, fun u h => ?_, e2.trans (e6_2.trans e6_8)⟩, by omega⟩)))))))))))))))))) (fun g6_4 => VL.gF rfl rfl (VL.gF rfl rfl (VL.gF rfl rfl (VL.gF rfl rfl (VL.op (R.pickFB rfl rfl) (VL.nil (V.condF rfl (V.skip (V.region (VL.op (R.mvI rfl) (VL.op (R.add rfl rfl (by omega) (by omega)) (VL.op (R.asI rfl) (VL.nil (⟨v + 1, rfl, ⟨by omega, fun u h => ?_, e2.trans e6_2⟩, by omega⟩)))))))))))))))))))
  ·have h1 : (v : Int) ∉ S := by simpa using g6_4
   have h2 : blkB (vals g.edges) S (v : Int) = false := by rw [← hbl]; simpa using c26
   have : isB (grV g) S = false := Bool.eq_false_iff.2 fun hh => by
    unfold isB at hh
    rw [hb, Bool.true_and, List.all_eq_true] at hh
    have := hh v (List.mem_range.2 (by omega))
    rw [decide_eq_false h1, Bool.false_or] at this
    rw [show (grV g).edges = vals g.edges from rfl, h2] at this
    cases this
   rw [this]
  ·by_cases e : u = v
   ·subst e
    refine .inr ?_
    rw [← hbl]; simpa using c26
   ·exact hu u (by omega)
  ·by_cases e : u = v
   ·subst e
    exact .inl (by simpa using g6_4)
   ·exact hu u (by omega)
 ·have : isB (grV g) S = true := by
   unfold isB
   rw [hb, Bool.true_and, List.all_eq_true]
   intro v' hv'
   have hv' := List.mem_range.1 hv'
   rcases hu v' (by omega) with h | h
   ·rw [decide_eq_true h, Bool.true_or]
   ·rw [show (grV g).edges = vals g.edges from rfl, h, Bool.or_true]
  rw [this]
end Go.Proofs.YtdbcfpcicjgghaaGreatDoor
