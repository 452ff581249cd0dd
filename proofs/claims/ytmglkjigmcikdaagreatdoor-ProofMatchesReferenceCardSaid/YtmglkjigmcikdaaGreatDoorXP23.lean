/- Proof: the reference's small functions. -/
import Derived.Test.YtmglkjigmcikdaaGreatDoorXP19
import Derived.Test.YtmglkjigmcikdaaGreatDoorXQ1
namespace Go.Proofs.YtmglkjigmcikdaaGreatDoor
open Go.Vc
set_option maxRecDepth 100000
set_option maxHeartbeats 16000000
theorem rformed30_spec (x : WyI) (n : Int) (w : World) (hx : WyOk w x) (hl : WLen x) :
  RetsP Tryz.prog 20 #[.agg (encWy x).toArray, .int .i64 n] w (.bool (wyB n (wyV x))) := by
 have hlp := hl.p
 have hln := hl.n
 refine enter (args := [_, _]) Tryz.func20 rfl Tryz.ntmps20 (by kernel_rfl) rfl ?_
 refine V.seq (V.region (VL.box (v := .agg _) rfl fun b0_0 w0_0 hb0_0 e0_0 hB0_0 => VL.op (R.asB rfl) (VL.nil (V.seq (V.region (VL.op (R.fld' (o := 0) Tryz.runUnderlying37 rfl rfl Tryz.sizeOf22 rfl rfl) (VL.op (R.ld1 Tryz.isAgg22 rfl ((show _ = some (Value.slice x.p.a x.p.l.length x.p.c) from hB0_0.cell 0))) (VL.op (R.mvI rfl) (VL.callP Tryz.call47 rfl (verts_spec x.p.a x.p.c x.p.l n _ (by omega) (hx.p.ext e0_0)) fun w1_3 e1_3 => VL.op (R.mvB rfl) (VL.and rfl rfl (fun g1_4 => VL.op (R.fld' (o := 1) Tryz.runUnderlying37 rfl rfl Tryz.sizeOf22 rfl rfl) (VL.gT rfl rfl (VL.op (R.ld1 Tryz.isAgg22 rfl ((show _ = some (Value.slice x.n.a x.n.l.length x.n.c) from (hB0_0.ext e1_3).cell 1))) (VL.gT rfl rfl (VL.op (R.mvI rfl) (VL.gT rfl rfl (VL.callP Tryz.call47 rfl (verts_spec x.n.a x.n.c x.n.l n _ (by omega) (hx.n.ext (e0_0.trans e1_3))) fun w1_8 e1_8 => VL.op (R.pickTB rfl rfl) (VL.op (R.asB rfl) (VL.nil (V.ret (fret1 (v := .bool _) rfl rfl rfl (⟨?_, ((e0_0.trans e1_3).trans e1_8)⟩)))))))))))) (fun g1_4 => VL.gF rfl rfl (VL.gF rfl rfl (VL.gF rfl rfl (VL.op (R.pickFB rfl rfl) (VL.op (R.asB rfl) (VL.nil (V.ret (fret1 (v := .bool _) rfl rfl rfl (⟨?_, (e0_0.trans e1_3)⟩)))))))))))))))))))
 ·exact congrArg Value.bool (by unfold wyB wyV; dsimp only; rw [g1_4, Bool.true_and])
 ·exact congrArg Value.bool (by unfold wyB wyV; dsimp only; rw [g1_4, Bool.false_and])
theorem holdP_pos {S : List Int} {w : Wy} (hp : Inc w.pos) (hn : Inc w.neg) (hS : Inc S) : holdP S w = (contF S w.pos && w.neg.all fun v => !decide (v ∈ S)) := by
 unfold holdP holdW
 rw [decide_eq_true ⟨hp, hn, hS⟩, Bool.true_and, contF_sub hS hp]
 rfl
theorem rholds30_spec (x : WyI) (a : Option Addr) (c : Nat) (S : List Int) (w : World) (hx : WyOk w x) (hl : WLen x) (hS : IntSl w a S) (hm : S.length ≤ 1000000) :
  RetsP Tryz.prog 13 #[.agg (encWy x).toArray, .slice a S.length c] w (.bool (holdP S (wyV x))) := by
 have hlp := hl.p
 have hln := hl.n
 refine enter (args := [_, _]) Tryz.func13 rfl Tryz.ntmps13 (by kernel_rfl) rfl ?_
 refine V.seq (V.region (VL.box (v := .agg _) rfl fun b0_0 w0_0 hb0_0 e0_0 hB0_0 => VL.op (R.asB rfl) (VL.nil (V.seq (V.seq (V.region (VL.op (R.fld' (o := 0) Tryz.runUnderlying37 rfl rfl Tryz.sizeOf22 rfl rfl) (VL.op (R.ld1 Tryz.isAgg22 rfl ((show _ = some (Value.slice x.p.a x.p.l.length x.p.c) from hB0_0.cell 0))) (VL.callP Tryz.call32 rfl (incr_spec x.p.a x.p.c x.p.l _ (by omega) (hx.p.ext e0_0)) fun w1_2 e1_2 => VL.op (R.not rfl) (VL.op (R.mvB rfl) (VL.or rfl rfl (fun g1_4 => VL.op (R.fld' (o := 1) Tryz.runUnderlying37 rfl rfl Tryz.sizeOf22 rfl rfl) (VL.gT rfl rfl (VL.op (R.ld1 Tryz.isAgg22 rfl ((show _ = some (Value.slice x.n.a x.n.l.length x.n.c) from (hB0_0.ext e1_2).cell 1))) (VL.gT rfl rfl (VL.callP Tryz.call32 rfl (incr_spec x.n.a x.n.c x.n.l _ (by omega) (hx.n.ext (e0_0.trans e1_2))) fun w1_7 e1_7 => VL.gT rfl rfl (VL.op (R.not rfl) (VL.op (R.pickFB rfl rfl) (VL.op (R.mvB rfl) (VL.or rfl rfl (fun g1_10 => VL.op (R.mvS rfl) (VL.gT rfl rfl (VL.callP Tryz.call32 rfl (incr_spec a c S _ (by omega) (hS.ext ((e0_0.trans e1_2).trans e1_7))) fun w1_12 e1_12 => VL.gT rfl rfl (VL.op (R.not rfl) (VL.op (R.pickFB rfl rfl) (VL.op (R.mvB rfl) (VL.or rfl rfl (fun g1_15 => VL.op (R.mvS rfl) (VL.gT rfl rfl (VL.op (R.fld' (o := 0) Tryz.runUnderlying37 rfl rfl Tryz.sizeOf22 rfl rfl) (VL.gT rfl rfl (VL.op (R.ld1 Tryz.isAgg22 rfl ((show _ = some (Value.slice x.p.a x.p.l.length x.p.c) from (hB0_0.ext (e1_2.trans (e1_7.trans e1_12))).cell 0))) (VL.gT rfl rfl (VL.callP Tryz.call33 rfl (cont_spec a x.p.a c x.p.c S x.p.l _ (by omega) (by omega) (hS.ext (((e0_0.trans e1_2).trans e1_7).trans e1_12)) (hx.p.ext (((e0_0.trans e1_2).trans e1_7).trans e1_12))) fun w1_19 e1_19 => VL.gT rfl rfl (VL.op (R.not rfl) (VL.op (R.pickFB rfl rfl) (VL.nil (V.cond rfl (fun c27 => V.seq (V.region (VL.op (R.asB rfl) (VL.nil (V.ret (fret1 (v := .bool _) rfl rfl rfl (⟨?_, ((((e0_0.trans e1_2).trans e1_7).trans e1_12).trans e1_19)⟩))))))) (fun c27 => V.skip (V.seq (V.seq (?_))))))))))))))) (fun g1_15 => VL.gF rfl rfl (VL.gF rfl rfl (VL.gF rfl rfl (VL.gF rfl rfl (VL.op (R.pickTB rfl rfl) (VL.nil (V.condT rfl (V.seq (V.region (VL.op (R.asB rfl) (VL.nil (V.ret (fret1 (v := .bool _) rfl rfl rfl (⟨?_, (((e0_0.trans e1_2).trans e1_7).trans e1_12)⟩))))))))))))))))))))) (fun g1_10 => VL.gF rfl rfl (VL.gF rfl rfl (VL.op (R.pickTB rfl rfl) (VL.op (R.mvB rfl) (VL.gF rfl rfl (VL.gF rfl rfl (VL.gF rfl rfl (VL.gF rfl rfl (VL.gF rfl rfl (VL.op (R.pickTB rfl rfl) (VL.nil (V.condT rfl (V.seq (V.region (VL.op (R.asB rfl) (VL.nil (V.ret (fret1 (v := .bool _) rfl rfl rfl (⟨?_, ((e0_0.trans e1_2).trans e1_7)⟩)))))))))))))))))))))))))))) (fun g1_4 => VL.gF rfl rfl (VL.gF rfl rfl (VL.gF rfl rfl (VL.op (R.pickTB rfl rfl) (VL.op (R.mvB rfl) (VL.gF rfl rfl (VL.gF rfl rfl (VL.gF rfl rfl (VL.op (R.pickTB rfl rfl) (VL.op (R.mvB rfl) (VL.gF rfl rfl (VL.gF rfl rfl (VL.gF rfl rfl (VL.gF rfl rfl (VL.gF rfl rfl (VL.op (R.pickTB rfl rfl) (VL.nil (V.condT rfl (V.seq (V.region (VL.op (R.asB rfl) (VL.nil (V.ret (fret1 (v := .bool _) rfl rfl rfl (⟨?_, (e0_0.trans e1_2)⟩))))))))))))))))))))))))))))))))))))
 ·refine congrArg Value.bool (Bool.eq_false_iff.2 fun hh => ?_).symm
  have h1 : Inc x.p.l := by simpa using g1_4
  have h2 : Inc x.n.l := by simpa using g1_10
  have h3 : Inc S := by simpa using g1_15
  have h4 : contF S x.p.l = false := by simpa using c27
  rw [holdP_pos (w := wyV x) h1 h2 h3, show (wyV x).pos = x.p.l from rfl, h4, Bool.false_and] at hh
  cases hh
 ·have h1 : Inc x.p.l := by simpa using g1_4
  have h2 : Inc x.n.l := by simpa using g1_10
  have h3 : Inc S := by simpa using g1_15
  have h4 : contF S x.p.l = true := by simpa using c27
  rw [holdP_pos (w := wyV x) h1 h2 h3, show (wyV x).pos = x.p.l from rfl, h4, Bool.true_and, show (wyV x).neg = x.n.l from rfl]
  have E1 : Ext w0_0 w1_19 := e1_2.trans (e1_7.trans (e1_12.trans e1_19))
  refine V.region (VL.op (R.asI rfl) (VL.nil (V.block (?_))))
  refine V.loop [1, 2, 5] (fun k : Nat => [.slice a S.length c, .pointer (some ⟨b0_0, 0, none⟩), .int .i64 (k : Nat)]) (fun k w' => k ≤ x.n.l.length ∧ (∀ i, i < k → x.n.l.getD i default ∉ S) ∧ Ext w0_0 w') (fun k => x.n.l.length - k) 0 rfl ⟨Nat.zero_le _, fun i h => absurd h (Nat.not_lt_zero i), E1⟩ ?_
  rintro ρ k w2 ⟨hk, hf, e⟩
  have hX2 := hB0_0.ext e
  have hL2 := hx.n.ext (e0_0.trans e)
  refine V.seq (V.seq (V.region (VL.op (R.mvI rfl) (VL.op (R.fld' (o := 1) Tryz.runUnderlying37 rfl rfl Tryz.sizeOf22 rfl rfl) (VL.op (R.ld1 Tryz.isAgg22 rfl ((show _ = some (Value.slice x.n.a x.n.l.length x.n.c) from hX2.cell 1))) (VL.op (R.lenS Tryz.runUnderlying22 rfl) (VL.op (R.lss rfl rfl) (VL.nil (V.condP rfl (fun c32 => V.skip (V.seq (V.block (V.seq (?_))))) (fun c32 => V.exit (V.seq (V.region (VL.op (R.asB rfl) (VL.nil (V.ret (fret1 (v := .bool _) rfl rfl rfl (⟨?_, e0_0.trans e⟩)))))))))))))))))
  ·have hkn : k < x.n.l.length := by omega
   refine V.region (VL.op (R.mvS rfl) (VL.op (R.fld' (o := 1) Tryz.runUnderlying37 rfl rfl Tryz.sizeOf22 rfl rfl) (VL.op (R.ld1 Tryz.isAgg22 rfl ((show _ = some (Value.slice x.n.a x.n.l.length x.n.c) from hX2.cell 1))) (VL.op (R.mvI rfl) (VL.op (R.ixS Tryz.runUnderlying22 Tryz.sizeOf3 rfl rfl (by omega) (by omega) (hL2.some (i := k) hkn)) (VL.op (R.ld1 Tryz.isAgg3 rfl (((hL2.row (i := k) hkn).cell (i := 0) rfl))) (VL.callP Tryz.call34 rfl (in_spec a c S (x.n.l.getD k default) w2 (by omega) (hS.ext (e0_0.trans e))) fun w6_6 e6_6 => VL.nil (V.cond rfl (fun c41 => V.seq (V.region (VL.op (R.asB rfl) (VL.nil (V.ret (fret1 (v := .bool _) rfl rfl rfl (⟨?_, e0_0.trans (e.trans e6_6)⟩))))))) (fun c41 => V.skip (V.region (VL.op (R.mvI rfl) (VL.op (R.add rfl rfl (by omega) (by omega)) (VL.op (R.asI rfl) (VL.nil (⟨k + 1, rfl, ⟨by omega, fun i hi => ?_, e.trans e6_6⟩, by omega⟩)))))))))))))))
   ·refine congrArg Value.bool (List.all_eq_false.2 ⟨_, gmem hkn, ?_⟩).symm
    have : x.n.l.getD k default ∈ S := by simpa using c41
    rw [decide_eq_true this]; decide
   ·by_cases h : i = k
    ·subst h; simpa using c41
    ·exact hf i (by omega)
  ·have hkn : k = x.n.l.length := by omega
   subst hkn
   refine congrArg Value.bool (List.all_eq_true.2 fun v hv => ?_).symm
   obtain ⟨i, hi, rfl⟩ := List.getElem_of_mem hv
   have := hf i hi
   rw [gget hi] at this
   rw [decide_eq_false this]; rfl
 ·refine congrArg Value.bool (Bool.eq_false_iff.2 fun hh => ?_).symm
  have h3 : ¬ Inc S := by simpa using g1_15
  unfold holdP at hh
  rw [decide_eq_false fun h => h3 h.2.2, Bool.false_and] at hh
  cases hh
 ·refine congrArg Value.bool (Bool.eq_false_iff.2 fun hh => ?_).symm
  have h3 : ¬ Inc x.n.l := by simpa using g1_10
  unfold holdP at hh
  rw [decide_eq_false fun h => h3 h.2.1, Bool.false_and] at hh
  cases hh
 ·refine congrArg Value.bool (Bool.eq_false_iff.2 fun hh => ?_).symm
  have h3 : ¬ Inc x.p.l := by simpa using g1_4
  unfold holdP at hh
  rw [decide_eq_false fun h => h3 h.1, Bool.false_and] at hh
  cases hh
theorem rsome30_spec (wa : Option Addr) (wc : Nat) (W : List WyI) (a : Option Addr) (c : Nat) (S : List Int) (w : World) (hW : WL w wa W) (hWl : ∀ y ∈ W, WLen y) (hWm : W.length ≤ 1000000) (hS : IntSl w a S) (hm : S.length ≤ 1000000) :
  RetsP Tryz.prog 21 #[.slice wa W.length wc, .slice a S.length c] w (.bool ((W.map wyV).any (holdP S))) := by
 refine enter (args := [_, _]) Tryz.func21 rfl Tryz.ntmps21 (by kernel_rfl) rfl ?_
 refine V.seq (V.region (VL.op (R.asB rfl) (VL.nil (V.seq (V.seq (V.region (VL.op (R.asI rfl) (VL.nil (V.block (?_))))))))))
 refine V.loop [0, 1, 5] (fun k : Nat => [.slice wa W.length wc, .slice a S.length c, .int .i64 (k : Nat)]) (fun k w' => k ≤ W.length ∧ (∀ i, i < k → holdP S (wyV (W.getD i default)) = false) ∧ Ext w w') (fun k => W.length - k) 0 rfl ⟨Nat.zero_le _, fun i h => absurd h (Nat.not_lt_zero i), Vc.Mod.refl _ _⟩ ?_
 rintro ρ k w2 ⟨hk, hf, e⟩
 have hW2 := hW.ext e
 refine V.seq (V.seq (V.region (VL.op (R.mvI rfl) (VL.op (R.mvS rfl) (VL.op (R.lenS Tryz.runUnderlying26 rfl) (VL.op (R.lss rfl rfl) (VL.nil (V.condP rfl (fun c9 => V.skip (V.seq (V.block (V.seq (?_))))) (fun c9 => V.exit (V.seq (V.region (VL.op (R.asB rfl) (VL.nil (V.ret (fret1 (v := .bool _) rfl rfl rfl (⟨?_, e⟩))))))))))))))))
 ·have hkn : k < W.length := by omega
  refine V.region (VL.op (R.mvS rfl) (VL.op (R.mvI rfl) (VL.op (R.ixS Tryz.runUnderlying26 Tryz.sizeOf37 rfl rfl (by omega) (by omega) (hW2.sl.some (i := k) hkn)) (VL.op (R.ldA Tryz.isAgg37 Tryz.sizeOf37 rfl rfl ((show RowAt _ _ _ (encWy (W.getD k default)) from (hW2.sl.row (i := k) hkn))) rfl) (VL.op (R.mvS rfl) (VL.callP Tryz.call13 rfl (rholds30_spec (W.getD k default) a c S _ ((hW2.at hkn).ext (Mod.refl _ _)) (hWl _ (gmem hkn)) (hS.ext (e.trans (Mod.refl _ _))) hm) fun w4_5 e4_5 => VL.nil (V.cond rfl (fun c17 => V.seq (V.region (VL.op (R.asB rfl) (VL.nil (V.ret (fret1 (v := .bool _) rfl rfl rfl (⟨?_, e.trans e4_5⟩))))))) (fun c17 => V.skip (V.region (VL.op (R.mvI rfl) (VL.op (R.add rfl rfl (by omega) (by omega)) (VL.op (R.asI rfl) (VL.nil (⟨k + 1, rfl, ⟨by omega, fun i hi => ?_, e.trans e4_5⟩, by omega⟩))))))))))))))
  ·refine congrArg Value.bool ?_
   refine (List.any_eq_true.2 ⟨_, List.mem_map_of_mem (gmem hkn), ?_⟩).symm
   assumption
  ·by_cases h : i = k
   ·subst h; assumption
   ·exact hf i (by omega)
 ·have hkn : k = W.length := by omega
  subst hkn
  refine congrArg Value.bool (List.any_eq_false.2 fun y hy => ?_).symm
  obtain ⟨x, hx, rfl⟩ := List.mem_map.1 hy
  obtain ⟨i, hi, rfl⟩ := List.getElem_of_mem hx
  have := hf i hi
  rw [gget hi] at this
  rw [this]; exact Bool.false_ne_true
end Go.Proofs.YtmglkjigmcikdaaGreatDoor

/- Proof: the reference: decisions of lists. -/
namespace Go.Proofs.YtmglkjigmcikdaaGreatDoor
open Go.Vc
set_option maxRecDepth 100000
set_option maxHeartbeats 16000000
theorem rall30_spec (ta : Option Addr) (tc : Nat) (s : List Int) (a : Option Addr) (c : Nat) (l : List Int) (x : Int) (w : World) (hT : IntSl w ta s) (hL : IntSl w a l) (hr : ∀ v ∈ l, 0 ≤ v ∧ v < (s.length : Int)) (_hs : s.length ≤ 1000000) (hm : l.length ≤ 1000000) :
  RetsP Tryz.prog 63 #[.slice ta s.length tc, .slice a l.length c, .int .i64 x] w (.bool (areA s l x)) := by
 refine enter (args := [_, _, _]) Tryz.func63 rfl Tryz.ntmps63 (by kernel_rfl) rfl ?_
 refine V.seq (V.region (VL.op (R.asB rfl) (VL.nil (V.seq (V.seq (V.region (VL.op (R.asI rfl) (VL.nil (V.block (?_))))))))))
 refine V.loop [0, 1, 2, 7] (fun k : Nat => [.slice ta s.length tc, .slice a l.length c, .int .i64 x, .int .i64 (k : Nat)]) (fun k w' => k ≤ l.length ∧ (∀ i, i < k → stA s (l.getD i default) = x) ∧ Ext w w') (fun k => l.length - k) 0 rfl ⟨Nat.zero_le _, fun i h => absurd h (Nat.not_lt_zero i), Vc.Mod.refl _ _⟩ ?_
 rintro ρ k w2 ⟨hk, hf, e⟩
 have hL2 := hL.ext e
 have hT2 := hT.ext e
 refine V.seq (V.seq (V.region (VL.op (R.mvI rfl) (VL.op (R.mvS rfl) (VL.op (R.lenS Tryz.runUnderlying22 rfl) (VL.op (R.lss rfl rfl) (VL.nil (V.condP rfl (fun c11 => V.skip (V.seq (V.block (V.seq (?_))))) (fun c11 => V.exit (V.seq (V.region (VL.op (R.asB rfl) (VL.nil (V.ret (fret1 (v := .bool _) rfl rfl rfl (⟨?_, e⟩))))))))))))))))
 ·have hkn : k < l.length := by omega
  obtain ⟨v, hvd⟩ : ∃ v : Nat, (v : Int) = l.getD k default := ⟨(l.getD k default).toNat, by have := (hr _ (gmem hkn)).1; omega⟩
  have hvs : v < s.length := by have := (hr _ (gmem hkn)).2; omega
  have hst : stA s (l.getD k default) = s.getD v default := by rw [← hvd]; unfold stA; rw [Int.toNat_natCast]
  refine V.region (VL.op (R.mvS rfl) (VL.op (R.mvS rfl) (VL.op (R.mvI rfl) (VL.op (R.ixS Tryz.runUnderlying22 Tryz.sizeOf3 rfl rfl (by omega) (by omega) (hL2.some (i := k) hkn)) (VL.op (R.ld1 Tryz.isAgg3 rfl ((((show RowAt _ _ _ [Value.int .i64 ((v : Nat) : Int)] from by rw [hvd]; exact hL2.row (i := k) hkn)).cell (i := 0) rfl))) (VL.op (R.ixS Tryz.runUnderlying22 Tryz.sizeOf3 rfl rfl (by omega) (by omega) (hT2.some (i := v) hvs)) (VL.op (R.ld1 Tryz.isAgg3 rfl (((hT2.row (i := v) hvs).cell (i := 0) rfl))) (VL.op (R.mvI rfl) (VL.op (R.neq rfl rfl) (VL.nil (V.condP rfl (fun c22 => V.seq (V.region (VL.op (R.asB rfl) (VL.nil (V.ret (fret1 (v := .bool _) rfl rfl rfl (⟨?_, e⟩))))))) (fun c22 => V.skip (V.region (VL.op (R.mvI rfl) (VL.op (R.add rfl rfl (by omega) (by omega)) (VL.op (R.asI rfl) (VL.nil (⟨k + 1, rfl, ⟨by omega, fun i hi => ?_, e⟩, by omega⟩))))))))))))))))))
  ·refine congrArg Value.bool (Bool.eq_false_iff.2 fun hh => ?_).symm
   have := areA_iff.1 hh _ (gmem hkn)
   omega
  ·by_cases h : i = k
   ·subst h; omega
   ·exact hf i (by omega)
 ·have hkn : k = l.length := by omega
  subst hkn
  refine congrArg Value.bool (areA_iff.2 fun v hv => ?_).symm
  obtain ⟨i, hi, rfl⟩ := List.getElem_of_mem hv
  have := hf i hi
  rwa [gget hi] at this
theorem rsm30_spec (ta : Option Addr) (tc : Nat) (s : List Int) (a : Option Addr) (c : Nat) (l : List Int) (x : Int) (w : World) (hT : IntSl w ta s) (hL : IntSl w a l) (hr : ∀ v ∈ l, 0 ≤ v ∧ v < (s.length : Int)) (_hs : s.length ≤ 1000000) (hm : l.length ≤ 1000000) :
  RetsP Tryz.prog 65 #[.slice ta s.length tc, .slice a l.length c, .int .i64 x] w (.bool (somA s l x)) := by
 refine enter (args := [_, _, _]) Tryz.func65 rfl Tryz.ntmps65 (by kernel_rfl) rfl ?_
 refine V.seq (V.region (VL.op (R.asB rfl) (VL.nil (V.seq (V.seq (V.region (VL.op (R.asI rfl) (VL.nil (V.block (?_))))))))))
 refine V.loop [0, 1, 2, 7] (fun k : Nat => [.slice ta s.length tc, .slice a l.length c, .int .i64 x, .int .i64 (k : Nat)]) (fun k w' => k ≤ l.length ∧ (∀ i, i < k → stA s (l.getD i default) ≠ x) ∧ Ext w w') (fun k => l.length - k) 0 rfl ⟨Nat.zero_le _, fun i h => absurd h (Nat.not_lt_zero i), Vc.Mod.refl _ _⟩ ?_
 rintro ρ k w2 ⟨hk, hf, e⟩
 have hL2 := hL.ext e
 have hT2 := hT.ext e
 refine V.seq (V.seq (V.region (VL.op (R.mvI rfl) (VL.op (R.mvS rfl) (VL.op (R.lenS Tryz.runUnderlying22 rfl) (VL.op (R.lss rfl rfl) (VL.nil (V.condP rfl (fun c11 => V.skip (V.seq (V.block (V.seq (?_))))) (fun c11 => V.exit (V.seq (V.region (VL.op (R.asB rfl) (VL.nil (V.ret (fret1 (v := .bool _) rfl rfl rfl (⟨?_, e⟩))))))))))))))))
 ·have hkn : k < l.length := by omega
  obtain ⟨v, hvd⟩ : ∃ v : Nat, (v : Int) = l.getD k default := ⟨(l.getD k default).toNat, by have := (hr _ (gmem hkn)).1; omega⟩
  have hvs : v < s.length := by have := (hr _ (gmem hkn)).2; omega
  have hst : stA s (l.getD k default) = s.getD v default := by rw [← hvd]; unfold stA; rw [Int.toNat_natCast]
  refine V.region (VL.op (R.mvS rfl) (VL.op (R.mvS rfl) (VL.op (R.mvI rfl) (VL.op (R.ixS Tryz.runUnderlying22 Tryz.sizeOf3 rfl rfl (by omega) (by omega) (hL2.some (i := k) hkn)) (VL.op (R.ld1 Tryz.isAgg3 rfl ((((show RowAt _ _ _ [Value.int .i64 ((v : Nat) : Int)] from by rw [hvd]; exact hL2.row (i := k) hkn)).cell (i := 0) rfl))) (VL.op (R.ixS Tryz.runUnderlying22 Tryz.sizeOf3 rfl rfl (by omega) (by omega) (hT2.some (i := v) hvs)) (VL.op (R.ld1 Tryz.isAgg3 rfl (((hT2.row (i := v) hvs).cell (i := 0) rfl))) (VL.op (R.mvI rfl) (VL.op (R.eql rfl rfl) (VL.nil (V.condP rfl (fun c22 => V.seq (V.region (VL.op (R.asB rfl) (VL.nil (V.ret (fret1 (v := .bool _) rfl rfl rfl (⟨?_, e⟩))))))) (fun c22 => V.skip (V.region (VL.op (R.mvI rfl) (VL.op (R.add rfl rfl (by omega) (by omega)) (VL.op (R.asI rfl) (VL.nil (⟨k + 1, rfl, ⟨by omega, fun i hi => ?_, e⟩, by omega⟩))))))))))))))))))
  ·refine congrArg Value.bool (somA_iff.2 ⟨_, gmem hkn, ?_⟩).symm
   omega
  ·by_cases h : i = k
   ·subst h; omega
   ·exact hf i (by omega)
 ·have hkn : k = l.length := by omega
  subst hkn
  refine congrArg Value.bool (Bool.eq_false_iff.2 fun hh => ?_).symm
  obtain ⟨v, hv, hx⟩ := somA_iff.1 hh
  obtain ⟨i, hi, rfl⟩ := List.getElem_of_mem hv
  have := hf i hi
  rw [gget hi] at this
  exact this hx
def othK (s e : List Int) (v : Int) (k : Nat) : Bool := (e.take k).any fun u => decide (u ≠ v) && decide (stA s u = 2)
theorem othK_succ {s e : List Int} {v : Int} {k : Nat} (h : k < e.length) : othK s e v (k + 1) = (othK s e v k || (decide (e.getD k default ≠ v) && decide (stA s (e.getD k default) = 2))) := by
 unfold othK
 rw [List.take_succ_eq_append_getElem h, List.any_append, gget h, List.any_cons, List.any_nil, Bool.or_false]
theorem rfree30_spec (g : GrW) (ta : Option Addr) (tc : Nat) (s : List Int) (v : Int) (w : World) (hG : GOk w g) (hl : GLen g) (hT : IntSl w ta s) (hr : ∀ e ∈ vals g.edges, ∀ u ∈ e, 0 ≤ u ∧ u < (s.length : Int)) (_hs : s.length ≤ 1000000) :
  RetsP Tryz.prog 64 #[.agg (encGr g).toArray, .slice ta s.length tc, .int .i64 v] w (.bool (frA (vals g.edges) s v)) := by
 have hle := hl.e
 refine enter (args := [_, _, _]) Tryz.func64 rfl Tryz.ntmps64 (by kernel_rfl) rfl ?_
 refine V.seq (V.region (VL.box (v := .agg _) rfl fun b0_0 w0_0 hb0_0 e0_0 hB0_0 => VL.op (R.asB rfl) (VL.nil (V.seq (V.seq (V.region (VL.op (R.asI rfl) (VL.nil (V.block (?_))))))))))
 refine V.loop [1, 2, 3, 7] (fun k : Nat => [.slice ta s.length tc, .int .i64 v, .pointer (some ⟨b0_0, 0, none⟩), .int .i64 (k : Nat)]) (fun k w' => k ≤ g.edges.length ∧ (∀ i, i < k → v ∈ (g.edges.getD i default).l → othK s (g.edges.getD i default).l v (g.edges.getD i default).l.length = true) ∧ Ext w0_0 w') (fun k => g.edges.length - k) 0 rfl ⟨Nat.zero_le _, fun i h => absurd h (Nat.not_lt_zero i), Vc.Mod.refl _ _⟩ ?_
 rintro ρ k w2 ⟨hk, hf, e⟩
 have hX2 := hB0_0.ext e
 have hG2 := hG.ext (e0_0.trans e)
 have hE2 := hG2.e
 have hT2 := hT.ext (e0_0.trans e)
 refine V.seq (V.seq (V.region (VL.op (R.mvI rfl) (VL.op (R.fld' (o := 2) Tryz.runUnderlying25 rfl rfl Tryz.sizeOf23 rfl rfl) (VL.op (R.ld1 Tryz.isAgg23 rfl ((show _ = some (Value.slice g.ea g.edges.length g.ec) from hX2.cell 2))) (VL.op (R.lenS Tryz.runUnderlying23 rfl) (VL.op (R.lss rfl rfl) (VL.nil (V.condP rfl (fun c15 => V.skip (V.seq (V.block (V.seq (V.seq (?_)))))) (fun c15 => V.exit (V.seq (V.region (VL.op (R.asB rfl) (VL.nil (V.ret (fret1 (v := .bool _) rfl rfl rfl (⟨?_, e0_0.trans e⟩)))))))))))))))))
 ·have hkn : k < g.edges.length := by omega
  have hkm := (hl.each _ (gmem hkn)).1
  have hxl : IntSl w2 (g.edges.getD k default).a (g.edges.getD k default).l := hE2.at hkn
  refine V.region (VL.op (R.fld' (o := 2) Tryz.runUnderlying25 rfl rfl Tryz.sizeOf23 rfl rfl) (VL.op (R.ld1 Tryz.isAgg23 rfl ((show _ = some (Value.slice g.ea g.edges.length g.ec) from hX2.cell 2))) (VL.op (R.mvI rfl) (VL.op (R.ixS Tryz.runUnderlying23 Tryz.sizeOf22 rfl rfl (by omega) (by omega) (hE2.sl.some (i := k) hkn)) (VL.op (R.ld1 Tryz.isAgg22 rfl (((hE2.sl.row (i := k) hkn).cell (i := 0) rfl))) (VL.op (R.mvI rfl) (VL.callP Tryz.call34 rfl (in_spec (g.edges.getD k default).a (g.edges.getD k default).c (g.edges.getD k default).l v w2 (by omega) hxl) fun w4_6 e4_6 => VL.op (R.not rfl) (VL.nil (V.cond rfl (fun c25 => V.exit (V.region (VL.op (R.mvI rfl) (VL.op (R.add rfl rfl (by omega) (by omega)) (VL.op (R.asI rfl) (VL.nil (⟨k + 1, rfl, ⟨by omega, fun i hi hv => ?_, ?_⟩, by omega⟩))))))) (fun c25 => V.skip (V.seq (V.region (VL.op (R.asB rfl) (VL.nil (V.cut [1, 2, 3, 7, 8] (fun b : Bool => [.slice ta s.length tc, .int .i64 v, .pointer (some ⟨b0_0, 0, none⟩), .int .i64 (k : Nat), .bool b]) (fun b w' => b = othK s (g.edges.getD k default).l v (g.edges.getD k default).l.length ∧ Ext w0_0 w') (V.seq (V.region (VL.op (R.asI rfl) (VL.nil (V.block (?_)))))) (fun rgB2 xB2 wBB2 hBB2 => V.seq (V.region (VL.op (R.mvB rfl) (VL.op (R.not rfl) (VL.nil (V.cond rfl (fun c58 => V.seq (V.region (VL.op (R.asB rfl) (VL.nil (V.ret (fret1 (v := .bool _) rfl rfl rfl (⟨?_, ?_⟩))))))) (fun c58 => V.skip (V.region (VL.op (R.mvI rfl) (VL.op (R.add rfl rfl (by omega) (by omega)) (VL.op (R.asI rfl) (VL.nil (⟨k + 1, rfl, ⟨by omega, fun i hi hv => ?_, ?_⟩, by omega⟩))))))))))))))))))))))))))))
  ·by_cases h : i = k
   ·subst h
    rw [decide_eq_true hv] at c25; cases c25
   ·exact hf i (by omega) hv
  ·exact e.trans e4_6
  ·have e4 := e.trans e4_6
   refine V.loop [1, 2, 3, 7, 8, 9] (fun j : Nat => [.slice ta s.length tc, .int .i64 v, .pointer (some ⟨b0_0, 0, none⟩), .int .i64 (k : Nat), .bool (othK s (g.edges.getD k default).l v j), .int .i64 (j : Nat)]) (fun j w' => j ≤ (g.edges.getD k default).l.length ∧ Ext w0_0 w') (fun j => (g.edges.getD k default).l.length - j) 0 rfl ⟨Nat.zero_le _, e4⟩ ?_
   rintro ρ j w5 ⟨hj, e5⟩
   have hX5 := hB0_0.ext e5
   have hE5 := (hG.ext (e0_0.trans e5)).e
   have hT5 := hT.ext (e0_0.trans e5)
   have hxl5 : IntSl w5 (g.edges.getD k default).a (g.edges.getD k default).l := hE5.at hkn
   refine V.seq (V.seq (V.region (VL.op (R.mvI rfl) (VL.op (R.fld' (o := 2) Tryz.runUnderlying25 rfl rfl Tryz.sizeOf23 rfl rfl) (VL.op (R.ld1 Tryz.isAgg23 rfl ((show _ = some (Value.slice g.ea g.edges.length g.ec) from hX5.cell 2))) (VL.op (R.mvI rfl) (VL.op (R.ixS Tryz.runUnderlying23 Tryz.sizeOf22 rfl rfl (by omega) (by omega) (hE5.sl.some (i := k) hkn)) (VL.op (R.ld1 Tryz.isAgg22 rfl (((hE5.sl.row (i := k) hkn).cell (i := 0) rfl))) (VL.op (R.lenS Tryz.runUnderlying22 rfl) (VL.op (R.lss rfl rfl) (VL.nil (V.condP rfl (fun c33 => V.skip (V.seq (V.block (V.seq (?_))))) (fun c33 => V.exit (?_))))))))))))))
   ·have hjn : j < (g.edges.getD k default).l.length := by omega
    refine V.region (VL.op (R.fld' (o := 2) Tryz.runUnderlying25 rfl rfl Tryz.sizeOf23 rfl rfl) (VL.op (R.ld1 Tryz.isAgg23 rfl ((show _ = some (Value.slice g.ea g.edges.length g.ec) from hX5.cell 2))) (VL.op (R.mvI rfl) (VL.op (R.ixS Tryz.runUnderlying23 Tryz.sizeOf22 rfl rfl (by omega) (by omega) (hE5.sl.some (i := k) hkn)) (VL.op (R.ld1 Tryz.isAgg22 rfl (((hE5.sl.row (i := k) hkn).cell (i := 0) rfl))) (VL.op (R.mvI rfl) (VL.op (R.ixS Tryz.runUnderlying22 Tryz.sizeOf3 rfl rfl (by omega) (by omega) (hxl5.some (i := j) hjn)) (VL.op (R.ld1 Tryz.isAgg3 rfl (((hxl5.row (i := j) hjn).cell (i := 0) rfl))) (VL.op (R.asI rfl) (VL.nil (?_)))))))))))
    obtain ⟨u, hu⟩ : ∃ u, u = (g.edges.getD k default).l.getD j default := ⟨_, rfl⟩
    have hur := hr _ (List.mem_map_of_mem (gmem hkn)) _ (gmem hjn)
    rw [← hu] at hur ⊢
    have hsu := othK_succ (s := s) (v := v) hjn
    rw [← hu] at hsu
    refine V.region (VL.op (R.mvB rfl) (VL.op (R.mvB rfl) (VL.or rfl rfl (fun g10_1 => VL.op (R.mvI rfl) (VL.gT rfl rfl (VL.op (R.mvI rfl) (VL.gT rfl rfl (VL.op (R.neq rfl rfl) (VL.gT rfl rfl (VL.op (R.mvB rfl) (VL.andP rfl rfl (fun g10_5 => VL.op (R.mvS rfl) (VL.gT rfl rfl (VL.op (R.mvI rfl) (VL.gT rfl rfl (VL.op (R.ixS Tryz.runUnderlying22 Tryz.sizeOf3 rfl rfl (by omega) (by omega) (hT5.some (i := u.toNat) (by omega))) (VL.gT rfl rfl (VL.op (R.ld1 Tryz.isAgg3 rfl (((hT5.row (i := u.toNat) (by omega)).cell (i := 0) rfl))) (VL.gT rfl rfl (VL.op (R.eql rfl rfl) (VL.gT rfl rfl (VL.op (R.pickTB rfl rfl) (VL.op (R.pickFB rfl rfl) (VL.op (R.asB rfl) (VL.nil (V.region (VL.op (R.mvI rfl) (VL.op (R.add rfl rfl (by omega) (by omega)) (VL.op (R.asI rfl) (VL.nil (⟨j + 1, ?_, ⟨by omega, e5⟩, by omega⟩)))))))))))))))))))) (fun g10_5 => VL.gF rfl rfl (VL.gF rfl rfl (VL.gF rfl rfl (VL.gF rfl rfl (VL.gT rfl rfl (VL.op (R.pickFB rfl rfl) (VL.op (R.pickFB rfl rfl) (VL.op (R.asB rfl) (VL.nil (V.region (VL.op (R.mvI rfl) (VL.op (R.add rfl rfl (by omega) (by omega)) (VL.op (R.asI rfl) (VL.nil (⟨j + 1, ?_, ⟨by omega, e5⟩, by omega⟩))))))))))))))))))))))) (fun g10_1 => VL.gF rfl rfl (VL.gF rfl rfl (VL.gF rfl rfl (VL.gU rfl rfl (VL.gU rfl rfl (VL.gU rfl rfl (VL.gU rfl rfl (VL.gU rfl rfl (VL.gF rfl rfl (VL.op (R.pickTB rfl rfl) (VL.op (R.asB rfl) (VL.nil (V.region (VL.op (R.mvI rfl) (VL.op (R.add rfl rfl (by omega) (by omega)) (VL.op (R.asI rfl) (VL.nil (⟨j + 1, ?_, ⟨by omega, e5⟩, by omega⟩)))))))))))))))))))))
    ·rw [hsu, g10_1, decide_eq_true g10_5, Bool.false_or, Bool.true_and]; rfl
    ·rw [hsu, g10_1, decide_eq_false g10_5, Bool.false_or, Bool.false_and]; rfl
    ·rw [hsu, g10_1, Bool.true_or]; rfl
   ·have hje : j = (g.edges.getD k default).l.length := by omega
    subst hje
    exact ⟨_, rfl, rfl, e5⟩
  ·refine congrArg Value.bool (Bool.eq_false_iff.2 fun hh => ?_).symm
   have hm := frA_iff.1 hh _ (List.mem_map_of_mem (gmem hkn)) (by simpa using c25)
   obtain ⟨u, hu, h1, h2⟩ := hm
   have h3 : othK s (g.edges.getD k default).l v (g.edges.getD k default).l.length = true := by
    unfold othK
    rw [List.take_length, List.any_eq_true]
    exact ⟨u, hu, by rw [decide_eq_true h1, decide_eq_true h2]; rfl⟩
   rw [← hBB2.1] at h3
   rw [h3] at c58; cases c58
  ·exact e0_0.trans hBB2.2
  ·by_cases h : i = k
   ·subst h
    rw [← hBB2.1]; simpa using c58
   ·exact hf i (by omega) hv
  ·exact hBB2.2
 ·have hkn : k = g.edges.length := by omega
  subst hkn
  refine congrArg Value.bool (frA_iff.2 fun x hx hv => ?_).symm
  obtain ⟨y, hy, rfl⟩ := List.mem_map.1 hx
  obtain ⟨i, hi, rfl⟩ := List.getElem_of_mem hy
  have := hf i hi
  rw [gget hi] at this
  have := this hv
  unfold othK at this
  rw [List.take_length, List.any_eq_true] at this
  obtain ⟨u, hu, h2⟩ := this
  rw [Bool.and_eq_true, decide_eq_true_eq, decide_eq_true_eq] at h2
  exact ⟨u, hu, h2⟩
end Go.Proofs.YtmglkjigmcikdaaGreatDoor

/- Proof: the reference: a step is right. -/
namespace Go.Proofs.YtmglkjigmcikdaaGreatDoor
open Go.Vc
set_option maxRecDepth 100000
set_option maxHeartbeats 16000000
structure RrR (g : GrW) (W : List WyI) (N : Nat) : Prop where
 n : g.n = (N : Int)
 N4 : N ≤ 4000
 E : ∀ e ∈ vals g.edges, ∀ v ∈ e, 0 ≤ v ∧ v < (N : Int)
 El : g.edges.length ≤ 20000
 gl : GLen g
 wr : ∀ y ∈ W, (∀ v ∈ y.p.l, 0 ≤ v ∧ v < (N : Int)) ∧ ∀ v ∈ y.n.l, 0 ≤ v ∧ v < (N : Int)
 Wl : W.length ≤ 400
 wl : ∀ y ∈ W, WLen y
theorem ready_rr {g : GrW} {W : List WyI} (hr : readyG (grV g) (W.map wyV) = true) (hl : GLen g) (hWl : ∀ y ∈ W, WLen y) : RrR g W g.n.toNat := by
 have hr2 := hr
 unfold readyG at hr2
 rw [Bool.and_eq_true, Bool.and_eq_true, decide_eq_true_eq, List.all_eq_true, List.length_map] at hr2
 obtain ⟨⟨hv, hWm⟩, hall⟩ := hr2
 have hn := costB_iff.1 (validG_iff.1 hv).1
 have hn0 : 0 ≤ g.n := hn.1
 have hn4 : g.n ≤ 4000 := hn.2.1
 have hE := (validG_iff.1 hv).2.2.1
 have hE20 : g.edges.length ≤ 20000 := by have := (validG_iff.1 hv).2.1; simpa [grV, vals] using this
 refine ⟨by omega, by omega, fun e he v hv => ?_, hE20, hl, fun y hy => ?_, hWm, hWl⟩
 ·have h1 := (hE e he).2.2 v hv
  have h2 : (grV g).n = g.n := rfl
  omega
 ·have := wy_rng (hall _ (List.mem_map_of_mem hy))
  rw [show (grV g).n = g.n from rfl, show g.n = ((g.n.toNat : Nat) : Int) by omega] at this
  exact this
theorem vf30 {p : Prop} [Decidable p] (h : (!decide p) = true) : ¬ p := fun hp => by rw [decide_eq_true hp] at h; cases h
theorem vt30 {p : Prop} [Decidable p] (h : (!decide p) = false) : p := by simpa using h
structure RrK (w0 : World) (nb L : Nat) (r : Option (List Bool)) (w : World) (sn : List Bool) (w' : World) : Prop where
 r : ∀ x, r = some x → sn = x
 l : sn.length = L
 o : OwnT encBo 1 4 w0.heap.size w' (some ⟨nb, 0, none⟩) L sn
 m : Vc.Mod (Vc.one nb) w w'
theorem RrK.weaken {w0 : World} {nb L : Nat} {r : Option (List Bool)} {w1 w : World} {sn : List Bool} {w' : World} (h : RrK w0 nb L r w sn w') (m : Vc.Mod (Vc.one nb) w1 w) : RrK w0 nb L r w1 sn w' := ⟨h.r, h.l, h.o, m.then h.m fun _ _ h => h⟩
theorem rright30_spec (g : GrW) (wa : Option Addr) (wc : Nat) (W : List WyI) (h : Bool) (sa : Option Addr) (sc : Nat) (S : List St4) (N : Nat) (hR : RrR g W N) (_hSl : S.length ≤ 100000) (w0 : World) (hG0 : GOk w0 g) (hW0 : WL w0 wa W) (hS0 : TSl encS4 4 w0 sa S) :
  ∀ (f q : Nat) (s : List Int) (ta : Option Addr) (tc : Nat) (sn : List Bool) (nb : Nat) (w : World), S.length ≤ q + f → q < S.length → Ext w0 w → IntSl w ta s → (ta = none → tc = 0) → (∀ x, aBlk ta x → x ≠ nb) → s.length = N → OwnT encBo 1 4 w0.heap.size w (some ⟨nb, 0, none⟩) S.length sn → sn.length = S.length →
   RetsY Tryz.prog 38 #[.agg (encGr g).toArray, .slice wa W.length wc, .bool h, .agg #[.slice sa S.length sc], .int .i64 (q : Nat), .slice ta N tc, .slice (some ⟨nb, 0, none⟩) S.length S.length] w (fun _ : List Bool => .bool (rightO ⟨g.n, vals g.edges, W.map wyV, h, S⟩ f q s sn).isSome) (RrK w0 nb S.length (rightO ⟨g.n, vals g.edges, W.map wyV, h, S⟩ f q s sn) w) := by
 intro f
 induction f with
 | zero => intro q s ta tc sn nb w h1 h2; omega
 | succ f ih =>
  intro q s ta tc sn nb w hf hq e0 hT hax hne hs ho hsn
  have hn := hR.n
  have hN4 := hR.N4
  have hW400 := hR.Wl
  have hnl : nb < w.heap.size := ho.lt nb ⟨_, rfl, rfl⟩
  refine enter (args := [_, _, _, _, _, _, _]) Tryz.func38 rfl Tryz.ntmps38 (by kernel_rfl) rfl ?_
  refine V.seq (V.region (VL.box (v := .agg _) rfl fun b0_0 w0_0 hb0_0 e0_0 hB0_0 => VL.box (v := .agg _) rfl fun b0_1 w0_1 hb0_1 e0_1 hB0_1 => VL.op (R.asB rfl) (VL.nil (V.seq (V.seq (V.region (VL.op (R.mvS rfl) (VL.op (R.mvI rfl) (VL.op (R.ixS Tryz.runUnderlying67 Tryz.sizeOf4 rfl rfl (by omega) (by omega) (ho.sl.some (i := q) (by omega))) (VL.op (R.ld1 Tryz.isAgg4 rfl ((((ho.sl.ext (e0_0.trans e0_1)).row (i := q) (by omega)).cell (i := 0) rfl))) (VL.nil (V.cond rfl (fun c23 => V.seq (V.region (VL.op (R.asB rfl) (VL.nil (V.ret (fret1 (v := .bool _) rfl rfl rfl (?_))))))) (fun c23 => V.skip (V.seq (?_)))))))))))))))
  ·have hn : rightO ⟨g.n, vals g.edges, W.map wyV, h, S⟩ (f + 1) q s sn = none := by unfold rightO; rw [if_pos (by assumption)]
   rw [hn]
   exact ⟨sn, rfl, (fun s2 h => nomatch h), hsn, ho.ext (e0_0.trans e0_1), (e0_0.trans e0_1).weaken fun _ _ h => h.elim⟩
  have ho1 := ho.ext (e0_0.trans e0_1)
  have hsnq : sn.getD q default = false := by simpa using c23
  refine V.region (VL.op (R.mvS rfl) (VL.op (R.mvI rfl) (VL.op (R.ixS Tryz.runUnderlying67 Tryz.sizeOf4 rfl rfl (by omega) (by omega) (ho1.sl.some (i := q) (by omega))) (VL.ownSt eltBo (v := .bool _) Tryz.sizeOf4 (ho1) q 0 true rfl rfl (by omega) rfl rfl rfl rfl rfl fun w5 ho5 m5 hs5 => VL.nil (V.seq (?_))))))
  obtain ⟨y, hy⟩ : ∃ y, y = S.getD q default := ⟨_, rfl⟩
  have E0 : Ext w w0_1 := e0_0.trans e0_1
  have hM5 : Vc.Mod (Vc.one nb) w w5 := (E0.weaken fun _ _ h => h.elim).then m5 fun _ _ h => aBlk_some h
  have hnB := ho.ge nb ⟨_, rfl, rfl⟩
  have e5 : Ext w0 w5 := e0.ownA hM5 fun x hx => by have h2 : x = nb := hx; omega
  have hT5 : IntSl w5 ta s := hT.mod hM5 fun x h1 h2 => hne x.block ⟨x, h1, rfl⟩ h2
  have X0 := hB0_0.ext e0_1
  have X0 := X0.mod m5 fun h => by have := aBlk_some h; omega
  have X1 := hB0_1.mod m5 fun h => by have := aBlk_some h; have := e0_0.size; omega
  have hS5 := hS0.ext e5
  refine V.region (VL.op (R.fld' (o := 0) Tryz.runUnderlying29 rfl rfl Tryz.sizeOf27 rfl rfl) (VL.op (R.ld1 Tryz.isAgg27 rfl ((show _ = some (Value.slice sa S.length sc) from X1.cell 0))) (VL.op (R.mvI rfl) (VL.op (R.ixS Tryz.runUnderlying27 Tryz.sizeOf51 rfl rfl (by omega) (by omega) (hS5.some (i := q) hq)) (VL.op (R.ldA Tryz.isAgg51 Tryz.sizeOf51 rfl rfl ((show RowAt _ _ _ (encS4 (S.getD q default)) from (hS5.row (i := q) hq))) rfl) (VL.allocSt (v := .agg (encS4 (S.getD q default)).toArray) Tryz.zeroValue51 Tryz.sizeOf51 rfl rfl rfl rfl rfl fun b4_5 w4_5 hb4_5 e4_5 hB4_5 => VL.nil (V.seq (V.seq (?_)))))))))
  have hb : StB w4_5 b4_5 y := by rw [hy]; exact hB4_5
  clear hB4_5
  have hbl : b4_5 = w5.heap.size := hb4_5
  have X0 := X0.ext e4_5
  have X1 := X1.ext e4_5
  have hM6 : Vc.Mod (Vc.one nb) w w4_5 := hM5.then e4_5 fun _ _ h => h.elim
  have e6 : Ext w0 w4_5 := e5.trans e4_5
  have ho6 := ho5.ext e4_5
  have hT6 := hT5.ext e4_5
  have hsn6 : (sn.set q true).length = S.length := by rw [List.length_set]; exact hsn
  have hK : ∀ {w' : World}, Ext w4_5 w' → ∀ r : Option (List Bool), (∀ x, r = some x → sn.set q true = x) → RrK w0 nb S.length r w (sn.set q true) w' := fun e r hr => ⟨hr, hsn6, ho6.ext e, hM6.then e fun _ _ h => h.elim⟩
  have hro : rightO ⟨g.n, vals g.edges, W.map wyV, h, S⟩ (f + 1) q s sn = if y.k = 1 then (if brA ⟨g.n, vals g.edges, W.map wyV, h, S⟩ s q y = true then (rightO ⟨g.n, vals g.edges, W.map wyV, h, S⟩ f y.i.toNat (s.set y.a.toNat 1) (sn.set q true)).bind fun sn2 => rightO ⟨g.n, vals g.edges, W.map wyV, h, S⟩ f y.o.toNat (s.set y.a.toNat 2) sn2 else none) else if y.i = 0 ∧ y.o = 0 ∧ leafA ⟨g.n, vals g.edges, W.map wyV, h, S⟩ s y = true then some (sn.set q true) else none := by
   rw [hy]
   show rightO _ _ _ _ _ = _
   rw [rightO, hsnq, if_neg Bool.false_ne_true]
  rw [hro]
  clear hro hy
  obtain ⟨yk, ya, yi, yo⟩ := y
  dsimp only
  obtain ⟨C, hC⟩ : ∃ C : PrfC, C = ⟨g.n, vals g.edges, W.map wyV, h, S⟩ := ⟨_, rfl⟩
  rw [← hC] at ih ⊢
  obtain ⟨Zr, hRq⟩ : ∃ Zr, Zr = (if yk = 1 then (if brA C s q ⟨yk, ya, yi, yo⟩ = true then (rightO C f yi.toNat (s.set ya.toNat 1) (sn.set q true)).bind fun sn2 => rightO C f yo.toNat (s.set ya.toNat 2) sn2 else none) else if yi = 0 ∧ yo = 0 ∧ leafA C s ⟨yk, ya, yi, yo⟩ = true then some (sn.set q true) else none) := ⟨_, rfl⟩
  rw [← hRq]
  have hleaf : ∀ (X : Bool) {w' : World}, Zr = (if X = true then some (sn.set q true) else none) → Ext w4_5 w' → ∃ i : List Bool, Value.bool X = Value.bool Zr.isSome ∧ RrK w0 nb S.length Zr w i w' := fun X w' hX e => by
   refine ⟨sn.set q true, ?_, hK e Zr fun x hx => ?_⟩
   ·rw [hX]; cases X <;> rfl
   ·rw [hX] at hx
    cases X with
    | true => injection hx
    | false => cases hx
  have hck : ∀ {w' : World}, Ext w4_5 w' → w'.cell? ⟨b4_5, 0, none⟩ = some (Value.int .i64 yk) := fun e => (hb.ext e).cell 0
  have hca : ∀ {w' : World}, Ext w4_5 w' → w'.cell? ⟨b4_5, 1, none⟩ = some (Value.int .i64 ya) := fun e => (hb.ext e).cell 1
  have hci : ∀ {w' : World}, Ext w4_5 w' → w'.cell? ⟨b4_5, 2, none⟩ = some (Value.int .i64 yi) := fun e => (hb.ext e).cell 2
  have hco : ∀ {w' : World}, Ext w4_5 w' → w'.cell? ⟨b4_5, 3, none⟩ = some (Value.int .i64 yo) := fun e => (hb.ext e).cell 3
  have hcn : ∀ {w' : World}, Ext w4_5 w' → w'.cell? ⟨b0_0, 0, none⟩ = some (Value.int .i64 ((N : Nat) : Int)) := fun e => by rw [← hn]; exact (X0.ext e).cell 0
  have hce : ∀ {w' : World}, Ext w4_5 w' → w'.cell? ⟨b0_0, 2, none⟩ = some (Value.slice g.ea g.edges.length g.ec) := fun e => (X0.ext e).cell 2
  have hcs : ∀ {w' : World}, Ext w4_5 w' → w'.cell? ⟨b0_1, 0, none⟩ = some (Value.slice sa S.length sc) := fun e => (X1.ext e).cell 0
  refine V.regionCut [32, 33, 34, 35, 36, 37, 38, 39, 40, 41, 42, 43, 44] 44 (.bool (decide (yk ≠ 1 ∧ ¬ (yi = 0 ∧ yo = 0)))) (fun w' => Ext _ w') rfl (VL.op (R.fld' (o := 0) Tryz.runUnderlying51 rfl rfl Tryz.sizeOf3 rfl rfl) (VL.op (R.ld1 Tryz.isAgg3 rfl ((hck (Vc.Mod.refl _ _)))) (VL.op (R.neq rfl rfl) (VL.op (R.mvB rfl) (VL.andP rfl rfl (fun g5_3 => VL.op (R.fld' (o := 2) Tryz.runUnderlying51 rfl rfl Tryz.sizeOf3 rfl rfl) (VL.gT rfl rfl (VL.op (R.ld1 Tryz.isAgg3 rfl ((hci (Vc.Mod.refl _ _)))) (VL.gT rfl rfl (VL.op (R.neq rfl rfl) (VL.gT rfl rfl (VL.op (R.mvB rfl) (VL.orP rfl rfl (fun g5_7 => VL.op (R.fld' (o := 3) Tryz.runUnderlying51 rfl rfl Tryz.sizeOf3 rfl rfl) (VL.gT rfl rfl (VL.op (R.ld1 Tryz.isAgg3 rfl ((hco (Vc.Mod.refl _ _)))) (VL.gT rfl rfl (VL.op (R.neq rfl rfl) (VL.gT rfl rfl (VL.op (R.pickFB rfl rfl) (VL.op (R.pickTB rfl rfl) (VL.nil ⟨rfl, cutB rfl ?_, Mod.refl _ _⟩))))))))) (fun g5_7 => VL.gF rfl rfl (VL.gF rfl rfl (VL.gT rfl rfl (VL.op (R.pickTB rfl rfl) (VL.op (R.pickTB rfl rfl) (VL.nil ⟨rfl, cutB rfl ?_, Mod.refl _ _⟩)))))))))))))) (fun g5_3 => VL.gF rfl rfl (VL.gF rfl rfl (VL.gF rfl rfl (VL.gU rfl rfl (VL.gU rfl rfl (VL.gU rfl rfl (VL.gF rfl rfl (VL.op (R.pickFB rfl rfl) (VL.nil ⟨rfl, cutB rfl ?_, Mod.refl _ _⟩)))))))))))))) (fun rg5 w5c e5c => V.condP rfl (fun c44 => V.seq (V.region (VL.op (R.asB rfl) (VL.nil (V.ret (fret1 (v := .bool _) rfl rfl rfl (?_))))))) (fun c44 => V.skip (V.seq (?_))))
  ·exact decide_eq_decide.2 (by omega)
  ·exact (decide_eq_true (by omega)).symm
  ·exact (decide_eq_false (by omega)).symm
  ·exact hleaf false (by rw [hRq, if_neg c44.1, if_neg fun h => c44.2 ⟨h.1, h.2.1⟩]; rfl) e5c
  have hRl : yk ≠ 1 → Zr = if leafA C s ⟨yk, ya, yi, yo⟩ = true then some (sn.set q true) else none := fun hk => by
   have h1 : yi = 0 := by omega
   have h2 : yo = 0 := by omega
   rw [hRq, if_neg hk]
   by_cases h3 : leafA C s ⟨yk, ya, yi, yo⟩ = true
   ·rw [if_pos ⟨h1, h2, h3⟩, if_pos h3]
   ·rw [if_neg fun h => h3 h.2.2, if_neg h3]
  refine V.regionCut [16, 45, 46, 47, 48, 49, 50, 51, 52, 53, 54] 16 (.bool (decide (0 ≤ ya ∧ ya < (N : Int)))) (fun w' => Ext _ w') rfl (VL.op (R.fld' (o := 1) Tryz.runUnderlying51 rfl rfl Tryz.sizeOf3 rfl rfl) (VL.op (R.ld1 Tryz.isAgg3 rfl ((hca e5c))) (VL.op (R.geq rfl rfl) (VL.op (R.mvB rfl) (VL.andP rfl rfl (fun g7_3 => VL.op (R.fld' (o := 1) Tryz.runUnderlying51 rfl rfl Tryz.sizeOf3 rfl rfl) (VL.gT rfl rfl (VL.op (R.ld1 Tryz.isAgg3 rfl ((hca e5c))) (VL.gT rfl rfl (VL.op (R.fld' (o := 0) Tryz.runUnderlying25 rfl rfl Tryz.sizeOf3 rfl rfl) (VL.gT rfl rfl (VL.op (R.ld1 Tryz.isAgg3 rfl ((hcn e5c))) (VL.gT rfl rfl (VL.op (R.lss rfl rfl) (VL.op (R.pickTB rfl rfl) (VL.op (R.asB rfl) (VL.nil ⟨rfl, cutB rfl ?_, Mod.refl _ _⟩)))))))))))) (fun g7_3 => VL.gF rfl rfl (VL.gF rfl rfl (VL.gF rfl rfl (VL.gF rfl rfl (VL.op (R.pickFB rfl rfl) (VL.op (R.asB rfl) (VL.nil ⟨rfl, cutB rfl ?_, Mod.refl _ _⟩)))))))))))) (fun rg7 w7c e7c => V.seq (V.seq (?_)))
  ·exact decide_eq_decide.2 (by omega)
  ·exact (decide_eq_false (by omega)).symm
  have E7 : Ext w4_5 w7c := e5c.trans e7c
  have hT7 : ∀ {w' : World}, Ext w7c w' → IntSl w' ta s := fun e => hT6.ext (E7.trans e)
  have hW7 : ∀ {w' : World}, Ext w7c w' → WL w' wa W := fun e => hW0.ext (e6.trans (E7.trans e))
  have hG7 := hG0.ext (e6.trans E7)
  have hE7 := hG7.e
  have hall : ∀ {w' : World}, Ext w7c w' → ∀ (a : Option Addr) (c : Nat) (l : List Int) (x : Int), IntSl w' a l → (∀ v ∈ l, 0 ≤ v ∧ v < (N : Int)) → l.length ≤ 1000000 → RetsP Tryz.prog 63 #[.slice ta N tc, .slice a l.length c, .int .i64 x] w' (.bool (areA s l x)) := fun e a c l x h1 h2 h3 => by
   have := rall30_spec ta tc s a c l x _ (hT7 e) h1 (by rw [hs]; exact h2) (by omega) h3
   rw [hs] at this; exact this
  have hsm : ∀ {w' : World}, Ext w7c w' → ∀ (a : Option Addr) (c : Nat) (l : List Int) (x : Int), IntSl w' a l → (∀ v ∈ l, 0 ≤ v ∧ v < (N : Int)) → l.length ≤ 1000000 → RetsP Tryz.prog 65 #[.slice ta N tc, .slice a l.length c, .int .i64 x] w' (.bool (somA s l x)) := fun e a c l x h1 h2 h3 => by
   have := rsm30_spec ta tc s a c l x _ (hT7 e) h1 (by rw [hs]; exact h2) (by omega) h3
   rw [hs] at this; exact this
  have hfr : ∀ {w' : World}, Ext w7c w' → ∀ (v : Int), RetsP Tryz.prog 64 #[.agg (encGr g).toArray, .slice ta N tc, .int .i64 v] w' (.bool (frA (vals g.edges) s v)) := fun e v => by
   have := rfree30_spec g ta tc s v _ (hG7.ext e) hR.gl (hT7 e) (by rw [hs]; exact hR.E) (by omega)
   rw [hs] at this; exact this
  have hrG : ∀ {w' : World}, Ext w4_5 w' → RowAt w' b0_0 0 (encGr g) := fun e => (X0.ext e).rowAt 0 3
  refine V.region (VL.op (R.fld' (o := 0) Tryz.runUnderlying51 rfl rfl Tryz.sizeOf3 rfl rfl) (VL.op (R.ld1 Tryz.isAgg3 rfl ((hck E7))) (VL.nil (V.block (V.seq (V.region (VL.op (R.eql rfl rfl) (VL.op (R.asB rfl) (VL.nil (V.condP rfl (fun c57 => V.seq (V.seq (?_))) (fun c57 => V.seq (V.region (VL.op (R.eql rfl rfl) (VL.op (R.asB rfl) (VL.nil (V.condP rfl (fun c131 => V.seq (?_)) (fun c131 => V.seq (V.region (VL.op (R.eql rfl rfl) (VL.op (R.asB rfl) (VL.nil (V.condP rfl (fun c154 => V.seq (?_)) (fun c154 => V.seq (V.region (VL.op (R.eql rfl rfl) (VL.op (R.asB rfl) (VL.nil (V.condP rfl (fun c172 => V.seq (?_)) (fun c172 => V.seq (V.region (VL.op (R.eql rfl rfl) (VL.op (R.asB rfl) (VL.nil (V.condP rfl (fun c208 => V.seq (V.seq (?_))) (fun c208 => V.skip (V.seq (V.region (VL.op (R.asB rfl) (VL.nil (V.ret (fret1 (v := .bool _) rfl rfl rfl (?_))))))))))))))))))))))))))))))))))))))))))
  ·have hbr : brA C s q ⟨yk, ya, yi, yo⟩ = decide (0 ≤ ya ∧ ya < (N : Int) ∧ s.getD ya.toNat default = 0 ∧ (q : Int) < yi ∧ (q : Int) < yo ∧ yi < (S.length : Int) ∧ yo < (S.length : Int)) := by rw [← hn, hC]; rfl
   refine V.regionCut [59, 60, 61, 62, 63, 64, 65, 66, 67, 68, 69, 70, 71, 72, 73, 74, 75, 76, 77, 78, 79, 80, 81, 82, 83, 84, 85, 86, 87, 88, 89, 90, 91, 92, 93, 94, 95, 96] 96 (.bool (!brA C s q ⟨yk, ya, yi, yo⟩)) (fun w' => Ext _ w') rfl (VL.op (R.mvB rfl) (VL.op (R.not rfl) (VL.op (R.mvB rfl) (VL.or rfl rfl (fun g10_2 => VL.op (R.mvS rfl) (VL.gT rfl rfl (VL.op (R.fld' (o := 1) Tryz.runUnderlying51 rfl rfl Tryz.sizeOf3 rfl rfl) (VL.gT rfl rfl (VL.op (R.ld1 Tryz.isAgg3 rfl ((hca E7))) (VL.gT rfl rfl (VL.op (R.ixS Tryz.runUnderlying22 Tryz.sizeOf3 rfl rfl (by have := vt30 g10_2; omega) (by have := vt30 g10_2; omega) ((hT7 (Vc.Mod.refl _ _)).some (i := ya.toNat) (by have := vt30 g10_2; omega))) (VL.gT rfl rfl (VL.op (R.ld1 Tryz.isAgg3 rfl ((((hT7 (Vc.Mod.refl _ _)).row (i := ya.toNat) (by have := vt30 g10_2; omega)).cell (i := 0) rfl))) (VL.gT rfl rfl (VL.op (R.neq rfl rfl) (VL.op (R.pickFB rfl rfl) (VL.op (R.mvB rfl) (VL.orP rfl rfl (fun g10_10 => VL.op (R.fld' (o := 2) Tryz.runUnderlying51 rfl rfl Tryz.sizeOf3 rfl rfl) (VL.gT rfl rfl (VL.op (R.ld1 Tryz.isAgg3 rfl ((hci E7))) (VL.gT rfl rfl (VL.op (R.mvI rfl) (VL.gT rfl rfl (VL.op (R.leq rfl rfl) (VL.op (R.pickFB rfl rfl) (VL.op (R.mvB rfl) (VL.orP rfl rfl (fun g10_16 => VL.op (R.fld' (o := 3) Tryz.runUnderlying51 rfl rfl Tryz.sizeOf3 rfl rfl) (VL.gT rfl rfl (VL.op (R.ld1 Tryz.isAgg3 rfl ((hco E7))) (VL.gT rfl rfl (VL.op (R.mvI rfl) (VL.gT rfl rfl (VL.op (R.leq rfl rfl) (VL.op (R.pickFB rfl rfl) (VL.op (R.mvB rfl) (VL.orP rfl rfl (fun g10_22 => VL.op (R.fld' (o := 2) Tryz.runUnderlying51 rfl rfl Tryz.sizeOf3 rfl rfl) (VL.gT rfl rfl (VL.op (R.ld1 Tryz.isAgg3 rfl ((hci E7))) (VL.gT rfl rfl (VL.op (R.fld' (o := 0) Tryz.runUnderlying29 rfl rfl Tryz.sizeOf27 rfl rfl) (VL.gT rfl rfl (VL.op (R.ld1 Tryz.isAgg27 rfl ((hcs E7))) (VL.gT rfl rfl (VL.op (R.lenS Tryz.runUnderlying27 rfl) (VL.gT rfl rfl (VL.op (R.geq rfl rfl) (VL.op (R.pickFB rfl rfl) (VL.op (R.mvB rfl) (VL.orP rfl rfl (fun g10_30 => VL.op (R.fld' (o := 3) Tryz.runUnderlying51 rfl rfl Tryz.sizeOf3 rfl rfl) (VL.gT rfl rfl (VL.op (R.ld1 Tryz.isAgg3 rfl ((hco E7))) (VL.gT rfl rfl (VL.op (R.fld' (o := 0) Tryz.runUnderlying29 rfl rfl Tryz.sizeOf27 rfl rfl) (VL.gT rfl rfl (VL.op (R.ld1 Tryz.isAgg27 rfl ((hcs E7))) (VL.gT rfl rfl (VL.op (R.lenS Tryz.runUnderlying27 rfl) (VL.gT rfl rfl (VL.op (R.geq rfl rfl) (VL.op (R.pickFB rfl rfl) (VL.nil ⟨rfl, cutB rfl ?_, Mod.refl _ _⟩))))))))))))) (fun g10_30 => VL.gF rfl rfl (VL.gF rfl rfl (VL.gF rfl rfl (VL.gF rfl rfl (VL.gF rfl rfl (VL.op (R.pickTB rfl rfl) (VL.nil ⟨rfl, cutB rfl ?_, Mod.refl _ _⟩))))))))))))))))))))) (fun g10_22 => VL.gF rfl rfl (VL.gF rfl rfl (VL.gF rfl rfl (VL.gF rfl rfl (VL.gF rfl rfl (VL.op (R.pickTB rfl rfl) (VL.op (R.mvB rfl) (VL.gF rfl rfl (VL.gF rfl rfl (VL.gF rfl rfl (VL.gF rfl rfl (VL.gF rfl rfl (VL.gF rfl rfl (VL.op (R.pickTB rfl rfl) (VL.nil ⟨rfl, cutB rfl ?_, Mod.refl _ _⟩))))))))))))))))))))))))) (fun g10_16 => VL.gF rfl rfl (VL.gF rfl rfl (VL.gF rfl rfl (VL.op (R.pickTB rfl rfl) (VL.op (R.mvB rfl) (VL.gF rfl rfl (VL.gF rfl rfl (VL.gF rfl rfl (VL.gF rfl rfl (VL.gF rfl rfl (VL.gF rfl rfl (VL.op (R.pickTB rfl rfl) (VL.op (R.mvB rfl) (VL.gF rfl rfl (VL.gF rfl rfl (VL.gF rfl rfl (VL.gF rfl rfl (VL.gF rfl rfl (VL.gF rfl rfl (VL.op (R.pickTB rfl rfl) (VL.nil ⟨rfl, cutB rfl ?_, Mod.refl _ _⟩))))))))))))))))))))))))))))))) (fun g10_10 => VL.gF rfl rfl (VL.gF rfl rfl (VL.gF rfl rfl (VL.op (R.pickTB rfl rfl) (VL.op (R.mvB rfl) (VL.gF rfl rfl (VL.gF rfl rfl (VL.gF rfl rfl (VL.gF rfl rfl (VL.op (R.pickTB rfl rfl) (VL.op (R.mvB rfl) (VL.gF rfl rfl (VL.gF rfl rfl (VL.gF rfl rfl (VL.gF rfl rfl (VL.gF rfl rfl (VL.gF rfl rfl (VL.op (R.pickTB rfl rfl) (VL.op (R.mvB rfl) (VL.gF rfl rfl (VL.gF rfl rfl (VL.gF rfl rfl (VL.gF rfl rfl (VL.gF rfl rfl (VL.gF rfl rfl (VL.op (R.pickTB rfl rfl) (VL.nil ⟨rfl, cutB rfl ?_, Mod.refl _ _⟩))))))))))))))))))))))))))))))))))))))))) (fun g10_2 => VL.gF rfl rfl (VL.gF rfl rfl (VL.gF rfl rfl (VL.gF rfl rfl (VL.gF rfl rfl (VL.op (R.pickTB rfl rfl) (VL.op (R.mvB rfl) (VL.gF rfl rfl (VL.gF rfl rfl (VL.gF rfl rfl (VL.gF rfl rfl (VL.op (R.pickTB rfl rfl) (VL.op (R.mvB rfl) (VL.gF rfl rfl (VL.gF rfl rfl (VL.gF rfl rfl (VL.gF rfl rfl (VL.op (R.pickTB rfl rfl) (VL.op (R.mvB rfl) (VL.gF rfl rfl (VL.gF rfl rfl (VL.gF rfl rfl (VL.gF rfl rfl (VL.gF rfl rfl (VL.gF rfl rfl (VL.op (R.pickTB rfl rfl) (VL.op (R.mvB rfl) (VL.gF rfl rfl (VL.gF rfl rfl (VL.gF rfl rfl (VL.gF rfl rfl (VL.gF rfl rfl (VL.gF rfl rfl (VL.op (R.pickTB rfl rfl) (VL.nil ⟨rfl, cutB rfl ?_, Mod.refl _ _⟩))))))))))))))))))))))))))))))))))))))) (fun rg10 w10c e10c => V.cond rfl (fun c96 => V.seq (V.region (VL.op (R.asB rfl) (VL.nil (V.ret (fret1 (v := .bool _) rfl rfl rfl (?_))))))) (fun c96 => V.skip (V.seq (?_))))
   ·have := vt30 g10_2; rw [hbr, ← decide_not]; exact decide_eq_decide.2 (by omega)
   ·rw [hbr, decide_eq_false (by omega)]; rfl
   ·rw [hbr, decide_eq_false (by omega)]; rfl
   ·rw [hbr, decide_eq_false (by omega)]; rfl
   ·rw [hbr, decide_eq_false (by omega)]; rfl
   ·have h1 := vf30 g10_2
    rw [hbr, decide_eq_false (by omega)]; rfl
   ·have hb0 : brA C s q ⟨yk, ya, yi, yo⟩ = false := by simpa using c96
    refine hleaf false ?_ (E7.trans e10c)
    rw [hRq, if_pos c57, hb0, if_neg Bool.false_ne_true, if_neg Bool.false_ne_true]
   have hb0 : brA C s q ⟨yk, ya, yi, yo⟩ = true := by simpa using c96
   rw [hb0, if_pos c57, if_pos rfl] at hRq
   rw [hbr, decide_eq_true_eq] at hb0
   obtain ⟨b1, b2, b3, b4, b5, b6, b7⟩ := hb0
   obtain ⟨ki, rfl⟩ : ∃ k : Nat, yi = (k : Int) := ⟨yi.toNat, by omega⟩
   obtain ⟨ko, rfl⟩ : ∃ k : Nat, yo = (k : Int) := ⟨yo.toNat, by omega⟩
   rw [Int.toNat_natCast, Int.toNat_natCast] at hRq
   have E10 : Ext w4_5 w10c := E7.trans e10c
   have hT10 : ∀ {w' : World}, Ext w10c w' → IntSl w' ta s := fun e => hT6.ext (E10.trans e)
   refine V.region (VL.buildSl Tryz.runUnderlying22 Tryz.sizeOf3 Tryz.zeroValue3 rfl rfl rfl fun b1 v1 hb1 f1 hC1 => VL.op (R.mvS rfl) (VL.appendT el22 (fun _ => rfl) rfl (rfl) ((OwnT.of0 Vc.encI 1 hC1 (Nat.le_of_eq hb1.symm))) rfl ( hs.symm) ((hT10 f1)) (hax) (by simp; omega) (by simp [maxLen]; omega) f1.size (show 0 + N = N by omega) fun a2 c2 v2 ho2 m2 hf2 => VL.op (R.asS rfl) (VL.nil (V.seq (?_)))))
   rw [List.nil_append] at ho2
   have E12 : Ext w10c v2 := f1.ownA m2 fun x hx => by have := aBlk_some hx; omega
   have hv1 := f1.size
   refine V.region (VL.buildSl Tryz.runUnderlying22 Tryz.sizeOf3 Tryz.zeroValue3 rfl rfl rfl fun b3 v3 hb3 f3 hC3 => VL.op (R.mvS rfl) (VL.appendT el22 (fun _ => rfl) rfl (rfl) ((OwnT.of0 Vc.encI 1 hC3 (Nat.le_of_eq hb3.symm))) rfl ( hs.symm) ((hT10 (E12.trans f3))) (hax) (by simp; omega) (by simp [maxLen]; omega) f3.size (show 0 + N = N by omega) fun a4 c4 v4 ho4 m4 hf4 => VL.op (R.asS rfl) (VL.nil (V.seq (?_)))))
   rw [List.nil_append] at ho4
   have E13 : Ext v2 v4 := f3.ownA m4 fun x hx => by have := aBlk_some hx; omega
   have hv3 := f3.size
   have ho2b := ho2.ext E13
   have hlen2 : (s.set ya.toNat 1).length = N := by rw [List.length_set]; exact hs
   refine V.region (VL.op (R.mvS rfl) (VL.op (R.fld' (o := 1) Tryz.runUnderlying51 rfl rfl Tryz.sizeOf3 rfl rfl) (VL.op (R.ld1 Tryz.isAgg3 rfl ((hca (E10.trans (E12.trans E13))))) (VL.op (R.ixS Tryz.runUnderlying22 Tryz.sizeOf3 rfl rfl (by omega) (by omega) (ho2b.sl.some (i := ya.toNat) (by omega))) (VL.ownSt eltI (v := .int _ _) Tryz.sizeOf3 (ho2b) ya.toNat 0 1 rfl rfl (by omega) rfl rfl rfl rfl rfl fun v5 hoI mI hsI => VL.nil (V.seq (?_)))))))
   have ho4b := ho4.mod mI fun k h1 h2 => by have := ho4.ge k h1; have := ho2.lt k h2; omega
   refine V.region (VL.op (R.mvS rfl) (VL.op (R.fld' (o := 1) Tryz.runUnderlying51 rfl rfl Tryz.sizeOf3 rfl rfl) (VL.op (R.ld1 Tryz.isAgg3 rfl (((hb.ext (E10.trans ((E12.trans E13).ownA mI fun x hx => ho2.ge x hx))).cell 1))) (VL.op (R.ixS Tryz.runUnderlying22 Tryz.sizeOf3 rfl rfl (by omega) (by omega) (ho4b.sl.some (i := ya.toNat) (by omega))) (VL.ownSt eltI (v := .int _ _) Tryz.sizeOf3 (ho4b) ya.toNat 0 2 rfl rfl (by omega) rfl rfl rfl rfl rfl fun v6 hoJ mJ hsJ => VL.nil (V.seq (?_)))))))
   have hoI6 := hoI.mod mJ fun k h1 h2 => by have := ho4.ge k h2; have := ho2.lt k h1; omega
   have EN : Ext w10c v6 := ((E12.trans E13).ownA mI fun x hx => ho2.ge x hx).ownA mJ fun x hx => by have := ho4.ge x hx; have := E12.size; omega
   have EN4 : Ext w4_5 v6 := E10.trans EN
   have hn2 : nb < w4_5.heap.size := by have := hM6.size; omega
   have hnx : nb < w10c.heap.size := by have := E10.size; omega
   have hne0 : b0_0 ≠ nb := by omega
   have hne1 : b0_1 ≠ nb := by have := e0_0.size; omega
   have hneb : b4_5 ≠ nb := by have := hM5.size; omega
   have hneI : ∀ x, aBlk a2 x → x ≠ nb := fun x hx => by have := ho2.ge x hx; omega
   have hneJ : ∀ x, aBlk a4 x → x ≠ nb := fun x hx => by have := ho4.ge x hx; have := E12.size; omega
   refine V.region (VL.op (R.ldA Tryz.isAgg25 Tryz.sizeOf25 rfl rfl ((show RowAt _ _ _ (encGr g) from (X0.ext EN4).rowAt 0 3)) rfl) (VL.op (R.mvS rfl) (VL.op (R.mvB rfl) (VL.op (R.ldA Tryz.isAgg29 Tryz.sizeOf29 rfl rfl ((show RowAt _ _ _ [Value.slice sa S.length sc] from (X1.ext EN4).rowAt 0 1)) rfl) (VL.op (R.fld' (o := 2) Tryz.runUnderlying51 rfl rfl Tryz.sizeOf3 rfl rfl) (VL.op (R.ld1 Tryz.isAgg3 rfl (((hb.ext EN4).cell 2))) (VL.op (R.mvS rfl) (VL.op (R.mvS rfl) (VL.callY Tryz.call38 rfl (ih ki (s.set ya.toNat 1) a2 c2 (sn.set q true) nb v6 (by omega) (by omega) (e6.trans EN4) hoI6.sl hoI6.hax hneI hlen2 (ho6.ext EN4) hsn6) fun sn1 w6 h6 => VL.op (R.mvB rfl) (VL.and rfl rfl (fun g16_9 => VL.op (R.ldA Tryz.isAgg25 Tryz.sizeOf25 rfl rfl ((show RowAt _ _ _ (encGr g) from ((X0.ext EN4).mod h6.m hne0).rowAt 0 3)) rfl) (VL.gT rfl rfl (VL.op (R.mvS rfl) (VL.gT rfl rfl (VL.op (R.mvB rfl) (VL.gT rfl rfl (VL.op (R.ldA Tryz.isAgg29 Tryz.sizeOf29 rfl rfl ((show RowAt _ _ _ [Value.slice sa S.length sc] from ((X1.ext EN4).mod h6.m hne1).rowAt 0 1)) rfl) (VL.gT rfl rfl (VL.op (R.fld' (o := 3) Tryz.runUnderlying51 rfl rfl Tryz.sizeOf3 rfl rfl) (VL.gT rfl rfl (VL.op (R.ld1 Tryz.isAgg3 rfl ((((hb.ext EN4).mod h6.m hneb).cell 3))) (VL.gT rfl rfl (VL.op (R.mvS rfl) (VL.gT rfl rfl (VL.op (R.mvS rfl) (VL.gT rfl rfl (VL.callY Tryz.call38 rfl (ih ko (s.set ya.toNat 2) a4 c4 sn1 nb w6 (by omega) (by omega) ((e6.trans EN4).ownA h6.m fun x hx => by have h2 : x = nb := hx; omega) (hoJ.mod h6.m fun k h1 h2 => hneJ k h1 h2).sl hoJ.hax hneJ (by rw [List.length_set]; exact hs) h6.o h6.l) fun sn2 w7 h7 => VL.op (R.pickTB rfl rfl) (VL.op (R.asB rfl) (VL.nil (V.ret (fret1 (v := .bool _) rfl rfl rfl (?_)))))))))))))))))))))) (fun g16_9 => VL.gF rfl rfl (VL.gF rfl rfl (VL.gF rfl rfl (VL.gF rfl rfl (VL.gF rfl rfl (VL.gF rfl rfl (VL.gF rfl rfl (VL.gF rfl rfl (VL.op (R.pickFB rfl rfl) (VL.op (R.asB rfl) (VL.nil (V.ret (fret1 (v := .bool _) rfl rfl rfl (?_))))))))))))))))))))))))
   ·obtain ⟨s2, h5⟩ := Option.isSome_iff_exists.1 g16_9
    have h8 := h6.r s2 h5
    subst h8
    rw [h5, Option.bind_some] at hRq
    rw [hRq]
    exact ⟨sn2, rfl, h7.weaken ((hM6.then EN4 fun _ _ h => h.elim).then h6.m fun _ _ h => h)⟩
   ·have h5 : rightO C f ki (s.set ya.toNat 1) (sn.set q true) = none := by
     cases h8 : rightO C f ki (s.set ya.toNat 1) (sn.set q true) with
     | none => rfl
     | some s2 => rw [h8] at g16_9; cases g16_9
    rw [h5, Option.bind_none] at hRq
    rw [hRq]
    exact ⟨sn1, rfl, (fun s2 h => nomatch h), h6.l, h6.o, (hM6.then EN4 fun _ _ h => h.elim).then h6.m fun _ _ h => h⟩
  ·have hlA : leafA C s ⟨yk, ya, yi, yo⟩ = (decide (0 ≤ ya ∧ ya < (g.edges.length : Int)) && areA s ((vals g.edges).getD ya.toNat default) 1) := by
    rw [hC]; unfold leafA; rw [if_pos c131, show (vals g.edges).length = g.edges.length from List.length_map _]
   have hZ := hRl c57
   rw [hlA] at hZ
   refine V.region (VL.op (R.fld' (o := 1) Tryz.runUnderlying51 rfl rfl Tryz.sizeOf3 rfl rfl) (VL.op (R.ld1 Tryz.isAgg3 rfl ((hca E7))) (VL.op (R.geq rfl rfl) (VL.op (R.mvB rfl) (VL.andP rfl rfl (fun g18_3 => VL.op (R.fld' (o := 1) Tryz.runUnderlying51 rfl rfl Tryz.sizeOf3 rfl rfl) (VL.gT rfl rfl (VL.op (R.ld1 Tryz.isAgg3 rfl ((hca E7))) (VL.gT rfl rfl (VL.op (R.fld' (o := 2) Tryz.runUnderlying25 rfl rfl Tryz.sizeOf23 rfl rfl) (VL.gT rfl rfl (VL.op (R.ld1 Tryz.isAgg23 rfl ((hce E7))) (VL.gT rfl rfl (VL.op (R.lenS Tryz.runUnderlying23 rfl) (VL.gT rfl rfl (VL.op (R.lss rfl rfl) (VL.op (R.pickTB rfl rfl) (VL.op (R.mvB rfl) (VL.andP rfl rfl (fun g18_11 => VL.op (R.mvS rfl) (VL.gT rfl rfl (VL.op (R.fld' (o := 2) Tryz.runUnderlying25 rfl rfl Tryz.sizeOf23 rfl rfl) (VL.gT rfl rfl (VL.op (R.ld1 Tryz.isAgg23 rfl ((hce E7))) (VL.gT rfl rfl (VL.op (R.fld' (o := 1) Tryz.runUnderlying51 rfl rfl Tryz.sizeOf3 rfl rfl) (VL.gT rfl rfl (VL.op (R.ld1 Tryz.isAgg3 rfl ((hca E7))) (VL.gT rfl rfl (VL.op (R.ixS Tryz.runUnderlying23 Tryz.sizeOf22 rfl rfl (by omega) (by omega) (hE7.sl.some (i := ya.toNat) (by omega))) (VL.gT rfl rfl (VL.op (R.ld1 Tryz.isAgg22 rfl (((hE7.sl.row (i := ya.toNat) (by omega)).cell (i := 0) rfl))) (VL.gT rfl rfl (VL.callP Tryz.call63 rfl (hall (Vc.Mod.refl _ _) (g.edges.getD ya.toNat default).a (g.edges.getD ya.toNat default).c (g.edges.getD ya.toNat default).l 1 (hE7.at (i := ya.toNat) (by omega)) (hR.E _ (List.mem_map_of_mem (gmem (by omega)))) (hR.gl.each _ (gmem (by omega))).1) fun w18_19 e18_19 => VL.op (R.pickTB rfl rfl) (VL.op (R.asB rfl) (VL.nil (V.ret (fret1 (v := .bool _) rfl rfl rfl (?_)))))))))))))))))))) (fun g18_11 => VL.gF rfl rfl (VL.gF rfl rfl (VL.gF rfl rfl (VL.gF rfl rfl (VL.gF rfl rfl (VL.gF rfl rfl (VL.gF rfl rfl (VL.op (R.pickFB rfl rfl) (VL.op (R.asB rfl) (VL.nil (V.ret (fret1 (v := .bool _) rfl rfl rfl (?_))))))))))))))))))))))))))) (fun g18_3 => VL.gF rfl rfl (VL.gF rfl rfl (VL.gF rfl rfl (VL.gF rfl rfl (VL.gF rfl rfl (VL.op (R.pickFB rfl rfl) (VL.op (R.mvB rfl) (VL.gF rfl rfl (VL.gF rfl rfl (VL.gF rfl rfl (VL.gF rfl rfl (VL.gF rfl rfl (VL.gF rfl rfl (VL.gF rfl rfl (VL.gF rfl rfl (VL.op (R.pickFB rfl rfl) (VL.op (R.asB rfl) (VL.nil (V.ret (fret1 (v := .bool _) rfl rfl rfl (?_))))))))))))))))))))))))))
   ·refine hleaf _ ?_ (E7.trans e18_19)
    rw [hZ, decide_eq_true ⟨g18_3, g18_11⟩, Bool.true_and, gmap SlI.l g.edges default (by omega)]
   ·refine hleaf false ?_ E7
    rw [hZ, decide_eq_false (by omega), Bool.false_and]
   ·refine hleaf false ?_ E7
    rw [hZ, decide_eq_false (by omega), Bool.false_and]
  ·have hlA : leafA C s ⟨yk, ya, yi, yo⟩ = (decide (0 ≤ ya ∧ ya < (N : Int) ∧ stA s ya = 2) && frA (vals g.edges) s ya) := by
    rw [hC, ← hn]; unfold leafA; rw [if_neg c131, if_pos c154]
   have hZ := hRl c57
   rw [hlA] at hZ
   refine V.region (VL.op (R.mvB rfl) (VL.op (R.mvB rfl) (VL.and rfl rfl (fun g20_1 => VL.op (R.mvS rfl) (VL.gT rfl rfl (VL.op (R.fld' (o := 1) Tryz.runUnderlying51 rfl rfl Tryz.sizeOf3 rfl rfl) (VL.gT rfl rfl (VL.op (R.ld1 Tryz.isAgg3 rfl ((hca E7))) (VL.gT rfl rfl (VL.op (R.ixS Tryz.runUnderlying22 Tryz.sizeOf3 rfl rfl (by have := of_decide_eq_true g20_1; omega) (by have := of_decide_eq_true g20_1; omega) ((hT7 (Vc.Mod.refl _ _)).some (i := ya.toNat) (by have := of_decide_eq_true g20_1; omega))) (VL.gT rfl rfl (VL.op (R.ld1 Tryz.isAgg3 rfl ((((hT7 (Vc.Mod.refl _ _)).row (i := ya.toNat) (by have := of_decide_eq_true g20_1; omega)).cell (i := 0) rfl))) (VL.gT rfl rfl (VL.op (R.eql rfl rfl) (VL.op (R.pickTB rfl rfl) (VL.op (R.mvB rfl) (VL.andP rfl rfl (fun g20_9 => VL.op (R.ldA Tryz.isAgg25 Tryz.sizeOf25 rfl rfl ((show RowAt _ _ _ (encGr g) from (hrG E7))) rfl) (VL.gT rfl rfl (VL.op (R.mvS rfl) (VL.gT rfl rfl (VL.op (R.fld' (o := 1) Tryz.runUnderlying51 rfl rfl Tryz.sizeOf3 rfl rfl) (VL.gT rfl rfl (VL.op (R.ld1 Tryz.isAgg3 rfl ((hca E7))) (VL.gT rfl rfl (VL.callP Tryz.call64 rfl (hfr (Vc.Mod.refl _ _) ya) fun w20_14 e20_14 => VL.op (R.pickTB rfl rfl) (VL.op (R.asB rfl) (VL.nil (V.ret (fret1 (v := .bool _) rfl rfl rfl (?_)))))))))))))) (fun g20_9 => VL.gF rfl rfl (VL.gF rfl rfl (VL.gF rfl rfl (VL.gF rfl rfl (VL.op (R.pickFB rfl rfl) (VL.op (R.asB rfl) (VL.nil (V.ret (fret1 (v := .bool _) rfl rfl rfl (?_)))))))))))))))))))))))) (fun g20_1 => VL.gF rfl rfl (VL.gF rfl rfl (VL.gF rfl rfl (VL.gF rfl rfl (VL.gF rfl rfl (VL.op (R.pickFB rfl rfl) (VL.op (R.mvB rfl) (VL.gF rfl rfl (VL.gF rfl rfl (VL.gF rfl rfl (VL.gF rfl rfl (VL.gF rfl rfl (VL.op (R.pickFB rfl rfl) (VL.op (R.asB rfl) (VL.nil (V.ret (fret1 (v := .bool _) rfl rfl rfl (?_)))))))))))))))))))))
   ·have h1 := of_decide_eq_true g20_1
    refine hleaf _ ?_ (E7.trans e20_14)
    rw [hZ, decide_eq_true ⟨h1.1, h1.2, g20_9⟩, Bool.true_and]
   ·refine hleaf false ?_ E7
    rw [hZ, decide_eq_false fun h => g20_9 h.2.2, Bool.false_and]
   ·have h1 := of_decide_eq_false g20_1
    refine hleaf false ?_ E7
    rw [hZ, decide_eq_false fun h => h1 ⟨h.1, h.2.1⟩, Bool.false_and]
  ·have hlA : leafA C s ⟨yk, ya, yi, yo⟩ = (!h && (decide (0 ≤ ya ∧ ya < (W.length : Int)) && (areA s ((W.map wyV).getD ya.toNat default).pos 1 && areA s ((W.map wyV).getD ya.toNat default).neg 2))) := by
    rw [hC]; unfold leafA; rw [if_neg c131, if_neg c154, if_pos c172]; dsimp only; rw [List.length_map]
   have hZ := hRl c57
   rw [hlA] at hZ
   have hym : 0 ≤ ya → ya < (W.length : Int) → W.getD ya.toNat default ∈ W := fun h0 h1 => gmem (by omega)
   refine V.region (VL.op (R.mvB rfl) (VL.op (R.not rfl) (VL.op (R.mvB rfl) (VL.and rfl rfl (fun g22_2 => VL.op (R.fld' (o := 1) Tryz.runUnderlying51 rfl rfl Tryz.sizeOf3 rfl rfl) (VL.gT rfl rfl (VL.op (R.ld1 Tryz.isAgg3 rfl ((hca E7))) (VL.gT rfl rfl (VL.op (R.geq rfl rfl) (VL.op (R.pickTB rfl rfl) (VL.op (R.mvB rfl) (VL.andP rfl rfl (fun g22_7 => VL.op (R.fld' (o := 1) Tryz.runUnderlying51 rfl rfl Tryz.sizeOf3 rfl rfl) (VL.gT rfl rfl (VL.op (R.ld1 Tryz.isAgg3 rfl ((hca E7))) (VL.gT rfl rfl (VL.op (R.mvS rfl) (VL.gT rfl rfl (VL.op (R.lenS Tryz.runUnderlying26 rfl) (VL.gT rfl rfl (VL.op (R.lss rfl rfl) (VL.op (R.pickTB rfl rfl) (VL.op (R.mvB rfl) (VL.andP rfl rfl (fun g22_14 => VL.op (R.mvS rfl) (VL.gT rfl rfl (VL.op (R.mvS rfl) (VL.gT rfl rfl (VL.op (R.fld' (o := 1) Tryz.runUnderlying51 rfl rfl Tryz.sizeOf3 rfl rfl) (VL.gT rfl rfl (VL.op (R.ld1 Tryz.isAgg3 rfl ((hca E7))) (VL.gT rfl rfl (VL.op (R.ixS Tryz.runUnderlying26 Tryz.sizeOf37 rfl rfl (by omega) (by omega) ((hW7 (Vc.Mod.refl _ _)).sl.some (i := ya.toNat) (by omega))) (VL.gT rfl rfl (VL.op (R.fld' (o := 0) Tryz.runUnderlying37 rfl rfl Tryz.sizeOf22 rfl rfl) (VL.gT rfl rfl (VL.op (R.ld1 Tryz.isAgg22 rfl ((((hW7 (Vc.Mod.refl _ _)).sl.row (i := ya.toNat) (by omega)).cell (i := 0) rfl))) (VL.gT rfl rfl (VL.callP Tryz.call63 rfl (hall (Vc.Mod.refl _ _) (W.getD ya.toNat default).p.a (W.getD ya.toNat default).p.c (W.getD ya.toNat default).p.l 1 ((hW7 (Vc.Mod.refl _ _)).at (i := ya.toNat) (by omega)).p (hR.wr _ (gmem (by omega))).1 (hR.wl _ (gmem (by omega))).p) fun w22_22 e22_22 => VL.op (R.pickTB rfl rfl) (VL.op (R.mvB rfl) (VL.and rfl rfl (fun g22_24 => VL.op (R.mvS rfl) (VL.gT rfl rfl (VL.op (R.mvS rfl) (VL.gT rfl rfl (VL.op (R.fld' (o := 1) Tryz.runUnderlying51 rfl rfl Tryz.sizeOf3 rfl rfl) (VL.gT rfl rfl (VL.op (R.ld1 Tryz.isAgg3 rfl ((hca (E7.trans e22_22)))) (VL.gT rfl rfl (VL.op (R.ixS Tryz.runUnderlying26 Tryz.sizeOf37 rfl rfl (by omega) (by omega) ((hW7 e22_22).sl.some (i := ya.toNat) (by omega))) (VL.gT rfl rfl (VL.op (R.fld' (o := 1) Tryz.runUnderlying37 rfl rfl Tryz.sizeOf22 rfl rfl) (VL.gT rfl rfl (VL.op (R.ld1 Tryz.isAgg22 rfl ((((hW7 e22_22).sl.row (i := ya.toNat) (by omega)).cell (i := 1) rfl))) (VL.gT rfl rfl (VL.callP Tryz.call63 rfl (hall e22_22 (W.getD ya.toNat default).n.a (W.getD ya.toNat default).n.c (W.getD ya.toNat default).n.l 2 ((hW7 e22_22).at (i := ya.toNat) (by omega)).n (hR.wr _ (gmem (by omega))).2 (hR.wl _ (gmem (by omega))).n) fun w22_32 e22_32 => VL.op (R.pickTB rfl rfl) (VL.op (R.asB rfl) (VL.nil (V.ret (fret1 (v := .bool _) rfl rfl rfl (?_)))))))))))))))))))) (fun g22_24 => VL.gF rfl rfl (VL.gF rfl rfl (VL.gF rfl rfl (VL.gF rfl rfl (VL.gF rfl rfl (VL.gF rfl rfl (VL.gF rfl rfl (VL.op (R.pickFB rfl rfl) (VL.op (R.asB rfl) (VL.nil (V.ret (fret1 (v := .bool _) rfl rfl rfl (?_)))))))))))))))))))))))))))))) (fun g22_14 => VL.gF rfl rfl (VL.gF rfl rfl (VL.gF rfl rfl (VL.gF rfl rfl (VL.gF rfl rfl (VL.gF rfl rfl (VL.gF rfl rfl (VL.op (R.pickFB rfl rfl) (VL.op (R.mvB rfl) (VL.gF rfl rfl (VL.gF rfl rfl (VL.gF rfl rfl (VL.gF rfl rfl (VL.gF rfl rfl (VL.gF rfl rfl (VL.gF rfl rfl (VL.gF rfl rfl (VL.op (R.pickFB rfl rfl) (VL.op (R.asB rfl) (VL.nil (V.ret (fret1 (v := .bool _) rfl rfl rfl (?_))))))))))))))))))))))))))))))))))) (fun g22_7 => VL.gF rfl rfl (VL.gF rfl rfl (VL.gF rfl rfl (VL.gF rfl rfl (VL.op (R.pickFB rfl rfl) (VL.op (R.mvB rfl) (VL.gF rfl rfl (VL.gF rfl rfl (VL.gF rfl rfl (VL.gF rfl rfl (VL.gF rfl rfl (VL.gF rfl rfl (VL.gF rfl rfl (VL.gF rfl rfl (VL.op (R.pickFB rfl rfl) (VL.op (R.mvB rfl) (VL.gF rfl rfl (VL.gF rfl rfl (VL.gF rfl rfl (VL.gF rfl rfl (VL.gF rfl rfl (VL.gF rfl rfl (VL.gF rfl rfl (VL.gF rfl rfl (VL.op (R.pickFB rfl rfl) (VL.op (R.asB rfl) (VL.nil (V.ret (fret1 (v := .bool _) rfl rfl rfl (?_)))))))))))))))))))))))))))))))))))))) (fun g22_2 => VL.gF rfl rfl (VL.gF rfl rfl (VL.op (R.pickFB rfl rfl) (VL.op (R.mvB rfl) (VL.gF rfl rfl (VL.gF rfl rfl (VL.gF rfl rfl (VL.gF rfl rfl (VL.gF rfl rfl (VL.op (R.pickFB rfl rfl) (VL.op (R.mvB rfl) (VL.gF rfl rfl (VL.gF rfl rfl (VL.gF rfl rfl (VL.gF rfl rfl (VL.gF rfl rfl (VL.gF rfl rfl (VL.gF rfl rfl (VL.gF rfl rfl (VL.op (R.pickFB rfl rfl) (VL.op (R.mvB rfl) (VL.gF rfl rfl (VL.gF rfl rfl (VL.gF rfl rfl (VL.gF rfl rfl (VL.gF rfl rfl (VL.gF rfl rfl (VL.gF rfl rfl (VL.gF rfl rfl (VL.op (R.pickFB rfl rfl) (VL.op (R.asB rfl) (VL.nil (V.ret (fret1 (v := .bool _) rfl rfl rfl (?_)))))))))))))))))))))))))))))))))))))))
   ·refine hleaf _ ?_ (E7.trans (e22_22.trans e22_32))
    rw [hZ, g22_2, decide_eq_true ⟨g22_7, g22_14⟩, Bool.true_and, Bool.true_and, getD_wy (by omega), show (wyV (W.getD ya.toNat default)).pos = (W.getD ya.toNat default).p.l from rfl, g22_24, Bool.true_and]; rfl
   ·refine hleaf false ?_ (E7.trans e22_22)
    rw [hZ, getD_wy (by omega), show (wyV (W.getD ya.toNat default)).pos = (W.getD ya.toNat default).p.l from rfl, g22_24, Bool.false_and, Bool.and_false, Bool.and_false]
   ·refine hleaf false ?_ E7
    rw [hZ, decide_eq_false (by omega), Bool.false_and, Bool.and_false]
   ·refine hleaf false ?_ E7
    rw [hZ, decide_eq_false (by omega), Bool.false_and, Bool.and_false]
   ·refine hleaf false ?_ E7
    rw [hZ, g22_2, Bool.false_and]
  ·have hlA : leafA C s ⟨yk, ya, yi, yo⟩ = (h && (decide (ya = 0) && W.all fun y => somA s y.p.l 2 || somA s y.n.l 1)) := by
    rw [hC]; unfold leafA; rw [if_neg c131, if_neg c154, if_neg c172, if_pos c208]
    exact congrArg (fun z => h && (decide (ya = 0) && z)) all_map30
   have hZ := hRl c57
   rw [hlA] at hZ
   refine V.region (VL.op (R.mvB rfl) (VL.op (R.not rfl) (VL.op (R.mvB rfl) (VL.or rfl rfl (fun g24_2 => VL.op (R.fld' (o := 1) Tryz.runUnderlying51 rfl rfl Tryz.sizeOf3 rfl rfl) (VL.gT rfl rfl (VL.op (R.ld1 Tryz.isAgg3 rfl ((hca E7))) (VL.gT rfl rfl (VL.op (R.neq rfl rfl) (VL.op (R.pickFB rfl rfl) (VL.nil (V.condP rfl (fun c216 => V.seq (V.region (VL.op (R.asB rfl) (VL.nil (V.ret (fret1 (v := .bool _) rfl rfl rfl (?_))))))) (fun c216 => V.skip (V.seq (V.seq (?_)))))))))))) (fun g24_2 => VL.gF rfl rfl (VL.gF rfl rfl (VL.op (R.pickTB rfl rfl) (VL.nil (V.condT rfl (V.seq (V.region (VL.op (R.asB rfl) (VL.nil (V.ret (fret1 (v := .bool _) rfl rfl rfl (?_))))))))))))))))
   ·refine hleaf false ?_ E7
    rw [hZ, decide_eq_false c216, Bool.false_and, Bool.and_false]
   ·have hh : h = true := by simpa using g24_2
    have ha0 : ya = 0 := by omega
    refine V.region (VL.op (R.asI rfl) (VL.nil (V.block (?_))))
    refine V.loop [1, 5, 19] (fun k : Nat => [.slice wa W.length wc, .slice ta N tc, .int .i64 (k : Nat)]) (fun k w' => k ≤ W.length ∧ (∀ i, i < k → (somA s (W.getD i default).p.l 2 || somA s (W.getD i default).n.l 1) = true) ∧ Ext w7c w') (fun k => W.length - k) 0 rfl ⟨Nat.zero_le _, fun i h => absurd h (Nat.not_lt_zero i), Vc.Mod.refl _ _⟩ ?_
    rintro ρ k w8 ⟨hk, hf8, e8⟩
    refine V.seq (V.seq (V.region (VL.op (R.mvI rfl) (VL.op (R.mvS rfl) (VL.op (R.lenS Tryz.runUnderlying26 rfl) (VL.op (R.lss rfl rfl) (VL.nil (V.condP rfl (fun c220 => V.skip (V.seq (V.block (V.seq (?_))))) (fun c220 => V.exit (V.seq (V.region (VL.op (R.asB rfl) (VL.nil (V.ret (fret1 (v := .bool _) rfl rfl rfl (?_))))))))))))))))
    ·have hkn : k < W.length := by omega
     refine V.region (VL.op (R.mvS rfl) (VL.op (R.mvS rfl) (VL.op (R.mvI rfl) (VL.op (R.ixS Tryz.runUnderlying26 Tryz.sizeOf37 rfl rfl (by omega) (by omega) ((hW7 e8).sl.some (i := k) hkn)) (VL.op (R.fld' (o := 0) Tryz.runUnderlying37 rfl rfl Tryz.sizeOf22 rfl rfl) (VL.op (R.ld1 Tryz.isAgg22 rfl ((((hW7 e8).sl.row (i := k) hkn).cell (i := 0) rfl))) (VL.callP Tryz.call65 rfl (hsm e8 (W.getD k default).p.a (W.getD k default).p.c (W.getD k default).p.l 2 ((hW7 e8).at hkn).p (hR.wr _ (gmem hkn)).1 (hR.wl _ (gmem hkn)).p) fun w29_6 e29_6 => VL.op (R.not rfl) (VL.op (R.mvB rfl) (VL.and rfl rfl (fun g29_8 => VL.op (R.mvS rfl) (VL.gT rfl rfl (VL.op (R.mvS rfl) (VL.gT rfl rfl (VL.op (R.mvI rfl) (VL.gT rfl rfl (VL.op (R.ixS Tryz.runUnderlying26 Tryz.sizeOf37 rfl rfl (by omega) (by omega) ((hW7 (e8.trans e29_6)).sl.some (i := k) hkn)) (VL.gT rfl rfl (VL.op (R.fld' (o := 1) Tryz.runUnderlying37 rfl rfl Tryz.sizeOf22 rfl rfl) (VL.gT rfl rfl (VL.op (R.ld1 Tryz.isAgg22 rfl ((((hW7 (e8.trans e29_6)).sl.row (i := k) hkn).cell (i := 1) rfl))) (VL.gT rfl rfl (VL.callP Tryz.call65 rfl (hsm (e8.trans e29_6) (W.getD k default).n.a (W.getD k default).n.c (W.getD k default).n.l 1 ((hW7 (e8.trans e29_6)).at hkn).n (hR.wr _ (gmem hkn)).2 (hR.wl _ (gmem hkn)).n) fun w29_15 e29_15 => VL.gT rfl rfl (VL.op (R.not rfl) (VL.op (R.pickTB rfl rfl) (VL.nil (V.cond rfl (fun c240 => V.seq (V.region (VL.op (R.asB rfl) (VL.nil (V.ret (fret1 (v := .bool _) rfl rfl rfl (?_))))))) (fun c240 => V.skip (V.region (VL.op (R.mvI rfl) (VL.op (R.add rfl rfl (by omega) (by omega)) (VL.op (R.asI rfl) (VL.nil (⟨k + 1, rfl, ⟨by omega, fun i hi => ?_, e8.trans (e29_6.trans e29_15)⟩, by omega⟩)))))))))))))))))))))))) (fun g29_8 => VL.gF rfl rfl (VL.gF rfl rfl (VL.gF rfl rfl (VL.gF rfl rfl (VL.gF rfl rfl (VL.gF rfl rfl (VL.gF rfl rfl (VL.op (R.pickFB rfl rfl) (VL.nil (V.condF rfl (V.skip (V.region (VL.op (R.mvI rfl) (VL.op (R.add rfl rfl (by omega) (by omega)) (VL.op (R.asI rfl) (VL.nil (⟨k + 1, rfl, ⟨by omega, fun i hi => ?_, e8.trans e29_6⟩, by omega⟩))))))))))))))))))))))))))
     ·refine hleaf false ?_ (E7.trans (e8.trans (e29_6.trans e29_15)))
      have h3 : (W.all fun y => somA s y.p.l 2 || somA s y.n.l 1) = false := List.all_eq_false.2 ⟨_, gmem hkn, by
       have h1 : somA s (W.getD k default).p.l 2 = false := by simpa using g29_8
       have h2 : somA s (W.getD k default).n.l 1 = false := by simpa using c240
       rw [h1, h2]; decide⟩
      rw [hZ, h3, Bool.and_false, Bool.and_false]
     ·by_cases hik : i = k
      ·subst hik
       have h2 : somA s (W.getD i default).n.l 1 = true := by simpa using c240
       rw [h2, Bool.or_true]
      ·exact hf8 i (by omega)
     ·by_cases hik : i = k
      ·subst hik
       have h2 : somA s (W.getD i default).p.l 2 = true := by simpa using g29_8
       rw [h2, Bool.true_or]
      ·exact hf8 i (by omega)
    ·have hkn : k = W.length := by omega
     subst hkn
     refine hleaf true ?_ (E7.trans e8)
     have : (W.all fun y => somA s y.p.l 2 || somA s y.n.l 1) = true := List.all_eq_true.2 fun y hy => by
      obtain ⟨i, hi, rfl⟩ := List.getElem_of_mem hy
      have := hf8 i hi
      rwa [gget hi] at this
     rw [hZ, hh, decide_eq_true ha0, this]; rfl
   ·refine hleaf false ?_ E7
    have hh : h = false := by simpa using g24_2
    rw [hZ, hh, Bool.false_and]
  ·refine hleaf false ?_ E7
   rw [hRl c57, show leafA C s ⟨yk, ya, yi, yo⟩ = false by unfold leafA; rw [if_neg c131, if_neg c154, if_neg c172, if_neg c208]]
end Go.Proofs.YtmglkjigmcikdaaGreatDoor

/- Proof: the reference: ready, Check. -/
namespace Go.Proofs.YtmglkjigmcikdaaGreatDoor
open Go.Vc
set_option maxRecDepth 100000
set_option maxHeartbeats 16000000
theorem rready30_spec (g : GrW) (wa : Option Addr) (wc : Nat) (W : List WyI) (w : World) (hG : GOk w g) (hl : GLen g) (hW : WL w wa W) (hWl : ∀ y ∈ W, WLen y) (hWm : W.length ≤ 1000000) :
  RetsP Tryz.prog 37 #[.agg (encGr g).toArray, .slice wa W.length wc] w (.bool (readyG (grV g) (W.map wyV))) := by
 refine enter (args := [_, _]) Tryz.func37 rfl Tryz.ntmps37 (by kernel_rfl) rfl ?_
 refine V.seq (V.region (VL.box (v := .agg _) rfl fun b0_0 w0_0 hb0_0 e0_0 hB0_0 => VL.op (R.asB rfl) (VL.nil (V.seq (V.seq (V.region (VL.op (R.asI rfl) (VL.nil (V.block (?_))))))))))
 refine V.loop [1, 2, 5] (fun k : Nat => [.slice wa W.length wc, .pointer (some ⟨b0_0, 0, none⟩), .int .i64 (k : Nat)]) (fun k w' => k ≤ W.length ∧ (∀ i, i < k → wyB g.n (wyV (W.getD i default)) = true) ∧ Ext w0_0 w') (fun k => W.length - k) 0 rfl ⟨Nat.zero_le _, fun i h => absurd h (Nat.not_lt_zero i), Vc.Mod.refl _ _⟩ ?_
 rintro ρ k w2 ⟨hk, hf, e⟩
 have hX2 := hB0_0.ext e
 have hW2 := hW.ext (e0_0.trans e)
 have hG2 := hG.ext (e0_0.trans e)
 refine V.seq (V.seq (V.region (VL.op (R.mvI rfl) (VL.op (R.mvS rfl) (VL.op (R.lenS Tryz.runUnderlying26 rfl) (VL.op (R.lss rfl rfl) (VL.nil (V.condP rfl (fun c9 => V.skip (V.seq (V.block (V.seq (?_))))) (fun c9 => V.exit (V.seq (?_)))))))))))
 ·have hkn : k < W.length := by omega
  refine V.regionQ mixed 8 (by kernel_rfl) rfl (fun w' => Ext _ w') (Ext.drawn _) (VQ.op (fun wq eq => R.mvS rfl) (VQ.op (fun wq eq => R.mvI rfl) (VQ.op (fun wq eq => R.ixS Tryz.runUnderlying26 Tryz.sizeOf37 rfl rfl (by omega) (by omega) (hW2.sl.some (i := k) hkn)) (VQ.op (fun wq eq => R.ldA Tryz.isAgg37 Tryz.sizeOf37 rfl rfl ((show RowAt _ _ _ (encWy (W.getD k default)) from ((hW2.sl.ext eq).row (i := k) hkn))) rfl) (VQ.op (fun wq eq => R.fld' (o := 0) Tryz.runUnderlying25 rfl rfl Tryz.sizeOf3 rfl rfl) (VQ.op (fun wq eq => R.ld1 Tryz.isAgg3 rfl ((show _ = some (Value.int .i64 g.n) from (hX2.ext eq).cell 0))) (VQ.callP (fun _ _ h k => Mod.trans h k) Tryz.call20 rfl (fun wq eq => rformed30_spec (W.getD k default) g.n _ ((hW2.at hkn).ext eq) (hWl _ (gmem hkn))) (VQ.op (fun wq eq => R.not rfl) (VQ.nil fun w4q e4q => VL.nil (V.cond rfl (fun c19 => V.seq (V.region (VL.op (R.asB rfl) (VL.nil (V.ret (fret1 (v := .bool _) rfl rfl rfl (⟨?_, e0_0.trans (e.trans e4q)⟩))))))) (fun c19 => V.skip (V.region (VL.op (R.mvI rfl) (VL.op (R.add rfl rfl (by omega) (by omega)) (VL.op (R.asI rfl) (VL.nil (⟨k + 1, rfl, ⟨by omega, fun i hi => ?_, e.trans e4q⟩, by omega⟩)))))))))))))))))
  ·have h1 : wyB g.n (wyV (W.getD k default)) = false := by simpa using c19
   refine congrArg Value.bool (Bool.eq_false_iff.2 fun hh => ?_).symm
   unfold readyG at hh
   rw [Bool.and_eq_true, List.all_eq_true] at hh
   have h2 : wyB g.n (wyV (W.getD k default)) = true := hh.2 _ (List.mem_map_of_mem (gmem hkn))
   rw [h1] at h2; cases h2
  ·by_cases h : i = k
   ·subst h; simpa using c19
   ·exact hf i (by omega)
 ·refine V.region (VL.op (R.mvS rfl) (VL.op (R.lenS Tryz.runUnderlying26 rfl) (VL.op (R.leq rfl rfl) (VL.op (R.mvB rfl) (VL.andP rfl rfl (fun g6_3 => VL.op (R.ldA Tryz.isAgg25 Tryz.sizeOf25 rfl rfl ((show RowAt _ _ _ (encGr g) from hX2.rowAt 0 3)) rfl) (VL.gT rfl rfl (VL.callP Tryz.call19 rfl (rvalid_spec g w2 hG2 hl) fun w6_5 e6_5 => VL.op (R.pickTB rfl rfl) (VL.op (R.asB rfl) (VL.nil (V.ret (fret1 (v := .bool _) rfl rfl rfl (⟨?_, e0_0.trans (e.trans e6_5)⟩)))))))) (fun g6_3 => VL.gF rfl rfl (VL.op (R.pickFB rfl rfl) (VL.op (R.asB rfl) (VL.nil (V.ret (fret1 (v := .bool _) rfl rfl rfl (⟨?_, e0_0.trans (e.trans (Mod.refl _ _))⟩))))))))))))
  ·have hkn : k = W.length := by omega
   subst hkn
   have h1 : (W.map wyV).all (wyB g.n) = true := List.all_eq_true.2 fun y hy => by
    obtain ⟨x, hx, rfl⟩ := List.mem_map.1 hy
    obtain ⟨i, hi, rfl⟩ := List.getElem_of_mem hx
    have := hf i hi
    rwa [gget hi] at this
   refine congrArg Value.bool ?_
   unfold readyG
   rw [List.length_map, decide_eq_true (by omega), Bool.and_true, show (grV g).n = g.n from rfl, h1, Bool.and_true]
  ·refine congrArg Value.bool ?_
   unfold readyG
   rw [List.length_map, decide_eq_false (by omega), Bool.and_false, Bool.false_and]
theorem rcheck30_spec (g : GrW) (wa : Option Addr) (wc : Nat) (W : List WyI) (h : Bool) (sa : Option Addr) (sc : Nat) (S : List St4) (w : World) (hG : GOk w g) (hl : GLen g) (hW : WL w wa W) (hWl : ∀ y ∈ W, WLen y) (hWm : W.length ≤ 1000000) (hS : TSl encS4 4 w sa S) (hSl : S.length ≤ 9223372036854775807) :
  RetsP Tryz.prog 15 #[.agg (encGr g).toArray, .slice wa W.length wc, .bool h, .agg #[.slice sa S.length sc]] w (.bool (checkA (grV g) (W.map wyV) h S)) := by
 refine enter (args := [_, _, _, _]) Tryz.func15 rfl Tryz.ntmps15 (by kernel_rfl) rfl ?_
 refine V.seq (V.region (VL.box (v := .agg _) rfl fun b0_0 w0_0 hb0_0 e0_0 hB0_0 => VL.box (v := .agg _) rfl fun b0_1 w0_1 hb0_1 e0_1 hB0_1 => VL.op (R.asB rfl) (VL.nil (V.seq (V.seq (V.region (VL.op (R.ldA Tryz.isAgg25 Tryz.sizeOf25 rfl rfl ((show RowAt _ _ _ (encGr g) from (hB0_0.ext e0_1).rowAt 0 3)) rfl) (VL.op (R.mvS rfl) (VL.callP Tryz.call37 rfl (rready30_spec g wa wc W _ (hG.ext (e0_0.trans e0_1)) hl (hW.ext (e0_0.trans e0_1)) hWl hWm) fun w1_2 e1_2 => VL.op (R.not rfl) (VL.op (R.mvB rfl) (VL.or rfl rfl (fun g1_4 => VL.op (R.fld' (o := 0) Tryz.runUnderlying29 rfl rfl Tryz.sizeOf27 rfl rfl) (VL.gT rfl rfl (VL.op (R.ld1 Tryz.isAgg27 rfl ((show _ = some (Value.slice sa S.length sc) from (hB0_1.ext e1_2).cell 0))) (VL.gT rfl rfl (VL.op (R.lenS Tryz.runUnderlying27 rfl) (VL.gT rfl rfl (VL.op (R.eql rfl rfl) (VL.op (R.pickFB rfl rfl) (VL.op (R.mvB rfl) (VL.orP rfl rfl (fun g1_10 => VL.op (R.fld' (o := 0) Tryz.runUnderlying29 rfl rfl Tryz.sizeOf27 rfl rfl) (VL.gT rfl rfl (VL.op (R.ld1 Tryz.isAgg27 rfl ((show _ = some (Value.slice sa S.length sc) from (hB0_1.ext e1_2).cell 0))) (VL.gT rfl rfl (VL.op (R.lenS Tryz.runUnderlying27 rfl) (VL.gT rfl rfl (VL.op (R.gtr rfl rfl) (VL.op (R.pickFB rfl rfl) (VL.nil (V.condP rfl (fun c24 => V.seq (V.region (VL.op (R.asB rfl) (VL.nil (V.ret (fret1 (v := .bool _) rfl rfl rfl (⟨?_, ((e0_0.trans e0_1).trans e1_2)⟩))))))) (fun c24 => V.skip (V.seq (?_))))))))))))) (fun g1_10 => VL.gF rfl rfl (VL.gF rfl rfl (VL.gF rfl rfl (VL.op (R.pickTB rfl rfl) (VL.nil (V.condT rfl (V.seq (V.region (VL.op (R.asB rfl) (VL.nil (V.ret (fret1 (v := .bool _) rfl rfl rfl (⟨?_, ((e0_0.trans e0_1).trans e1_2)⟩))))))))))))))))))))))) (fun g1_4 => VL.gF rfl rfl (VL.gF rfl rfl (VL.gF rfl rfl (VL.op (R.pickTB rfl rfl) (VL.op (R.mvB rfl) (VL.gF rfl rfl (VL.gF rfl rfl (VL.gF rfl rfl (VL.gF rfl rfl (VL.op (R.pickTB rfl rfl) (VL.nil (V.condT rfl (V.seq (V.region (VL.op (R.asB rfl) (VL.nil (V.ret (fret1 (v := .bool _) rfl rfl rfl (⟨?_, ((e0_0.trans e0_1).trans e1_2)⟩))))))))))))))))))))))))))))))
 ·refine congrArg Value.bool ?_
  unfold checkA
  rw [decide_eq_false (by omega), Bool.false_and, Bool.and_false]
 ·have hr : readyG (grV g) (W.map wyV) = true := by simpa using g1_4
  have hR := ready_rr hr hl hWl
  obtain ⟨N, hN⟩ : ∃ N, N = g.n.toNat := ⟨_, rfl⟩
  rw [← hN] at hR
  have hn := hR.n
  have hN4 := hR.N4
  have E2 : Ext w w1_2 := (e0_0.trans e0_1).trans e1_2
  have hX0 := (hB0_0.ext e0_1).ext e1_2
  have hX1 := hB0_1.ext e1_2
  refine V.regionS mixed 11 (by kernel_rfl) rfl (fun us => VS.op (fun wq eq => R.ldA Tryz.isAgg25 Tryz.sizeOf25 rfl rfl ((show RowAt _ _ _ (encGr g) from (hX0.ext eq).rowAt 0 3)) rfl) (VS.op (fun wq eq => R.mvS rfl) (VS.op (fun wq eq => R.mvB rfl) (VS.op (fun wq eq => R.ldA Tryz.isAgg29 Tryz.sizeOf29 rfl rfl ((show RowAt _ _ _ [Value.slice sa S.length sc] from (hX1.ext eq).rowAt 0 1)) rfl) (VS.op (fun wq eq => R.fld' (o := 0) Tryz.runUnderlying25 rfl rfl Tryz.sizeOf3 rfl rfl) (VS.op (fun wq eq => R.ld1 Tryz.isAgg3 rfl ((show wq.cell? ⟨b0_0, 0, none⟩ = some (Value.int .i64 ((N : Nat) : Int)) from by rw [← hn]; exact (hX0.ext eq).cell 0))) (VS.spec (fun u w' => ∃ b, u = .slice (some ⟨b, 0, none⟩) N N ∧ OwnT Vc.encI 1 3 w1_2.heap.size w' (some ⟨b, 0, none⟩) N (List.replicate N (0 : Int))) (fun u a b _ ⟨c, hc, h1⟩ eb => ⟨c, hc, h1.ext eb⟩) rfl (fun wq eq hq => yieldsR_make el22 (0 : Int) rfl rfl rfl (by omega) (by unfold maxLen; omega) eq.size fun b w' hb he hO => ⟨⟨b, rfl, hO⟩, he⟩) (VS.op (fun wq eq => R.fld' (o := 0) Tryz.runUnderlying29 rfl rfl Tryz.sizeOf27 rfl rfl) (VS.op (fun wq eq => R.ld1 Tryz.isAgg27 rfl ((show wq.cell? ⟨b0_1, 0, none⟩ = some (Value.slice sa S.length sc) from (hX1.ext eq).cell 0))) (VS.op (fun wq eq => R.lenS Tryz.runUnderlying27 rfl) (VS.spec (fun u w' => ∃ b, u = .slice (some ⟨b, 0, none⟩) S.length S.length ∧ OwnT encBo 1 4 w1_2.heap.size w' (some ⟨b, 0, none⟩) S.length (List.replicate S.length false)) (fun u a b _ ⟨c, hc, h1⟩ eb => ⟨c, hc, h1.ext eb⟩) rfl (fun wq eq hq => yieldsR_make el67 false rfl rfl rfl (by omega) (by unfold maxLen; omega) eq.size fun b w' hb he hO => ⟨⟨b, rfl, hO⟩, he⟩) (VS.nil (fun w3 e3 h3 => ?_))))))))))))) rfl
  obtain ⟨tb, ht, hto⟩ := h3 6
  obtain ⟨nb, hnb, hno⟩ := h3 10
  rw [ht, hnb]
  have hne : ∀ x, aBlk (some ⟨tb, 0, none⟩ : Option Addr) x → x ≠ nb := fun x hx h => by
   obtain ⟨cT, zT, bT⟩ := OwnT.tyA hno _ rfl
   exact (OwnT.tyA hto).apart bT (by decide) ⟨_, rfl, (aBlk_some hx).symm.trans h⟩
  have hrs := rright30_spec g wa wc W h sa sc S N hR (by omega) w1_2 (hG.ext E2) (hW.ext E2) (hS.ext E2) S.length 0 (List.replicate N 0) (some ⟨tb, 0, none⟩) N (List.replicate S.length false) nb w3 (by omega) (by omega) e3 hto.sl (fun h => by cases h) hne (by simp) hno (by simp)
  refine VL.callY Tryz.call38 rfl (hrs) fun sn4 w4 h4 => VL.op (R.asB rfl) (VL.nil (V.ret (fret1 (v := .bool _) rfl rfl rfl (⟨?_, ?_⟩))))
  ·refine congrArg Value.bool ?_
   unfold checkA
   rw [hr, Bool.true_and, decide_eq_true (by omega), Bool.true_and, show (grV g).n.toNat = N from hN.symm]
   rfl
  ·refine (E2.trans e3).ownA h4.m fun q hq => ?_
   have h5 : q = nb := hq
   have h6 := hno.ge nb ⟨_, rfl, rfl⟩
   have h7 := E2.size
   omega
 ·refine congrArg Value.bool ?_
  unfold checkA
  rw [decide_eq_false (by omega), Bool.false_and, Bool.and_false]
 ·have hr : readyG (grV g) (W.map wyV) = false := by simpa using g1_4
  refine congrArg Value.bool ?_
  unfold checkA
  rw [hr, Bool.false_and]
end Go.Proofs.YtmglkjigmcikdaaGreatDoor
