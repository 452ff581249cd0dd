/- Proof: sets, ways that hold. -/
import Derived.Test.YtmglkjigmcikdaaGreatDoorXN3
import Derived.Test.YtmglkjigmcikdaaGreatDoorXH4
import Derived.Test.YtmglkjigmcikdaaGreatDoorXVcPrf
import Derived.Test.YtmglkjigmcikdaaGreatDoorXHG
import Derived.Test.YtmglkjigmcikdaaGreatDoorXH22a
import Derived.Test.YtmglkjigmcikdaaGreatDoorXVcBlk
namespace Go.Proofs.YtmglkjigmcikdaaGreatDoor
open Go.Vc
set_option maxRecDepth 100000
set_option maxHeartbeats 16000000
theorem set30_spec (a : Option Addr) (c : Nat) (l : List Int) (w : World) (hl : l.length ≤ 9223372036854775807) (hS : IntSl w a l) :
  RetsP Tryz.prog 27 #[.slice a l.length c] w (.bool (decide (Inc l))) := by
 refine enter (args := [_]) Tryz.func27 rfl Tryz.ntmps27 (by kernel_rfl) rfl ?_
 refine V.seq (V.region (VL.op (R.asB rfl) (VL.nil (V.seq (V.seq (V.region (VL.op (R.asI rfl) (VL.nil (V.block (?_))))))))))
 refine V.loop [0, 3] (fun k : Nat => [.slice a l.length c, .int .i64 (k : Nat)]) (fun k w' => 1 ≤ k ∧ (∀ i, 0 < i → i < k → i < l.length → l.getD (i - 1) default < l.getD i default) ∧ Ext w w') (fun k => l.length - k) 1 rfl ⟨by omega, fun i h1 h2 => by omega, Vc.Mod.refl _ _⟩ ?_
 rintro ρ k w1 ⟨hk, hi, e⟩
 have hk1 : ((k : Int) - 1).toNat = k - 1 := by omega
 refine V.seq (V.seq (V.region (VL.op (R.mvI rfl) (VL.op (R.mvS rfl) (VL.op (R.lenS Tryz.runUnderlying22 rfl) (VL.op (R.lss rfl rfl) (VL.nil (V.condP rfl (fun c7 => V.skip (V.seq (V.block (V.seq (V.regionQ mixed 10 (by kernel_rfl) rfl (fun w' => Ext _ w') (Ext.drawn _) (VQ.op (fun wq eq => R.mvS rfl) (VQ.op (fun wq eq => R.mvI rfl) (VQ.op (fun wq eq => R.ixS Tryz.runUnderlying22 Tryz.sizeOf3 rfl rfl (by omega) (by omega) ((hS).some (i := k) (by omega))) (VQ.op (fun wq eq => R.ld1 Tryz.isAgg3 rfl (((((hS).ext (e.trans eq)).row (i := k) (by omega)).cell (i := 0) rfl))) (VQ.op (fun wq eq => R.mvS rfl) (VQ.op (fun wq eq => R.mvI rfl) (VQ.op (fun wq eq => R.sub rfl rfl (by omega) (by omega)) (VQ.op (fun wq eq => R.ixS Tryz.runUnderlying22 Tryz.sizeOf3 rfl rfl (by omega) (by omega) ((hS).some (i := ((k : Int) - 1).toNat) (by omega))) (VQ.op (fun wq eq => R.ld1 Tryz.isAgg3 rfl (((((hS).ext (e.trans eq)).row (i := ((k : Int) - 1).toNat) (by omega)).cell (i := 0) rfl))) (VQ.op (fun wq eq => R.leq rfl rfl) (VQ.nil fun w4q e4q => VL.nil (V.condP rfl (fun c19 => V.seq (V.region (VL.op (R.asB rfl) (VL.nil (V.ret (fret1 (v := .bool _) rfl rfl rfl (⟨?_, (e.trans e4q)⟩))))))) (fun c19 => V.skip (V.region (VL.op (R.mvI rfl) (VL.op (R.add rfl rfl (by omega) (by omega)) (VL.op (R.asI rfl) (VL.nil (⟨k + 1, rfl, ⟨by omega, fun i h1 h2 h3 => ?_, (e.trans e4q)⟩, by omega⟩)))))))))))))))))))))))) (fun c7 => V.exit (V.seq (V.region (VL.op (R.asB rfl) (VL.nil (V.ret (fret1 (v := .bool _) rfl rfl rfl (⟨?_, e⟩))))))))))))))))
 ·rw [hk1] at c19
  refine congrArg Value.bool (decide_eq_false fun h => ?_).symm
  have := inc_at h (show k - 1 < k by omega) (by omega)
  omega
 ·by_cases e2 : i = k
  ·subst e2; rw [hk1] at c19; omega
  ·exact hi i h1 (by omega) h3
 ·refine congrArg Value.bool (decide_eq_true (inc_step (k := l.length) (fun i h1 h2 => hi i h1 (by omega) h2) (Nat.le_refl _))).symm
theorem below_spec (a : Option Addr) (c : Nat) (l : List Int) (n : Int) (w : World) (hl : l.length ≤ 9223372036854775807) (hS : IntSl w a l) :
  RetsP Tryz.prog 54 #[.slice a l.length c, .int .i64 n] w (.bool (setB l n)) := by
 refine enter (args := [_, _]) Tryz.func54 rfl Tryz.ntmps54 (by kernel_rfl) rfl ?_
 have hset := fun w' (e : Ext w w') => set30_spec a c l w' hl (hS.ext e)
 by_cases hi : Inc l
 ·by_cases h0 : l.length = 0
  ·refine V.seq (V.region (VL.op (R.asB rfl) (VL.nil (V.seq (V.region (VL.op (R.mvS rfl) (VL.callP Tryz.call27 rfl ((by have := hset _ (Vc.Mod.refl _ _); rwa [decide_eq_true hi] at this)) fun w1_1 e1_1 => VL.op (R.mvB rfl) (VL.gT rfl rfl (VL.op (R.mvS rfl) (VL.gT rfl rfl (VL.op (R.lenS Tryz.runUnderlying22 rfl) (VL.gT rfl rfl (VL.op (R.lit (R.eql rfl rfl) ((decide_eq_true (by omega)))) (VL.gT rfl rfl (VL.op (R.mvB rfl) (VL.gF rfl rfl (VL.gF rfl rfl (VL.gF rfl rfl (VL.gF rfl rfl (VL.gF rfl rfl (VL.gU rfl rfl (VL.gU rfl rfl (VL.gU rfl rfl (VL.gU rfl rfl (VL.gU rfl rfl (VL.gU rfl rfl (VL.gU rfl rfl (VL.gU rfl rfl (VL.gF rfl rfl (VL.gT rfl rfl (VL.op (R.pickTB rfl rfl) (VL.op (R.pickTB rfl rfl) (VL.op (R.asB rfl) (VL.nil (V.ret (fret1 (v := .bool _) rfl rfl rfl (⟨?_, e1_1⟩)))))))))))))))))))))))))))))))))))))
   rw [setB_iff.2 ⟨hi, (inc_ends hi).2 (.inl h0)⟩]
  ·refine V.seq (V.region (VL.op (R.asB rfl) (VL.nil (V.seq (V.region (VL.op (R.mvS rfl) (VL.callP Tryz.call27 rfl ((by have := hset _ (Vc.Mod.refl _ _); rwa [decide_eq_true hi] at this)) fun w1_1 e1_1 => VL.op (R.mvB rfl) (VL.gT rfl rfl (VL.op (R.mvS rfl) (VL.gT rfl rfl (VL.op (R.lenS Tryz.runUnderlying22 rfl) (VL.gT rfl rfl (VL.op (R.lit (R.eql rfl rfl) ((decide_eq_false (by omega)))) (VL.gT rfl rfl (VL.op (R.mvB rfl) (VL.gT rfl rfl (VL.op (R.mvS rfl) (VL.gT rfl rfl (VL.op (R.ixS Tryz.runUnderlying22 Tryz.sizeOf3 rfl rfl (by omega) (by omega) ((hS.ext e1_1).some (i := 0) (by omega))) (VL.gT rfl rfl (VL.op (R.ld1 Tryz.isAgg3 rfl ((((hS.ext e1_1).row (i := 0) (by omega)).cell (i := 0) rfl))) (VL.gT rfl rfl (VL.op (R.geq rfl rfl) (VL.gT rfl rfl (VL.op (R.mvB rfl) (VL.andP rfl rfl (fun g1_11 => VL.op (R.mvS rfl) (VL.gT rfl rfl (VL.op (R.mvS rfl) (VL.gT rfl rfl (VL.op (R.lenS Tryz.runUnderlying22 rfl) (VL.gT rfl rfl (VL.op (R.sub rfl rfl (by omega) (by omega)) (VL.gT rfl rfl (VL.op (R.ixS Tryz.runUnderlying22 Tryz.sizeOf3 rfl rfl (by omega) (by omega) ((hS.ext e1_1).some (i := ((l.length : Int) - 1).toNat) (by omega))) (VL.gT rfl rfl (VL.op (R.ld1 Tryz.isAgg3 rfl ((((hS.ext e1_1).row (i := ((l.length : Int) - 1).toNat) (by omega)).cell (i := 0) rfl))) (VL.gT rfl rfl (VL.op (R.mvI rfl) (VL.gT rfl rfl (VL.op (R.lss rfl rfl) (VL.gT rfl rfl (VL.op (R.pickTB rfl rfl) (VL.gT rfl rfl (VL.op (R.pickFB rfl rfl) (VL.op (R.pickTB rfl rfl) (VL.op (R.asB rfl) (VL.nil (V.ret (fret1 (v := .bool _) rfl rfl rfl (⟨?_, e1_1⟩))))))))))))))))))))))))) (fun g1_11 => VL.gF rfl rfl (VL.gF rfl rfl (VL.gF rfl rfl (VL.gF rfl rfl (VL.gF rfl rfl (VL.gF rfl rfl (VL.gF rfl rfl (VL.gT rfl rfl (VL.op (R.pickFB rfl rfl) (VL.gT rfl rfl (VL.op (R.pickFB rfl rfl) (VL.op (R.pickTB rfl rfl) (VL.op (R.asB rfl) (VL.nil (V.ret (fret1 (v := .bool _) rfl rfl rfl (⟨?_, e1_1⟩)))))))))))))))))))))))))))))))))))))))))))
   ·refine congrArg Value.bool ?_
    rw [Bool.eq_iff_iff, decide_eq_true_eq, setB_iff, inc_ends hi, show ((l.length : Int) - 1).toNat = l.length - 1 by omega]
    exact ⟨fun h => ⟨hi, .inr ⟨by omega, h⟩⟩, fun h => (h.2.resolve_left h0).2⟩
   ·refine congrArg Value.bool (Bool.eq_false_iff.2 fun h => ?_).symm
    have := ((inc_ends hi).1 (setB_iff.1 h).2).resolve_left h0
    omega
 ·refine V.seq (V.region (VL.op (R.asB rfl) (VL.nil (V.seq (V.region (VL.op (R.mvS rfl) (VL.callP Tryz.call27 rfl ((by have := hset _ (Vc.Mod.refl _ _); rwa [decide_eq_false hi] at this)) fun w1_1 e1_1 => VL.op (R.mvB rfl) (VL.gF rfl rfl (VL.gF rfl rfl (VL.gF rfl rfl (VL.gF rfl rfl (VL.gU rfl rfl (VL.gU rfl rfl (VL.gU rfl rfl (VL.gU rfl rfl (VL.gU rfl rfl (VL.gU rfl rfl (VL.gU rfl rfl (VL.gU rfl rfl (VL.gU rfl rfl (VL.gU rfl rfl (VL.gU rfl rfl (VL.gU rfl rfl (VL.gU rfl rfl (VL.gU rfl rfl (VL.gF rfl rfl (VL.op (R.pickFB rfl rfl) (VL.op (R.asB rfl) (VL.nil (V.ret (fret1 (v := .bool _) rfl rfl rfl (⟨?_, e1_1⟩))))))))))))))))))))))))))))))))
  rw [Bool.eq_false_iff.2 fun h => hi (setB_iff.1 h).1]
end Go.Proofs.YtmglkjigmcikdaaGreatDoor

/- Proof: a way holds. -/
namespace Go.Proofs.YtmglkjigmcikdaaGreatDoor
open Go.Vc
set_option maxRecDepth 100000
set_option maxHeartbeats 16000000
theorem has_spec (a : Option Addr) (c : Nat) (l : List Int) (x : Int) (w : World) (hl : l.length ≤ 1000000) (hi : Inc l) (hS : IntSl w a l) :
  RetsP Tryz.prog 30 #[.slice a l.length c, .int .i64 x] w (.bool (decide (x ∈ l))) := by
 refine enter (args := [_, _]) Tryz.func30 rfl Tryz.ntmps30 (by kernel_rfl) rfl ?_
 refine V.seq (V.region (VL.op (R.asB rfl) (VL.nil (V.seq (V.region (VL.op (R.mvS rfl) (VL.op (R.mvI rfl) (VL.callX Tryz.call52 rfl (bin_spec a c l x _ hl hi hS) fun i w1 h1 e1 => VL.op (R.mvT rfl) (VL.op (R.extr rfl rfl) (VL.op (R.extr rfl rfl) (VL.op (R.asI rfl) (VL.op (R.asB rfl) (VL.nil (V.seq (V.region (VL.op (R.mvB rfl) (VL.op (R.asB rfl) (VL.nil (V.ret (fret1 (v := .bool _) rfl rfl rfl (⟨?_, e1⟩)))))))))))))))))))))
 exact congrArg Value.bool (decide_eq_decide.2 (h1.mem hi).symm)
abbrev SlB (w : World) (b : Nat) (x : SlI) : Prop := Blk w b (.cells #[.slice x.a x.l.length x.c] 22 (0, 0))
def HlS (b : Nat) (x : SlI) (w : World) : Prop := SlB w b x ∧ IntSl w x.a x.l
theorem HlS.ext {b : Nat} {x : SlI} {w w' : World} (h : HlS b x w) (e : Ext w w') : HlS b x w' := ⟨h.1.ext e, h.2.ext e⟩
theorem holds1_spec (b : Nat) (s : SlI) (x : Int) (w : World) (hs : HlS b s w) (hl : s.l.length ≤ 1000000) (hi : Inc s.l) :
  RetsP Tryz.prog 29 #[.int .i64 x, .pointer (some ⟨b, 0, none⟩)] w (.bool (!decide (x ∈ s.l))) := by
 refine enter (args := [_, _]) Tryz.func29 rfl Tryz.ntmps29 (by kernel_rfl) rfl ?_
 refine V.seq (V.region (VL.op (R.asB rfl) (VL.nil (V.seq (V.region (VL.op (R.ld1 Tryz.isAgg22 rfl ((show w.cell? ⟨b, 0, none⟩ = some (Value.slice s.a s.l.length s.c) from hs.1.cell 0))) (VL.op (R.mvI rfl) (VL.callP Tryz.call30 rfl (has_spec s.a s.c s.l x _ hl hi hs.2) fun w1_2 e1_2 => VL.op (R.not rfl) (VL.op (R.asB rfl) (VL.nil (V.ret (fret1 (v := .bool _) rfl rfl rfl (⟨rfl, e1_2⟩)))))))))))))
theorem holds2_spec (b : Nat) (s : SlI) (x : Int) (w : World) (hs : HlS b s w) (hl : s.l.length ≤ 1000000) (hi : Inc s.l) :
  RetsP Tryz.prog 31 #[.int .i64 x, .pointer (some ⟨b, 0, none⟩)] w (.bool (decide (x ∈ s.l))) := by
 refine enter (args := [_, _]) Tryz.func31 rfl Tryz.ntmps31 (by kernel_rfl) rfl ?_
 refine V.seq (V.region (VL.op (R.asB rfl) (VL.nil (V.seq (V.region (VL.op (R.ld1 Tryz.isAgg22 rfl ((show w.cell? ⟨b, 0, none⟩ = some (Value.slice s.a s.l.length s.c) from hs.1.cell 0))) (VL.op (R.mvI rfl) (VL.callP Tryz.call30 rfl (has_spec s.a s.c s.l x _ hl hi hs.2) fun w1_2 e1_2 => VL.op (R.asB rfl) (VL.nil (V.ret (fret1 (v := .bool _) rfl rfl rfl (⟨rfl, e1_2⟩))))))))))))
def holdP (S : List Int) (w : Wy) : Bool := decide (Inc w.pos ∧ Inc w.neg ∧ Inc S) && holdW S w
theorem holds30_spec (x : WyI) (a : Option Addr) (c : Nat) (S : List Int) (w : World) (hx : WyOk w x) (hl : WLen x) (hS : IntSl w a S) (hm : S.length ≤ 1000000) :
  RetsP Tryz.prog 12 #[.agg (encWy x).toArray, .slice a S.length c] w (.bool (holdP S (wyV x))) := by
 have hlp := hl.p
 have hln := hl.n
 refine enter (args := [_, _]) Tryz.func12 rfl Tryz.ntmps12 (by kernel_rfl) rfl ?_
 refine V.seq (V.region (VL.box (v := .agg _) rfl fun b0_0 w0_0 hb0_0 e0_0 hB0_0 => VL.box (v := .slice _ _ _) rfl fun b0_1 w0_1 hb0_1 e0_1 hB0_1 => VL.op (R.asB rfl) (VL.nil (V.seq (V.seq (V.region (VL.op (R.fld' (o := 0) Tryz.runUnderlying37 rfl rfl Tryz.sizeOf22 rfl rfl) (VL.op (R.ld1 Tryz.isAgg22 rfl (((hB0_0.ext e0_1).cell 0))) (VL.callP Tryz.call27 rfl (set30_spec x.p.a x.p.c x.p.l _ (by omega) (hx.p.ext (e0_0.trans e0_1))) fun w1_2 e1_2 => VL.op (R.not rfl) (VL.op (R.mvB rfl) (VL.or rfl rfl (fun g1_4 => VL.op (R.fld' (o := 1) Tryz.runUnderlying37 rfl rfl Tryz.sizeOf22 rfl rfl) (VL.gT rfl rfl (VL.op (R.ld1 Tryz.isAgg22 rfl (((hB0_0.ext (e0_1.trans e1_2)).cell 1))) (VL.gT rfl rfl (VL.callP Tryz.call27 rfl (set30_spec x.n.a x.n.c x.n.l _ (by omega) (hx.n.ext ((e0_0.trans e0_1).trans e1_2))) fun w1_7 e1_7 => VL.gT rfl rfl (VL.op (R.not rfl) (VL.op (R.pickFB rfl rfl) (VL.op (R.mvB rfl) (VL.or rfl rfl (fun g1_10 => VL.op (R.ld1 Tryz.isAgg22 rfl (((hB0_1.ext (e1_2.trans e1_7)).cell 0))) (VL.gT rfl rfl (VL.callP Tryz.call27 rfl (set30_spec a c S _ (by omega) (hS.ext (((e0_0.trans e0_1).trans e1_2).trans e1_7))) fun w1_12 e1_12 => VL.gT rfl rfl (VL.op (R.not rfl) (VL.op (R.pickFB rfl rfl) (VL.nil (V.cond rfl (fun c19 => V.seq (V.region (VL.op (R.asB rfl) (VL.nil (V.ret (fret1 (v := .bool _) rfl rfl rfl (⟨?_, ((((e0_0.trans e0_1).trans e1_2).trans e1_7).trans e1_12)⟩))))))) (fun c19 => V.skip (V.seq (?_)))))))))) (fun g1_10 => VL.gF rfl rfl (VL.gF rfl rfl (VL.op (R.pickTB rfl rfl) (VL.nil (V.condT rfl (V.seq (V.region (VL.op (R.asB rfl) (VL.nil (V.ret (fret1 (v := .bool _) rfl rfl rfl (⟨?_, (((e0_0.trans e0_1).trans e1_2).trans e1_7)⟩))))))))))))))))))))) (fun g1_4 => VL.gF rfl rfl (VL.gF rfl rfl (VL.gF rfl rfl (VL.op (R.pickTB rfl rfl) (VL.op (R.mvB rfl) (VL.gF rfl rfl (VL.gF rfl rfl (VL.gF rfl rfl (VL.op (R.pickTB rfl rfl) (VL.nil (V.condT rfl (V.seq (V.region (VL.op (R.asB rfl) (VL.nil (V.ret (fret1 (v := .bool _) rfl rfl rfl (⟨?_, ((e0_0.trans e0_1).trans e1_2)⟩)))))))))))))))))))))))))))))
 ·have h : ¬ Inc S := by simpa using c19
  unfold holdP
  rw [decide_eq_false fun hh => h hh.2.2]; rfl
 ·have h1 : Inc x.p.l := by simpa using g1_4
  have h2 : Inc x.n.l := by simpa using g1_10
  have h3 : Inc S := by simpa using c19
  have E1 : Ext w w1_12 := (e0_0.trans e0_1).trans (e1_2.trans (e1_7.trans e1_12))
  have hX : Blk w1_12 b0_0 (.cells (Value.agg (encWy x).toArray).cells 37 (0, 0)) := hB0_0.ext (e0_1.trans (e1_2.trans (e1_7.trans e1_12)))
  have hH : HlS b0_1 ⟨a, c, S⟩ w1_12 := ⟨hB0_1.ext (e1_2.trans (e1_7.trans e1_12)), hS.ext E1⟩
  have hv : holdP S (wyV x) = (!(x.p.l.any fun v => !decide (v ∈ S)) && !(x.n.l.any fun v => decide (v ∈ S))) := by
   unfold holdP
   rw [decide_eq_true ⟨h1, h2, h3⟩, Bool.true_and, Bool.eq_iff_iff, holdW_iff]
   simp only [Bool.and_eq_true, Bool.not_eq_true', List.any_eq_false, wyV]
   simp
  refine V.region (VL.op (R.fld' (o := 0) Tryz.runUnderlying37 rfl rfl Tryz.sizeOf22 rfl rfl) (VL.op (R.ld1 Tryz.isAgg22 rfl ((hX.cell 0))) (VL.op (R.mkFn rfl rfl) (VL.callP Tryz.call28 rfl (containsI_spec 29 [] [.pointer (some ⟨b0_1, 0, none⟩)] (fun v => !decide (v ∈ S)) (HlS b0_1 ⟨a, c, S⟩) x.p.a x.p.c x.p.l w1_12 Tryz.call29 (fun w v h => holds1_spec b0_1 ⟨a, c, S⟩ v w h hm h3) (fun w w' h e => h.ext e) hH (hx.p.ext E1) hlp) fun w3_3 e3_3 => VL.op (R.not rfl) (VL.op (R.mvB rfl) (VL.and rfl rfl (fun g3_5 => VL.op (R.fld' (o := 1) Tryz.runUnderlying37 rfl rfl Tryz.sizeOf22 rfl rfl) (VL.gT rfl rfl (VL.op (R.ld1 Tryz.isAgg22 rfl (((hX.ext e3_3).cell 1))) (VL.gT rfl rfl (VL.op (R.mkFn rfl rfl) (VL.gT rfl rfl (VL.callP Tryz.call28 rfl (containsI_spec 31 [] [.pointer (some ⟨b0_1, 0, none⟩)] (fun v => decide (v ∈ S)) (HlS b0_1 ⟨a, c, S⟩) x.n.a x.n.c x.n.l w3_3 Tryz.call31 (fun w v h => holds2_spec b0_1 ⟨a, c, S⟩ v w h hm h3) (fun w w' h e => h.ext e) (hH.ext e3_3) (hx.n.ext (E1.trans e3_3)) hln) fun w3_9 e3_9 => VL.gT rfl rfl (VL.op (R.not rfl) (VL.op (R.pickTB rfl rfl) (VL.op (R.asB rfl) (VL.nil (V.ret (fret1 (v := .bool _) rfl rfl rfl (⟨?_, E1.trans (e3_3.trans e3_9)⟩)))))))))))))) (fun g3_5 => VL.gF rfl rfl (VL.gF rfl rfl (VL.gF rfl rfl (VL.gF rfl rfl (VL.op (R.pickFB rfl rfl) (VL.op (R.asB rfl) (VL.nil (V.ret (fret1 (v := .bool _) rfl rfl rfl (⟨?_, E1.trans e3_3⟩))))))))))))))))
  ·rw [hv, ‹(!x.p.l.any fun v => !decide (v ∈ S)) = true›]; rfl
  ·rw [hv, ‹(!x.p.l.any fun v => !decide (v ∈ S)) = false›]; rfl
 ·have h : ¬ Inc x.n.l := by simpa using g1_10
  unfold holdP
  rw [decide_eq_false fun hh => h hh.2.1]; rfl
 ·have h : ¬ Inc x.p.l := by simpa using g1_4
  unfold holdP
  rw [decide_eq_false fun hh => h hh.1]; rfl
end Go.Proofs.YtmglkjigmcikdaaGreatDoor

/- Proof: the checker as it lies; decisions of lists of vertices. -/
namespace Go.Proofs.YtmglkjigmcikdaaGreatDoor
open Go.Vc
set_option maxRecDepth 100000
set_option maxHeartbeats 16000000
theorem rangeG30 (F : Int → Bool) (l : List Int) : ((List.range l.length).any fun k => F (l.getD k default)) = l.any F := by
 rw [Bool.eq_iff_iff, List.any_eq_true, List.any_eq_true]
 constructor
 ·rintro ⟨k, hk, h⟩
  exact ⟨_, gmem (List.mem_range.1 hk), h⟩
 ·rintro ⟨x, hx, h⟩
  obtain ⟨i, hi, rfl⟩ := List.getElem_of_mem hx
  exact ⟨i, List.mem_range.2 hi, by rw [gget hi]; exact h⟩
theorem containsM30 (g : FuncId) (Fv Cv : List Value) (F : Int → Bool) (S : World → Prop) (a : Option Addr) (c : Nat) (l : List Int) (w : World) (hfn : IsFn Tryz.prog g) (hdo : ∀ w x, S w → x ∈ l → RetsP Tryz.prog g (Fv ++ [Value.int .i64 x] ++ Cv).toArray w (.bool (F x)))
  (hSe : ∀ w w', S w → Ext w w' → S w') (h0 : S w) (hL : IntSl w a l) (hm : l.length ≤ 1000000) :
  RetsP Tryz.prog 28 #[.slice a l.length c, .func (.func g) Fv.toArray Cv.toArray] w (.bool (l.any F)) := by
 refine (containsK g Fv Cv (fun k => F (l.getD k default)) (fun _ w' => S w' ∧ Ext w w') a c l w hfn (fun k w' hk h => (hdo w' _ h.1 (gmem hk)).mono fun u w2 ⟨hu, e⟩ => ⟨(), hu, hSe _ _ h.1 e, h.2.trans e⟩) (fun _ w' h => hL.ext h.2) ⟨h0, Vc.Mod.refl _ _⟩ hm).mono fun u w2 ⟨_, hu, k, _, e⟩ => ⟨?_, e⟩
 rw [hu]
 show Value.bool _ = Value.bool _
 rw [rangeG30]
def encS4 (x : St4) : List Value := [.int .i64 x.k, .int .i64 x.a, .int .i64 x.i, .int .i64 x.o]
structure CkX where
 p : Nat
 g : GrW
 wa : Option Addr
 wc : Nat
 W : List WyI
 h : Bool
 sa : Option Addr
 sc : Nat
 S : List St4
 zb : Nat
 z : List SlI
 tb : Nat
 nb : Nat
 mr : Nat
def encCk (x : CkX) (n m : Nat) : List Value := [.int .i64 x.g.n, .slice x.g.ca x.g.cost.length x.g.cc, .slice x.g.ea x.g.edges.length x.g.ec, .slice x.wa x.W.length x.wc, .bool x.h, .slice x.sa x.S.length x.sc, .slice (some ⟨x.zb, 0, none⟩) x.z.length x.z.length, .slice (some ⟨x.tb, 0, none⟩) n n, .slice (some ⟨x.nb, 0, none⟩) m m, .map (some x.mr)]
def kindsL : List (Int × Value) := [(1, .func (.func 56) #[] #[]), (2, .func (.func 57) #[] #[]), (3, .func (.func 58) #[] #[]), (4, .func (.func 59) #[] #[]), (5, .func (.func 60) #[] #[])]
def CkX.Fx (x : CkX) (q : Nat) : Prop := q = x.zb ∨ (∃ y ∈ x.z, aBlk y.a q) ∨ q = x.p ∨ q = x.mr
def CkX.TN (x : CkX) (q : Nat) : Prop := q = x.tb ∨ q = x.nb
structure CkOk (x : CkX) (w : World) (st : List Int) (sn : List Bool) : Prop where
 blk : Blk w x.p (.cells (Value.agg (encCk x st.length sn.length).toArray).cells 80 (0, 0))
 base : ∃ w0, Ext w0 w ∧ (∀ q, x.TN q → w0.heap.size ≤ q) ∧ GOk w0 x.g ∧ WL w0 x.wa x.W ∧ TSl encS4 4 w0 x.sa x.S
 z : LL w (some ⟨x.zb, 0, none⟩) x.z
 t : OwnT Vc.encI 1 3 0 w (some ⟨x.tb, 0, none⟩) st.length st
 n : OwnT encBo 1 4 0 w (some ⟨x.nb, 0, none⟩) sn.length sn
 k : MapIs w x.mr kI kindsL
 sep : ∀ q, x.Fx q → ¬ x.TN q
 tn : x.tb ≠ x.nb
theorem CkOk.g {x : CkX} {w : World} {st : List Int} {sn : List Bool} (h : CkOk x w st sn) : GOk w x.g := by
 obtain ⟨w0, e, _, h1, _⟩ := h.base
 exact h1.ext e
theorem CkOk.W {x : CkX} {w : World} {st : List Int} {sn : List Bool} (h : CkOk x w st sn) : WL w x.wa x.W := by
 obtain ⟨w0, e, _, _, h1, _⟩ := h.base
 exact h1.ext e
theorem CkOk.s {x : CkX} {w : World} {st : List Int} {sn : List Bool} (h : CkOk x w st sn) : TSl encS4 4 w x.sa x.S := by
 obtain ⟨w0, e, _, _, _, h1⟩ := h.base
 exact h1.ext e
theorem CkOk.ext {x : CkX} {w w' : World} {st : List Int} {sn : List Bool} (h : CkOk x w st sn) (e : Ext w w') : CkOk x w' st sn := by
 obtain ⟨w0, e0, h1⟩ := h.base
 exact ⟨h.blk.ext e, ⟨w0, e0.trans e, h1⟩, h.z.ext e, h.t.ext e, h.n.ext e, h.k.ext e, h.sep, h.tn⟩
theorem LL.mod30 {w w' : World} {a : Option Addr} {L : List SlI} {S : Nat → Prop} (h : LL w a L) (m : Vc.Mod S w w') (h1 : ∀ q, aBlk a q → ¬ S q) (h2 : ∀ y ∈ L, ∀ q, aBlk y.a q → ¬ S q) : LL w' a L :=
 ⟨h.sl.mod m fun ad e => h1 _ ⟨ad, e, rfl⟩, fun y hy => (h.each y hy).mod m fun ad e => h2 y hy _ ⟨ad, e, rfl⟩⟩
theorem CkOk.turn {x : CkX} {w w' : World} {st st' : List Int} {sn sn' : List Bool} (h : CkOk x w st sn) (m : Vc.Mod x.TN w w') (ht : OwnT Vc.encI 1 3 0 w' (some ⟨x.tb, 0, none⟩) st.length st') (hn : OwnT encBo 1 4 0 w' (some ⟨x.nb, 0, none⟩) sn.length sn') (hl : st'.length = st.length) (hm : sn'.length = sn.length) : CkOk x w' st' sn' := by
 have s := h.sep
 have k : ∀ q, x.Fx q → ¬ x.TN q := s
 obtain ⟨w0, e0, hT, h1⟩ := h.base
 refine ⟨?_, ⟨w0, e0.ownA m hT, hT, h1⟩, ?_, by rw [hl]; exact ht, by rw [hm]; exact hn, ?_, s, h.tn⟩
 ·rw [hl, hm]
  exact h.blk.mod m (k _ (by unfold CkX.Fx; simp))
 ·exact h.z.mod30 m (fun q hq => k q (by have := aBlk_some hq; subst this; unfold CkX.Fx; simp)) fun y hy q hq => k q (.inr (.inl ⟨y, hy, hq⟩))
 ·exact h.k.mod m (k _ (by unfold CkX.Fx; simp))
abbrev PtC (w : World) (b : Nat) (x : CkX) : Prop := Blk w b (.cells #[.pointer (some ⟨x.p, 0, none⟩)] 61 (0, 0))
abbrev NuB (w : World) (b : Nat) (k : Int) : Prop := Blk w b (.cells #[.int .i64 k] 3 (0, 0))
def ArS (x : CkX) (st : List Int) (sn : List Bool) (b1 b2 : Nat) (k : Int) (w : World) : Prop := CkOk x w st sn ∧ PtC w b1 x ∧ NuB w b2 k
theorem ArS.ext {x : CkX} {st : List Int} {sn : List Bool} {b1 b2 : Nat} {k : Int} {w w' : World} (h : ArS x st sn b1 b2 k w) (e : Ext w w') : ArS x st sn b1 b2 k w' := ⟨h.1.ext e, h.2.1.ext e, h.2.2.ext e⟩
theorem are1_spec (x : CkX) (st : List Int) (sn : List Bool) (b1 b2 : Nat) (k v : Int) (w : World) (h : ArS x st sn b1 b2 k w) (h0 : 0 ≤ v) (h1 : v < (st.length : Int)) :
  RetsP Tryz.prog 97 #[.int .i64 v, .pointer (some ⟨b1, 0, none⟩), .pointer (some ⟨b2, 0, none⟩)] w (.bool (!decide (stA st v = k))) := by
 refine enter (args := [_, _, _]) Tryz.func97 rfl Tryz.ntmps97 (by kernel_rfl) rfl ?_
 refine V.seq (V.region (VL.op (R.asB rfl) (VL.nil (V.seq (V.regionQ mixed 10 (by kernel_rfl) rfl (fun w' => Ext _ w') (Ext.drawn _) (VQ.op (fun wq eq => R.ld1 Tryz.isAgg61 rfl ((show wq.cell? ⟨b1, 0, none⟩ = some (Value.pointer (some ⟨x.p, 0, none⟩)) from (h.2.1.ext eq).cell 0))) (VQ.op (fun wq eq => R.nilCheck rfl) (VQ.op (fun wq eq => R.fld' (o := 7) Tryz.runUnderlying80 rfl rfl Tryz.sizeOf22 rfl rfl) (VQ.op (fun wq eq => R.ld1 Tryz.isAgg22 rfl ((show wq.cell? ⟨x.p, 7, none⟩ = some (Value.slice (some ⟨x.tb, 0, none⟩) st.length st.length) from (h.1.blk.ext eq).cell 7))) (VQ.op (fun wq eq => R.mvI rfl) (VQ.op (fun wq eq => R.ixS Tryz.runUnderlying22 Tryz.sizeOf3 rfl rfl (by omega) (by omega) (h.1.t.sl.some (i := v.toNat) (by omega))) (VQ.op (fun wq eq => R.ld1 Tryz.isAgg3 rfl ((((h.1.t.sl.ext eq).row (i := v.toNat) (by omega)).cell (i := 0) rfl))) (VQ.op (fun wq eq => R.ld1 Tryz.isAgg3 rfl ((show wq.cell? ⟨b2, 0, none⟩ = some (Value.int .i64 k) from (h.2.2.ext eq).cell 0))) (VQ.op (fun wq eq => R.neq rfl rfl) (VQ.op (fun wq eq => R.asB rfl) (VQ.nil fun w1q e1q => VL.nil (V.ret (fret1 (v := .bool _) rfl rfl rfl (⟨?_, e1q⟩)))))))))))))))))))
 refine congrArg Value.bool ?_
 rw [← decide_not]
 exact decide_eq_decide.2 Iff.rfl
theorem some1_spec (x : CkX) (st : List Int) (sn : List Bool) (b1 b2 : Nat) (k v : Int) (w : World) (h : ArS x st sn b1 b2 k w) (h0 : 0 ≤ v) (h1 : v < (st.length : Int)) :
  RetsP Tryz.prog 98 #[.int .i64 v, .pointer (some ⟨b1, 0, none⟩), .pointer (some ⟨b2, 0, none⟩)] w (.bool (decide (stA st v = k))) := by
 refine enter (args := [_, _, _]) Tryz.func98 rfl Tryz.ntmps98 (by kernel_rfl) rfl ?_
 refine V.seq (V.region (VL.op (R.asB rfl) (VL.nil (V.seq (V.regionQ mixed 10 (by kernel_rfl) rfl (fun w' => Ext _ w') (Ext.drawn _) (VQ.op (fun wq eq => R.ld1 Tryz.isAgg61 rfl ((show wq.cell? ⟨b1, 0, none⟩ = some (Value.pointer (some ⟨x.p, 0, none⟩)) from (h.2.1.ext eq).cell 0))) (VQ.op (fun wq eq => R.nilCheck rfl) (VQ.op (fun wq eq => R.fld' (o := 7) Tryz.runUnderlying80 rfl rfl Tryz.sizeOf22 rfl rfl) (VQ.op (fun wq eq => R.ld1 Tryz.isAgg22 rfl ((show wq.cell? ⟨x.p, 7, none⟩ = some (Value.slice (some ⟨x.tb, 0, none⟩) st.length st.length) from (h.1.blk.ext eq).cell 7))) (VQ.op (fun wq eq => R.mvI rfl) (VQ.op (fun wq eq => R.ixS Tryz.runUnderlying22 Tryz.sizeOf3 rfl rfl (by omega) (by omega) (h.1.t.sl.some (i := v.toNat) (by omega))) (VQ.op (fun wq eq => R.ld1 Tryz.isAgg3 rfl ((((h.1.t.sl.ext eq).row (i := v.toNat) (by omega)).cell (i := 0) rfl))) (VQ.op (fun wq eq => R.ld1 Tryz.isAgg3 rfl ((show wq.cell? ⟨b2, 0, none⟩ = some (Value.int .i64 k) from (h.2.2.ext eq).cell 0))) (VQ.op (fun wq eq => R.eql rfl rfl) (VQ.op (fun wq eq => R.asB rfl) (VQ.nil fun w1q e1q => VL.nil (V.ret (fret1 (v := .bool _) rfl rfl rfl (⟨rfl, e1q⟩)))))))))))))))))))
theorem are_spec (x : CkX) (st : List Int) (sn : List Bool) (a : Option Addr) (c : Nat) (l : List Int) (k : Int) (w : World) (h : CkOk x w st sn) (hl : IntSl w a l) (hm : l.length ≤ 1000000) (hr : ∀ v ∈ l, 0 ≤ v ∧ v < (st.length : Int)) :
  RetsP Tryz.prog 81 #[.pointer (some ⟨x.p, 0, none⟩), .slice a l.length c, .int .i64 k] w (.bool (areA st l k)) := by
 refine enter (args := [_, _, _]) Tryz.func81 rfl Tryz.ntmps81 (by kernel_rfl) rfl ?_
 refine V.seq (V.region (VL.box (v := .pointer _) rfl fun b0_0 w0_0 hb0_0 e0_0 hB0_0 => VL.box (v := .int _ _) rfl fun b0_1 w0_1 hb0_1 e0_1 hB0_1 => VL.op (R.asB rfl) (VL.nil (V.seq (V.region (VL.op (R.mvS rfl) (VL.op (R.mkFn rfl rfl) (VL.callP Tryz.call28 rfl (containsM30 97 [] [.pointer (some ⟨b0_0, 0, none⟩), .pointer (some ⟨b0_1, 0, none⟩)] (fun v => !decide (stA st v = k)) (ArS x st sn b0_0 b0_1 k) a c l _ Tryz.call97 (fun w v h hv => are1_spec x st sn b0_0 b0_1 k v w h (hr v hv).1 (hr v hv).2) (fun w w' h e => h.ext e) ⟨h.ext (e0_0.trans e0_1), hB0_0.ext e0_1, hB0_1⟩ (hl.ext (e0_0.trans e0_1)) hm) fun w1_2 e1_2 => VL.op (R.not rfl) (VL.op (R.asB rfl) (VL.nil (V.ret (fret1 (v := .bool _) rfl rfl rfl (⟨?_, ((e0_0.trans e0_1).trans e1_2)⟩)))))))))))))
 refine congrArg Value.bool ?_
 unfold areA
 rw [Bool.eq_iff_iff]
 simp
theorem some_spec (x : CkX) (st : List Int) (sn : List Bool) (a : Option Addr) (c : Nat) (l : List Int) (k : Int) (w : World) (h : CkOk x w st sn) (hl : IntSl w a l) (hm : l.length ≤ 1000000) (hr : ∀ v ∈ l, 0 ≤ v ∧ v < (st.length : Int)) :
  RetsP Tryz.prog 85 #[.pointer (some ⟨x.p, 0, none⟩), .slice a l.length c, .int .i64 k] w (.bool (somA st l k)) := by
 refine enter (args := [_, _, _]) Tryz.func85 rfl Tryz.ntmps85 (by kernel_rfl) rfl ?_
 refine V.seq (V.region (VL.box (v := .pointer _) rfl fun b0_0 w0_0 hb0_0 e0_0 hB0_0 => VL.box (v := .int _ _) rfl fun b0_1 w0_1 hb0_1 e0_1 hB0_1 => VL.op (R.asB rfl) (VL.nil (V.seq (V.region (VL.op (R.mvS rfl) (VL.op (R.mkFn rfl rfl) (VL.callP Tryz.call28 rfl (containsM30 98 [] [.pointer (some ⟨b0_0, 0, none⟩), .pointer (some ⟨b0_1, 0, none⟩)] (fun v => decide (stA st v = k)) (ArS x st sn b0_0 b0_1 k) a c l _ Tryz.call98 (fun w v h hv => some1_spec x st sn b0_0 b0_1 k v w h (hr v hv).1 (hr v hv).2) (fun w w' h e => h.ext e) ⟨h.ext (e0_0.trans e0_1), hB0_0.ext e0_1, hB0_1⟩ (hl.ext (e0_0.trans e0_1)) hm) fun w1_2 e1_2 => VL.op (R.asB rfl) (VL.nil (V.ret (fret1 (v := .bool _) rfl rfl rfl (⟨rfl, ((e0_0.trans e0_1).trans e1_2)⟩))))))))))))
end Go.Proofs.YtmglkjigmcikdaaGreatDoor

/- Proof: the leaves of a proof. -/
namespace Go.Proofs.YtmglkjigmcikdaaGreatDoor
open Go.Vc
set_option maxRecDepth 100000
set_option maxHeartbeats 16000000
def CkX.ctx (x : CkX) : PrfC := ⟨x.g.n, vals x.g.edges, x.W.map wyV, x.h, x.S⟩
structure CkR (x : CkX) (N : Nat) : Prop where
 n : x.g.n = (N : Int)
 N4 : N ≤ 4000
 E : ∀ e ∈ vals x.g.edges, ∀ v ∈ e, 0 ≤ v ∧ v < (N : Int)
 El : x.g.edges.length ≤ 20000
 el : ∀ e ∈ vals x.g.edges, e.length ≤ 1000000
 W : ∀ y ∈ x.W, (∀ v ∈ y.p.l, 0 ≤ v ∧ v < (N : Int)) ∧ ∀ v ∈ y.n.l, 0 ≤ v ∧ v < (N : Int)
 Wl : x.W.length ≤ 400
 wl : ∀ y ∈ x.W, WLen y
 zl : x.z.length = N
 z : ∀ v : Nat, v < N → (x.z.getD v default).l = adjK (vals x.g.edges) x.g.edges.length ((v : Nat) : Int)
 Sl : x.S.length ≤ 100000
theorem CkR.edge {x : CkX} {N : Nat} (h : CkR x N) {i : Nat} (hi : i < x.g.edges.length) : (vals x.g.edges).getD i default = (x.g.edges.getD i default).l ∧ (∀ v ∈ (x.g.edges.getD i default).l, 0 ≤ v ∧ v < (N : Int)) ∧ (x.g.edges.getD i default).l.length ≤ 1000000 := by
 have hm : (x.g.edges.getD i default).l ∈ vals x.g.edges := List.mem_map_of_mem (gmem hi)
 exact ⟨gmap SlI.l x.g.edges default hi, h.E _ hm, h.el _ hm⟩
abbrev StB (w : World) (b : Nat) (s : St4) : Prop := Blk w b (.cells (Value.agg (encS4 s).toArray).cells 51 (0, 0))
theorem clash_spec (x : CkX) (N q : Nat) (s : St4) (st : List Int) (sn : List Bool) (w : World) (h : CkOk x w st sn) (hR : CkR x N) (hst : st.length = N) :
  RetsP Tryz.prog 57 #[.pointer (some ⟨x.p, 0, none⟩), .int .i64 (q : Nat), .agg (encS4 s).toArray] w (.bool (decide (0 ≤ s.a ∧ s.a < ((vals x.g.edges).length : Int)) && areA st ((vals x.g.edges).getD s.a.toNat default) 1)) := by
 have hlen : (vals x.g.edges).length = x.g.edges.length := List.length_map _
 have hEl := hR.El
 refine enter (args := [_, _, _]) Tryz.func57 rfl Tryz.ntmps57 (by kernel_rfl) rfl ?_
 refine V.seq (V.region (VL.box (v := .agg _) rfl fun b0_0 w0_0 hb0_0 e0_0 hB0_0 => VL.op (R.asB rfl) (VL.nil (V.seq (?_)))))
 have h0 := h.ext e0_0
 by_cases ha : 0 ≤ s.a
 ·by_cases hb : s.a < (x.g.edges.length : Int)
  ·have hil : s.a.toNat < x.g.edges.length := by omega
   obtain ⟨k1, k2, k3⟩ := hR.edge hil
   refine V.regionQ mixed 25 (by kernel_rfl) rfl (fun w' => Ext _ w') (Ext.drawn _) (VQ.op (fun wq eq => R.fld' (o := 1) Tryz.runUnderlying51 rfl rfl Tryz.sizeOf3 rfl rfl) (VQ.op (fun wq eq => R.ld1 Tryz.isAgg3 rfl ((show wq.cell? ⟨b0_0, 1, none⟩ = some (Value.int .i64 s.a) from (hB0_0.ext eq).cell 1))) (VQ.op (fun wq eq => R.lit (R.geq rfl rfl) ((decide_eq_true ha))) (VQ.op (fun wq eq => R.mvB rfl) (VQ.gT rfl rfl (VQ.op (fun wq eq => R.fld' (o := 1) Tryz.runUnderlying51 rfl rfl Tryz.sizeOf3 rfl rfl) (VQ.gT rfl rfl (VQ.op (fun wq eq => R.ld1 Tryz.isAgg3 rfl ((show wq.cell? ⟨b0_0, 1, none⟩ = some (Value.int .i64 s.a) from (hB0_0.ext eq).cell 1))) (VQ.gT rfl rfl (VQ.op (fun wq eq => R.mvP rfl) (VQ.gT rfl rfl (VQ.op (fun wq eq => R.nilCheck rfl) (VQ.gT rfl rfl (VQ.op (fun wq eq => R.fld' (o := 0) Tryz.runUnderlying80 rfl rfl Tryz.sizeOf25 rfl rfl) (VQ.gT rfl rfl (VQ.op (fun wq eq => R.fld' (o := 2) Tryz.runUnderlying25 rfl rfl Tryz.sizeOf23 rfl rfl) (VQ.gT rfl rfl (VQ.op (fun wq eq => R.ld1 Tryz.isAgg23 rfl ((show wq.cell? ⟨x.p, 2, none⟩ = some (Value.slice x.g.ea x.g.edges.length x.g.ec) from (h0.blk.ext eq).cell 2))) (VQ.gT rfl rfl (VQ.op (fun wq eq => R.lenS Tryz.runUnderlying23 rfl) (VQ.gT rfl rfl (VQ.op (fun wq eq => R.lit (R.lss rfl rfl) ((decide_eq_true hb))) (VQ.op (fun wq eq => R.pickTB rfl rfl) (VQ.op (fun wq eq => R.mvB rfl) (VQ.gT rfl rfl (VQ.op (fun wq eq => R.mvP rfl) (VQ.gT rfl rfl (VQ.op (fun wq eq => R.mvP rfl) (VQ.gT rfl rfl (VQ.op (fun wq eq => R.nilCheck rfl) (VQ.gT rfl rfl (VQ.op (fun wq eq => R.fld' (o := 0) Tryz.runUnderlying80 rfl rfl Tryz.sizeOf25 rfl rfl) (VQ.gT rfl rfl (VQ.op (fun wq eq => R.fld' (o := 2) Tryz.runUnderlying25 rfl rfl Tryz.sizeOf23 rfl rfl) (VQ.gT rfl rfl (VQ.op (fun wq eq => R.ld1 Tryz.isAgg23 rfl ((show wq.cell? ⟨x.p, 2, none⟩ = some (Value.slice x.g.ea x.g.edges.length x.g.ec) from (h0.blk.ext eq).cell 2))) (VQ.gT rfl rfl (VQ.op (fun wq eq => R.fld' (o := 1) Tryz.runUnderlying51 rfl rfl Tryz.sizeOf3 rfl rfl) (VQ.gT rfl rfl (VQ.op (fun wq eq => R.ld1 Tryz.isAgg3 rfl ((show wq.cell? ⟨b0_0, 1, none⟩ = some (Value.int .i64 s.a) from (hB0_0.ext eq).cell 1))) (VQ.gT rfl rfl (VQ.op (fun wq eq => R.ixS Tryz.runUnderlying23 Tryz.sizeOf22 rfl rfl (by omega) (by omega) (h0.g.e.sl.some (i := s.a.toNat) hil)) (VQ.gT rfl rfl (VQ.op (fun wq eq => R.ld1 Tryz.isAgg22 rfl ((((h0.g.e.sl.ext eq).row (i := s.a.toNat) hil).cell (i := 0) rfl))) (VQ.nil fun w1q e1q => VL.gT rfl rfl (VL.callP Tryz.call81 rfl (are_spec x st sn (x.g.edges.getD s.a.toNat default).a (x.g.edges.getD s.a.toNat default).c (x.g.edges.getD s.a.toNat default).l 1 _ (h0.ext e1q) ((h0.g.e.ext e1q).at hil) k3 (by rw [hst]; exact k2)) fun w1_25 e1_25 => VL.op (R.pickTB rfl rfl) (VL.op (R.asB rfl) (VL.nil (V.ret (fret1 (v := .bool _) rfl rfl rfl (⟨?_, e0_0.trans (e1q.trans e1_25)⟩)))))))))))))))))))))))))))))))))))))))))))))))))))
   rw [decide_eq_true ⟨ha, by omega⟩, k1]; rfl
  ·refine V.regionQ mixed 25 (by kernel_rfl) rfl (fun w' => Ext _ w') (Ext.drawn _) (VQ.op (fun wq eq => R.fld' (o := 1) Tryz.runUnderlying51 rfl rfl Tryz.sizeOf3 rfl rfl) (VQ.op (fun wq eq => R.ld1 Tryz.isAgg3 rfl ((show wq.cell? ⟨b0_0, 1, none⟩ = some (Value.int .i64 s.a) from (hB0_0.ext eq).cell 1))) (VQ.op (fun wq eq => R.lit (R.geq rfl rfl) ((decide_eq_true ha))) (VQ.op (fun wq eq => R.mvB rfl) (VQ.gT rfl rfl (VQ.op (fun wq eq => R.fld' (o := 1) Tryz.runUnderlying51 rfl rfl Tryz.sizeOf3 rfl rfl) (VQ.gT rfl rfl (VQ.op (fun wq eq => R.ld1 Tryz.isAgg3 rfl ((show wq.cell? ⟨b0_0, 1, none⟩ = some (Value.int .i64 s.a) from (hB0_0.ext eq).cell 1))) (VQ.gT rfl rfl (VQ.op (fun wq eq => R.mvP rfl) (VQ.gT rfl rfl (VQ.op (fun wq eq => R.nilCheck rfl) (VQ.gT rfl rfl (VQ.op (fun wq eq => R.fld' (o := 0) Tryz.runUnderlying80 rfl rfl Tryz.sizeOf25 rfl rfl) (VQ.gT rfl rfl (VQ.op (fun wq eq => R.fld' (o := 2) Tryz.runUnderlying25 rfl rfl Tryz.sizeOf23 rfl rfl) (VQ.gT rfl rfl (VQ.op (fun wq eq => R.ld1 Tryz.isAgg23 rfl ((show wq.cell? ⟨x.p, 2, none⟩ = some (Value.slice x.g.ea x.g.edges.length x.g.ec) from (h0.blk.ext eq).cell 2))) (VQ.gT rfl rfl (VQ.op (fun wq eq => R.lenS Tryz.runUnderlying23 rfl) (VQ.gT rfl rfl (VQ.op (fun wq eq => R.lit (R.lss rfl rfl) ((decide_eq_false hb))) (VQ.op (fun wq eq => R.pickTB rfl rfl) (VQ.op (fun wq eq => R.mvB rfl) (VQ.gF rfl rfl (VQ.gF rfl rfl (VQ.gF rfl rfl (VQ.gF rfl rfl (VQ.gF rfl rfl (VQ.gF rfl rfl (VQ.gF rfl rfl (VQ.gF rfl rfl (VQ.gF rfl rfl (VQ.gF rfl rfl (VQ.nil fun w1q e1q => VL.gF rfl rfl (VL.op (R.pickFB rfl rfl) (VL.op (R.asB rfl) (VL.nil (V.ret (fret1 (v := .bool _) rfl rfl rfl (⟨?_, e0_0.trans e1q⟩)))))))))))))))))))))))))))))))))))))))))
   rw [decide_eq_false (by omega)]; rfl
 ·refine V.regionQ mixed 25 (by kernel_rfl) rfl (fun w' => Ext _ w') (Ext.drawn _) (VQ.op (fun wq eq => R.fld' (o := 1) Tryz.runUnderlying51 rfl rfl Tryz.sizeOf3 rfl rfl) (VQ.op (fun wq eq => R.ld1 Tryz.isAgg3 rfl ((show wq.cell? ⟨b0_0, 1, none⟩ = some (Value.int .i64 s.a) from (hB0_0.ext eq).cell 1))) (VQ.op (fun wq eq => R.lit (R.geq rfl rfl) ((decide_eq_false (by omega)))) (VQ.op (fun wq eq => R.mvB rfl) (VQ.gF rfl rfl (VQ.gF rfl rfl (VQ.gF rfl rfl (VQ.gF rfl rfl (VQ.gF rfl rfl (VQ.gF rfl rfl (VQ.gF rfl rfl (VQ.gF rfl rfl (VQ.gF rfl rfl (VQ.op (fun wq eq => R.pickFB rfl rfl) (VQ.op (fun wq eq => R.mvB rfl) (VQ.gF rfl rfl (VQ.gF rfl rfl (VQ.gF rfl rfl (VQ.gF rfl rfl (VQ.gF rfl rfl (VQ.gF rfl rfl (VQ.gF rfl rfl (VQ.gF rfl rfl (VQ.gF rfl rfl (VQ.gF rfl rfl (VQ.nil fun w1q e1q => VL.gF rfl rfl (VL.op (R.pickFB rfl rfl) (VL.op (R.asB rfl) (VL.nil (V.ret (fret1 (v := .bool _) rfl rfl rfl (⟨?_, e0_0.trans e1q⟩))))))))))))))))))))))))))))))))
  rw [decide_eq_false (by omega)]; rfl
theorem adjA30 (E : List (List Int)) (v : Int) (F : List Int → Bool) : ((adjK E E.length v).any fun x => F (E.getD x.toNat default)) = E.any fun e => decide (v ∈ e) && F e := by
 rw [Bool.eq_iff_iff, List.any_eq_true, List.any_eq_true]
 constructor
 ·rintro ⟨x, hx, h⟩
  obtain ⟨i, hi, hv, rfl⟩ := adjK_mem.1 hx
  rw [Int.toNat_natCast] at h
  exact ⟨_, gmem hi, by rw [decide_eq_true hv, h]; rfl⟩
 ·rintro ⟨e, he, h⟩
  rw [Bool.and_eq_true, decide_eq_true_eq] at h
  obtain ⟨i, hi, rfl⟩ := List.getElem_of_mem he
  refine ⟨(i : Int), adjK_mem.2 ⟨i, hi, by rw [gget hi]; exact h.1, rfl⟩, ?_⟩
  rw [Int.toNat_natCast, gget hi]; exact h.2
def FrS (x : CkX) (st : List Int) (sn : List Bool) (b1 b2 : Nat) (s : St4) (w : World) : Prop := CkOk x w st sn ∧ PtC w b1 x ∧ StB w b2 s
theorem FrS.ext {x : CkX} {st : List Int} {sn : List Bool} {b1 b2 : Nat} {s : St4} {w w' : World} (h : FrS x st sn b1 b2 s w) (e : Ext w w') : FrS x st sn b1 b2 s w' := ⟨h.1.ext e, h.2.1.ext e, h.2.2.ext e⟩
theorem free11_spec (x : CkX) (st : List Int) (sn : List Bool) (b1 b2 : Nat) (s : St4) (v : Int) (w : World) (h : FrS x st sn b1 b2 s w) (h0 : 0 ≤ v) (h1 : v < (st.length : Int)) :
  RetsP Tryz.prog 83 #[.int .i64 v, .pointer (some ⟨b2, 0, none⟩), .pointer (some ⟨b1, 0, none⟩)] w (.bool (decide (v ≠ s.a) && decide (stA st v = 2))) := by
 refine enter (args := [_, _, _]) Tryz.func83 rfl Tryz.ntmps83 (by kernel_rfl) rfl ?_
 refine V.seq (V.region (VL.op (R.asB rfl) (VL.nil (V.seq (V.region (VL.op (R.mvI rfl) (VL.op (R.fld' (o := 1) Tryz.runUnderlying51 rfl rfl Tryz.sizeOf3 rfl rfl) (VL.op (R.ld1 Tryz.isAgg3 rfl ((show w.cell? ⟨b2, 1, none⟩ = some (Value.int .i64 s.a) from h.2.2.cell 1))) (VL.op (R.neq rfl rfl) (VL.op (R.mvB rfl) (VL.andP rfl rfl (fun g1_4 => VL.op (R.ld1 Tryz.isAgg61 rfl ((show w.cell? ⟨b1, 0, none⟩ = some (Value.pointer (some ⟨x.p, 0, none⟩)) from h.2.1.cell 0))) (VL.gT rfl rfl (VL.op (R.nilCheck rfl) (VL.gT rfl rfl (VL.op (R.fld' (o := 7) Tryz.runUnderlying80 rfl rfl Tryz.sizeOf22 rfl rfl) (VL.gT rfl rfl (VL.op (R.ld1 Tryz.isAgg22 rfl ((show w.cell? ⟨x.p, 7, none⟩ = some (Value.slice (some ⟨x.tb, 0, none⟩) st.length st.length) from h.1.blk.cell 7))) (VL.gT rfl rfl (VL.op (R.mvI rfl) (VL.gT rfl rfl (VL.op (R.ixS Tryz.runUnderlying22 Tryz.sizeOf3 rfl rfl (by omega) (by omega) (h.1.t.sl.some (i := v.toNat) (by omega))) (VL.gT rfl rfl (VL.op (R.ld1 Tryz.isAgg3 rfl (((h.1.t.sl.row (i := v.toNat) (by omega)).cell (i := 0) rfl))) (VL.gT rfl rfl (VL.op (R.eql rfl rfl) (VL.op (R.pickTB rfl rfl) (VL.op (R.asB rfl) (VL.nil (V.ret (fret1 (v := .bool _) rfl rfl rfl (⟨?_, (Mod.refl _ _)⟩))))))))))))))))))))) (fun g1_4 => VL.gF rfl rfl (VL.gF rfl rfl (VL.gF rfl rfl (VL.gF rfl rfl (VL.gF rfl rfl (VL.gF rfl rfl (VL.gF rfl rfl (VL.op (R.pickFB rfl rfl) (VL.op (R.asB rfl) (VL.nil (V.ret (fret1 (v := .bool _) rfl rfl rfl (⟨?_, (Mod.refl _ _)⟩))))))))))))))))))))))))
 all_goals (refine congrArg Value.bool ?_)
 ·rw [show decide (v ≠ s.a) = true from decide_eq_true g1_4, Bool.true_and]; rfl
 ·rw [show decide (v ≠ s.a) = false from decide_eq_false g1_4, Bool.false_and]
theorem free1_spec (x : CkX) (N : Nat) (st : List Int) (sn : List Bool) (b1 b2 : Nat) (s : St4) (i : Nat) (w : World) (h : FrS x st sn b1 b2 s w) (hR : CkR x N) (hst : st.length = N) (hi : i < x.g.edges.length) :
  RetsP Tryz.prog 82 #[.int .i64 (i : Nat), .pointer (some ⟨b1, 0, none⟩), .pointer (some ⟨b2, 0, none⟩)] w (.bool (!((vals x.g.edges).getD i default).any fun u => decide (u ≠ s.a) && decide (stA st u = 2))) := by
 obtain ⟨k1, k2, k3⟩ := hR.edge hi
 have hEl := hR.El
 refine enter (args := [_, _, _]) Tryz.func82 rfl Tryz.ntmps82 (by kernel_rfl) rfl ?_
 refine V.seq (V.region (VL.op (R.asB rfl) (VL.nil (V.seq (V.region (VL.op (R.ld1 Tryz.isAgg61 rfl ((show w.cell? ⟨b1, 0, none⟩ = some (Value.pointer (some ⟨x.p, 0, none⟩)) from h.2.1.cell 0))) (VL.op (R.nilCheck rfl) (VL.op (R.fld' (o := 0) Tryz.runUnderlying80 rfl rfl Tryz.sizeOf25 rfl rfl) (VL.op (R.fld' (o := 2) Tryz.runUnderlying25 rfl rfl Tryz.sizeOf23 rfl rfl) (VL.op (R.ld1 Tryz.isAgg23 rfl ((show w.cell? ⟨x.p, 2, none⟩ = some (Value.slice x.g.ea x.g.edges.length x.g.ec) from h.1.blk.cell 2))) (VL.op (R.mvI rfl) (VL.op (R.ixS Tryz.runUnderlying23 Tryz.sizeOf22 rfl rfl (by omega) (by omega) (h.1.g.e.sl.some (i := i) hi)) (VL.op (R.ld1 Tryz.isAgg22 rfl (((h.1.g.e.sl.row (i := i) hi).cell (i := 0) rfl))) (VL.op (R.mkFn rfl rfl) (VL.callP Tryz.call28 rfl (containsM30 83 [] [.pointer (some ⟨b2, 0, none⟩), .pointer (some ⟨b1, 0, none⟩)] (fun u => decide (u ≠ s.a) && decide (stA st u = 2)) (FrS x st sn b1 b2 s) (x.g.edges.getD i default).a (x.g.edges.getD i default).c (x.g.edges.getD i default).l _ Tryz.call83 (fun w v h hv => free11_spec x st sn b1 b2 s v w h (k2 v hv).1 (by rw [hst]; exact (k2 v hv).2)) (fun w w' h e => h.ext e) h (h.1.g.e.at hi) k3) fun w1_9 e1_9 => VL.op (R.not rfl) (VL.op (R.asB rfl) (VL.nil (V.ret (fret1 (v := .bool _) rfl rfl rfl (⟨?_, e1_9⟩))))))))))))))))))))
 rw [k1]
theorem free30_spec (x : CkX) (N q : Nat) (s : St4) (st : List Int) (sn : List Bool) (w : World) (h : CkOk x w st sn) (hR : CkR x N) (hst : st.length = N) :
  RetsP Tryz.prog 58 #[.pointer (some ⟨x.p, 0, none⟩), .int .i64 (q : Nat), .agg (encS4 s).toArray] w (.bool (decide (0 ≤ s.a ∧ s.a < x.g.n ∧ stA st s.a = 2) && frA (vals x.g.edges) st s.a)) := by
 have hlen : (vals x.g.edges).length = x.g.edges.length := List.length_map _
 have hn := hR.n
 have hN4 := hR.N4
 refine enter (args := [_, _, _]) Tryz.func58 rfl Tryz.ntmps58 (by kernel_rfl) rfl ?_
 refine V.seq (V.region (VL.box (v := .pointer _) rfl fun b0_0 w0_0 hb0_0 e0_0 hB0_0 => VL.box (v := .agg _) rfl fun b0_1 w0_1 hb0_1 e0_1 hB0_1 => VL.op (R.asB rfl) (VL.nil (V.seq (V.seq (?_))))))
 have h0 := h.ext (e0_0.trans e0_1)
 have hb0 : PtC w0_1 b0_0 x := hB0_0.ext e0_1
 by_cases ha : 0 ≤ s.a ∧ s.a < x.g.n ∧ stA st s.a = 2
 ·obtain ⟨ha0, ha1, ha2⟩ := ha
  refine V.regionQCut mixed 24 (by kernel_rfl) rfl (fun w' => Ext _ w') (Ext.drawn _) [7, 8, 9, 10, 11, 12, 13, 14, 15, 16, 17, 18, 19, 20, 21, 22, 23, 24, 25, 26, 27, 28, 29, 30] 30 (.bool (false)) rfl (VQ.op (fun wq eq => R.fld' (o := 1) Tryz.runUnderlying51 rfl rfl Tryz.sizeOf3 rfl rfl) (VQ.op (fun wq eq => R.ld1 Tryz.isAgg3 rfl ((show wq.cell? ⟨b0_1, 1, none⟩ = some (Value.int .i64 s.a) from (hB0_1.ext eq).cell 1))) (VQ.op (fun wq eq => R.lit (R.lss rfl rfl) ((decide_eq_false (by omega)))) (VQ.op (fun wq eq => R.mvB rfl) (VQ.gT rfl rfl (VQ.op (fun wq eq => R.fld' (o := 1) Tryz.runUnderlying51 rfl rfl Tryz.sizeOf3 rfl rfl) (VQ.gT rfl rfl (VQ.op (fun wq eq => R.ld1 Tryz.isAgg3 rfl ((show wq.cell? ⟨b0_1, 1, none⟩ = some (Value.int .i64 s.a) from (hB0_1.ext eq).cell 1))) (VQ.gT rfl rfl (VQ.op (fun wq eq => R.ld1 Tryz.isAgg61 rfl ((show wq.cell? ⟨b0_0, 0, none⟩ = some (Value.pointer (some ⟨x.p, 0, none⟩)) from (hb0.ext eq).cell 0))) (VQ.gT rfl rfl (VQ.op (fun wq eq => R.nilCheck rfl) (VQ.gT rfl rfl (VQ.op (fun wq eq => R.fld' (o := 0) Tryz.runUnderlying80 rfl rfl Tryz.sizeOf25 rfl rfl) (VQ.gT rfl rfl (VQ.op (fun wq eq => R.fld' (o := 0) Tryz.runUnderlying25 rfl rfl Tryz.sizeOf3 rfl rfl) (VQ.gT rfl rfl (VQ.op (fun wq eq => R.ld1 Tryz.isAgg3 rfl ((show wq.cell? ⟨x.p, 0, none⟩ = some (Value.int .i64 x.g.n) from (h0.blk.ext eq).cell 0))) (VQ.gT rfl rfl (VQ.op (fun wq eq => R.lit (R.geq rfl rfl) ((decide_eq_false (by omega)))) (VQ.op (fun wq eq => R.pickFB rfl rfl) (VQ.op (fun wq eq => R.mvB rfl) (VQ.gT rfl rfl (VQ.op (fun wq eq => R.ld1 Tryz.isAgg61 rfl ((show wq.cell? ⟨b0_0, 0, none⟩ = some (Value.pointer (some ⟨x.p, 0, none⟩)) from (hb0.ext eq).cell 0))) (VQ.gT rfl rfl (VQ.op (fun wq eq => R.nilCheck rfl) (VQ.gT rfl rfl (VQ.op (fun wq eq => R.fld' (o := 7) Tryz.runUnderlying80 rfl rfl Tryz.sizeOf22 rfl rfl) (VQ.gT rfl rfl (VQ.op (fun wq eq => R.ld1 Tryz.isAgg22 rfl ((show wq.cell? ⟨x.p, 7, none⟩ = some (Value.slice (some ⟨x.tb, 0, none⟩) st.length st.length) from (h0.blk.ext eq).cell 7))) (VQ.gT rfl rfl (VQ.op (fun wq eq => R.fld' (o := 1) Tryz.runUnderlying51 rfl rfl Tryz.sizeOf3 rfl rfl) (VQ.gT rfl rfl (VQ.op (fun wq eq => R.ld1 Tryz.isAgg3 rfl ((show wq.cell? ⟨b0_1, 1, none⟩ = some (Value.int .i64 s.a) from (hB0_1.ext eq).cell 1))) (VQ.gT rfl rfl (VQ.op (fun wq eq => R.ixS Tryz.runUnderlying22 Tryz.sizeOf3 rfl rfl (by omega) (by omega) (h0.t.sl.some (i := s.a.toNat) (by omega))) (VQ.gT rfl rfl (VQ.op (fun wq eq => R.ld1 Tryz.isAgg3 rfl ((((h0.t.sl.ext eq).row (i := s.a.toNat) (by omega)).cell (i := 0) rfl))) (VQ.gT rfl rfl (VQ.op (fun wq eq => R.lit (R.neq rfl rfl) ((decide_eq_false (fun hh => hh ha2)))) (VQ.op (fun wq eq => R.pickFB rfl rfl) (VQ.nil (cutB rfl ?_))))))))))))))))))))))))))))))))))))))))))) (fun rg1 w1c e1c => V.cond rfl (fun c30 => V.seq (V.region (VL.op (R.asB rfl) (VL.nil (V.ret (fret1 (v := .bool _) rfl rfl rfl (?_))))))) (fun c30 => V.skip (V.seq (?_))))
  ·rfl
  ·nomatch c30
  have h1 := h0.ext e1c
  have hb1 := hb0.ext e1c
  have hs1 : StB w1c b0_1 s := hB0_1.ext e1c
  have hzl := hR.zl
  have hzi : s.a.toNat < x.z.length := by omega
  have hza : (x.z.getD s.a.toNat default).l = adjK (vals x.g.edges) x.g.edges.length s.a := by rw [hR.z _ (by omega), show ((s.a.toNat : Nat) : Int) = s.a by omega]
  have hzlen : (x.z.getD s.a.toNat default).l.length ≤ 1000000 := by rw [hza]; have := adjK_len (vals x.g.edges) x.g.edges.length s.a; have := hR.El; omega
  refine V.regionQ mixed 9 (by kernel_rfl) rfl (fun w' => Ext _ w') (Ext.drawn _) (VQ.op (fun wq eq => R.ld1 Tryz.isAgg61 rfl ((show wq.cell? ⟨b0_0, 0, none⟩ = some (Value.pointer (some ⟨x.p, 0, none⟩)) from (hb1.ext eq).cell 0))) (VQ.op (fun wq eq => R.nilCheck rfl) (VQ.op (fun wq eq => R.fld' (o := 6) Tryz.runUnderlying80 rfl rfl Tryz.sizeOf23 rfl rfl) (VQ.op (fun wq eq => R.ld1 Tryz.isAgg23 rfl ((show wq.cell? ⟨x.p, 6, none⟩ = some (Value.slice (some ⟨x.zb, 0, none⟩) x.z.length x.z.length) from (h1.blk.ext eq).cell 6))) (VQ.op (fun wq eq => R.fld' (o := 1) Tryz.runUnderlying51 rfl rfl Tryz.sizeOf3 rfl rfl) (VQ.op (fun wq eq => R.ld1 Tryz.isAgg3 rfl ((show wq.cell? ⟨b0_1, 1, none⟩ = some (Value.int .i64 s.a) from (hs1.ext eq).cell 1))) (VQ.op (fun wq eq => R.ixS Tryz.runUnderlying23 Tryz.sizeOf22 rfl rfl (by omega) (by omega) (h1.z.sl.some (i := s.a.toNat) hzi)) (VQ.op (fun wq eq => R.ld1 Tryz.isAgg22 rfl ((((h1.z.sl.ext eq).row (i := s.a.toNat) hzi).cell (i := 0) rfl))) (VQ.op (fun wq eq => R.mkFn rfl rfl) (VQ.nil fun w3q e3q => VL.callP Tryz.call28 rfl (containsM30 82 [] [.pointer (some ⟨b0_0, 0, none⟩), .pointer (some ⟨b0_1, 0, none⟩)] (fun i => !((vals x.g.edges).getD i.toNat default).any fun u => decide (u ≠ s.a) && decide (stA st u = 2)) (FrS x st sn b0_0 b0_1 s) (x.z.getD s.a.toNat default).a (x.z.getD s.a.toNat default).c (x.z.getD s.a.toNat default).l _ Tryz.call82 (fun w v h hv => by
    rw [hza] at hv
    obtain ⟨i, hi, _, rfl⟩ := adjK_mem.1 hv
    have := free1_spec x N st sn b0_0 b0_1 s i w h hR hst hi
    rwa [show ((i : Nat) : Int).toNat = i by omega]) (fun w w' h e => h.ext e) ⟨h1.ext e3q, hb1.ext e3q, hs1.ext e3q⟩ ((h1.z.ext e3q).at hzi) hzlen) fun w3_9 e3_9 => VL.op (R.not rfl) (VL.op (R.asB rfl) (VL.nil (V.ret (fret1 (v := .bool _) rfl rfl rfl (⟨?_, (e0_0.trans e0_1).trans (e1c.trans (e3q.trans e3_9))⟩)))))))))))))))
  refine congrArg Value.bool ?_
  rw [hza, ← hlen, adjA30 (vals x.g.edges) s.a fun e => !e.any fun u => decide (u ≠ s.a) && decide (stA st u = 2), decide_eq_true ⟨ha0, ha1, ha2⟩, Bool.true_and]
  unfold frA
  rw [Bool.eq_iff_iff]
  simp
  exact ⟨fun h y hy => Classical.or_iff_not_imp_left.2 fun hn => h y hy (Classical.not_not.1 hn), fun h y hy hv => (h y hy).resolve_left fun hn => hn hv⟩
 ·have hv : (decide (0 ≤ s.a ∧ s.a < x.g.n ∧ stA st s.a = 2) && frA (vals x.g.edges) st s.a) = false := by rw [decide_eq_false ha, Bool.false_and]
  rw [hv]
  by_cases ha0 : 0 ≤ s.a
  ·by_cases ha1 : s.a < x.g.n
   ·have ha2 : st.getD s.a.toNat default ≠ 2 := fun e => ha ⟨ha0, ha1, e⟩
    refine V.regionQ mixed 20 (by kernel_rfl) rfl (fun w' => Ext _ w') (Ext.drawn _) (VQ.op (fun wq eq => R.fld' (o := 1) Tryz.runUnderlying51 rfl rfl Tryz.sizeOf3 rfl rfl) (VQ.op (fun wq eq => R.ld1 Tryz.isAgg3 rfl ((show wq.cell? ⟨b0_1, 1, none⟩ = some (Value.int .i64 s.a) from (hB0_1.ext eq).cell 1))) (VQ.op (fun wq eq => R.lit (R.lss rfl rfl) ((decide_eq_false (by omega)))) (VQ.op (fun wq eq => R.mvB rfl) (VQ.gT rfl rfl (VQ.op (fun wq eq => R.fld' (o := 1) Tryz.runUnderlying51 rfl rfl Tryz.sizeOf3 rfl rfl) (VQ.gT rfl rfl (VQ.op (fun wq eq => R.ld1 Tryz.isAgg3 rfl ((show wq.cell? ⟨b0_1, 1, none⟩ = some (Value.int .i64 s.a) from (hB0_1.ext eq).cell 1))) (VQ.gT rfl rfl (VQ.op (fun wq eq => R.ld1 Tryz.isAgg61 rfl ((show wq.cell? ⟨b0_0, 0, none⟩ = some (Value.pointer (some ⟨x.p, 0, none⟩)) from (hb0.ext eq).cell 0))) (VQ.gT rfl rfl (VQ.op (fun wq eq => R.nilCheck rfl) (VQ.gT rfl rfl (VQ.op (fun wq eq => R.fld' (o := 0) Tryz.runUnderlying80 rfl rfl Tryz.sizeOf25 rfl rfl) (VQ.gT rfl rfl (VQ.op (fun wq eq => R.fld' (o := 0) Tryz.runUnderlying25 rfl rfl Tryz.sizeOf3 rfl rfl) (VQ.gT rfl rfl (VQ.op (fun wq eq => R.ld1 Tryz.isAgg3 rfl ((show wq.cell? ⟨x.p, 0, none⟩ = some (Value.int .i64 x.g.n) from (h0.blk.ext eq).cell 0))) (VQ.gT rfl rfl (VQ.op (fun wq eq => R.lit (R.geq rfl rfl) ((decide_eq_false (by omega)))) (VQ.op (fun wq eq => R.pickFB rfl rfl) (VQ.op (fun wq eq => R.mvB rfl) (VQ.gT rfl rfl (VQ.op (fun wq eq => R.ld1 Tryz.isAgg61 rfl ((show wq.cell? ⟨b0_0, 0, none⟩ = some (Value.pointer (some ⟨x.p, 0, none⟩)) from (hb0.ext eq).cell 0))) (VQ.gT rfl rfl (VQ.op (fun wq eq => R.nilCheck rfl) (VQ.gT rfl rfl (VQ.op (fun wq eq => R.fld' (o := 7) Tryz.runUnderlying80 rfl rfl Tryz.sizeOf22 rfl rfl) (VQ.gT rfl rfl (VQ.op (fun wq eq => R.ld1 Tryz.isAgg22 rfl ((show wq.cell? ⟨x.p, 7, none⟩ = some (Value.slice (some ⟨x.tb, 0, none⟩) st.length st.length) from (h0.blk.ext eq).cell 7))) (VQ.gT rfl rfl (VQ.op (fun wq eq => R.fld' (o := 1) Tryz.runUnderlying51 rfl rfl Tryz.sizeOf3 rfl rfl) (VQ.gT rfl rfl (VQ.op (fun wq eq => R.ld1 Tryz.isAgg3 rfl ((show wq.cell? ⟨b0_1, 1, none⟩ = some (Value.int .i64 s.a) from (hB0_1.ext eq).cell 1))) (VQ.nil fun w1q e1q => VL.gT rfl rfl (VL.op (R.ixS Tryz.runUnderlying22 Tryz.sizeOf3 rfl rfl (by omega) (by omega) ((h0.t.sl.ext e1q).some (i := s.a.toNat) (by omega))) (VL.gT rfl rfl (VL.op (R.ld1 Tryz.isAgg3 rfl ((((h0.t.sl.ext e1q).row (i := s.a.toNat) (by omega)).cell (i := 0) rfl))) (VL.gT rfl rfl (VL.op (R.lit (R.neq rfl rfl) ((decide_eq_true ha2))) (VL.op (R.pickFB rfl rfl) (VL.nil (V.condT rfl (V.seq (V.region (VL.op (R.asB rfl) (VL.nil (V.ret (fret1 (v := .bool _) rfl rfl rfl (⟨rfl, (e0_0.trans e0_1).trans e1q⟩))))))))))))))))))))))))))))))))))))))))))))))))))
   ·refine V.regionQ mixed 20 (by kernel_rfl) rfl (fun w' => Ext _ w') (Ext.drawn _) (VQ.op (fun wq eq => R.fld' (o := 1) Tryz.runUnderlying51 rfl rfl Tryz.sizeOf3 rfl rfl) (VQ.op (fun wq eq => R.ld1 Tryz.isAgg3 rfl ((show wq.cell? ⟨b0_1, 1, none⟩ = some (Value.int .i64 s.a) from (hB0_1.ext eq).cell 1))) (VQ.op (fun wq eq => R.lit (R.lss rfl rfl) ((decide_eq_false (by omega)))) (VQ.op (fun wq eq => R.mvB rfl) (VQ.gT rfl rfl (VQ.op (fun wq eq => R.fld' (o := 1) Tryz.runUnderlying51 rfl rfl Tryz.sizeOf3 rfl rfl) (VQ.gT rfl rfl (VQ.op (fun wq eq => R.ld1 Tryz.isAgg3 rfl ((show wq.cell? ⟨b0_1, 1, none⟩ = some (Value.int .i64 s.a) from (hB0_1.ext eq).cell 1))) (VQ.gT rfl rfl (VQ.op (fun wq eq => R.ld1 Tryz.isAgg61 rfl ((show wq.cell? ⟨b0_0, 0, none⟩ = some (Value.pointer (some ⟨x.p, 0, none⟩)) from (hb0.ext eq).cell 0))) (VQ.gT rfl rfl (VQ.op (fun wq eq => R.nilCheck rfl) (VQ.gT rfl rfl (VQ.op (fun wq eq => R.fld' (o := 0) Tryz.runUnderlying80 rfl rfl Tryz.sizeOf25 rfl rfl) (VQ.gT rfl rfl (VQ.op (fun wq eq => R.fld' (o := 0) Tryz.runUnderlying25 rfl rfl Tryz.sizeOf3 rfl rfl) (VQ.gT rfl rfl (VQ.op (fun wq eq => R.ld1 Tryz.isAgg3 rfl ((show wq.cell? ⟨x.p, 0, none⟩ = some (Value.int .i64 x.g.n) from (h0.blk.ext eq).cell 0))) (VQ.gT rfl rfl (VQ.op (fun wq eq => R.lit (R.geq rfl rfl) ((decide_eq_true (by omega)))) (VQ.op (fun wq eq => R.pickFB rfl rfl) (VQ.op (fun wq eq => R.mvB rfl) (VQ.gF rfl rfl (VQ.gF rfl rfl (VQ.gF rfl rfl (VQ.gF rfl rfl (VQ.gF rfl rfl (VQ.gF rfl rfl (VQ.nil fun w1q e1q => VL.gF rfl rfl (VL.gF rfl rfl (VL.gF rfl rfl (VL.op (R.pickTB rfl rfl) (VL.nil (V.condT rfl (V.seq (V.region (VL.op (R.asB rfl) (VL.nil (V.ret (fret1 (v := .bool _) rfl rfl rfl (⟨rfl, (e0_0.trans e0_1).trans e1q⟩)))))))))))))))))))))))))))))))))))))))))
  ·refine V.regionQ mixed 20 (by kernel_rfl) rfl (fun w' => Ext _ w') (Ext.drawn _) (VQ.op (fun wq eq => R.fld' (o := 1) Tryz.runUnderlying51 rfl rfl Tryz.sizeOf3 rfl rfl) (VQ.op (fun wq eq => R.ld1 Tryz.isAgg3 rfl ((show wq.cell? ⟨b0_1, 1, none⟩ = some (Value.int .i64 s.a) from (hB0_1.ext eq).cell 1))) (VQ.op (fun wq eq => R.lit (R.lss rfl rfl) ((decide_eq_true (by omega)))) (VQ.op (fun wq eq => R.mvB rfl) (VQ.gF rfl rfl (VQ.gF rfl rfl (VQ.gF rfl rfl (VQ.gF rfl rfl (VQ.gF rfl rfl (VQ.gF rfl rfl (VQ.gF rfl rfl (VQ.gF rfl rfl (VQ.op (fun wq eq => R.pickTB rfl rfl) (VQ.op (fun wq eq => R.mvB rfl) (VQ.gF rfl rfl (VQ.gF rfl rfl (VQ.gF rfl rfl (VQ.gF rfl rfl (VQ.gF rfl rfl (VQ.gF rfl rfl (VQ.nil fun w1q e1q => VL.gF rfl rfl (VL.gF rfl rfl (VL.gF rfl rfl (VL.op (R.pickTB rfl rfl) (VL.nil (V.condT rfl (V.seq (V.region (VL.op (R.asB rfl) (VL.nil (V.ret (fret1 (v := .bool _) rfl rfl rfl (⟨rfl, (e0_0.trans e0_1).trans e1q⟩)))))))))))))))))))))))))))))))))
end Go.Proofs.YtmglkjigmcikdaaGreatDoor

/- Proof: the leaves on ways. -/
namespace Go.Proofs.YtmglkjigmcikdaaGreatDoor
open Go.Vc
set_option maxRecDepth 100000
set_option maxHeartbeats 16000000
theorem way_spec (x : CkX) (N q : Nat) (s : St4) (st : List Int) (sn : List Bool) (w : World) (h : CkOk x w st sn) (hR : CkR x N) (hst : st.length = N) :
  RetsP Tryz.prog 59 #[.pointer (some ⟨x.p, 0, none⟩), .int .i64 (q : Nat), .agg (encS4 s).toArray] w (.bool (!x.h && (decide (0 ≤ s.a ∧ s.a < (x.W.length : Int)) && (areA st (x.W.getD s.a.toNat default).p.l 1 && areA st (x.W.getD s.a.toNat default).n.l 2)))) := by
 have hWl := hR.Wl
 refine enter (args := [_, _, _]) Tryz.func59 rfl Tryz.ntmps59 (by kernel_rfl) rfl ?_
 refine V.seq (V.region (VL.box (v := .agg _) rfl fun b0_0 w0_0 hb0_0 e0_0 hB0_0 => VL.op (R.asB rfl) (VL.nil (V.seq (?_)))))
 have h0 := h.ext e0_0
 cases hh : x.h with
 | true =>
  refine V.regionQ mixed 44 (by kernel_rfl) rfl (fun w' => Ext _ w') (Ext.drawn _) (VQ.op (fun wq eq => R.mvP rfl) (VQ.op (fun wq eq => R.nilCheck rfl) (VQ.op (fun wq eq => R.fld' (o := 4) Tryz.runUnderlying80 rfl rfl Tryz.sizeOf4 rfl rfl) (VQ.op (fun wq eq => R.ld1 Tryz.isAgg4 rfl ((show wq.cell? ⟨x.p, 4, none⟩ = some (Value.bool true) from by rw [← hh]; exact (h0.blk.ext eq).cell 4))) (VQ.op (fun wq eq => R.not rfl) (VQ.op (fun wq eq => R.mvB rfl) (VQ.gF rfl rfl (VQ.gF rfl rfl (VQ.gF rfl rfl (VQ.op (fun wq eq => R.pickFB rfl rfl) (VQ.op (fun wq eq => R.mvB rfl) (VQ.gF rfl rfl (VQ.gF rfl rfl (VQ.gF rfl rfl (VQ.gF rfl rfl (VQ.gF rfl rfl (VQ.gF rfl rfl (VQ.gF rfl rfl (VQ.gF rfl rfl (VQ.op (fun wq eq => R.pickFB rfl rfl) (VQ.op (fun wq eq => R.mvB rfl) (VQ.gF rfl rfl (VQ.gF rfl rfl (VQ.gF rfl rfl (VQ.gF rfl rfl (VQ.gF rfl rfl (VQ.gF rfl rfl (VQ.gF rfl rfl (VQ.gF rfl rfl (VQ.gF rfl rfl (VQ.gF rfl rfl (VQ.gF rfl rfl (VQ.op (fun wq eq => R.pickFB rfl rfl) (VQ.op (fun wq eq => R.mvB rfl) (VQ.gF rfl rfl (VQ.gF rfl rfl (VQ.gF rfl rfl (VQ.gF rfl rfl (VQ.gF rfl rfl (VQ.gF rfl rfl (VQ.gF rfl rfl (VQ.gF rfl rfl (VQ.gF rfl rfl (VQ.gF rfl rfl (VQ.nil fun w1q e1q => VL.gF rfl rfl (VL.op (R.pickFB rfl rfl) (VL.op (R.asB rfl) (VL.nil (V.ret (fret1 (v := .bool _) rfl rfl rfl (⟨rfl, e0_0.trans e1q⟩)))))))))))))))))))))))))))))))))))))))))))))))))))
 | false =>
  by_cases ha : 0 ≤ s.a
  ·by_cases hb : s.a < (x.W.length : Int)
   ·have hil : s.a.toNat < x.W.length := by omega
    have hym : x.W.getD s.a.toNat default ∈ x.W := gmem hil
    have hyl := hR.wl _ hym
    have hyr := hR.W _ hym
    have hval : (!false && (decide (0 ≤ s.a ∧ s.a < (x.W.length : Int)) && (areA st (x.W.getD s.a.toNat default).p.l 1 && areA st (x.W.getD s.a.toNat default).n.l 2))) = (areA st (x.W.getD s.a.toNat default).p.l 1 && areA st (x.W.getD s.a.toNat default).n.l 2) := by rw [decide_eq_true ⟨ha, hb⟩]; rfl
    rw [hval]
    have hA := fun w' (e : Ext w0_0 w') => are_spec x st sn (x.W.getD s.a.toNat default).p.a (x.W.getD s.a.toNat default).p.c (x.W.getD s.a.toNat default).p.l 1 w' (h0.ext e) ((h0.W.ext e).at hil).p hyl.p (by rw [hst]; exact hyr.1)
    have hrow : ∀ {w' : World}, Ext w0_0 w' → RowAt w' _ _ (encWy (x.W.getD s.a.toNat default)) := fun e => (h0.W.sl.ext e).row (i := s.a.toNat) hil
    cases hp : areA st (x.W.getD s.a.toNat default).p.l 1 with
    | false =>
     refine V.regionQ mixed 44 (by kernel_rfl) rfl (fun w' => Ext _ w') (Ext.drawn _) (VQ.op (fun wq eq => R.mvP rfl) (VQ.op (fun wq eq => R.nilCheck rfl) (VQ.op (fun wq eq => R.fld' (o := 4) Tryz.runUnderlying80 rfl rfl Tryz.sizeOf4 rfl rfl) (VQ.op (fun wq eq => R.ld1 Tryz.isAgg4 rfl ((show wq.cell? ⟨x.p, 4, none⟩ = some (Value.bool false) from by rw [← hh]; exact (h0.blk.ext eq).cell 4))) (VQ.op (fun wq eq => R.not rfl) (VQ.op (fun wq eq => R.mvB rfl) (VQ.gT rfl rfl (VQ.op (fun wq eq => R.fld' (o := 1) Tryz.runUnderlying51 rfl rfl Tryz.sizeOf3 rfl rfl) (VQ.gT rfl rfl (VQ.op (fun wq eq => R.ld1 Tryz.isAgg3 rfl ((show wq.cell? ⟨b0_0, 1, none⟩ = some (Value.int .i64 s.a) from (hB0_0.ext eq).cell 1))) (VQ.gT rfl rfl (VQ.op (fun wq eq => R.lit (R.geq rfl rfl) ((decide_eq_true ha))) (VQ.op (fun wq eq => R.pickTB rfl rfl) (VQ.op (fun wq eq => R.mvB rfl) (VQ.gT rfl rfl (VQ.op (fun wq eq => R.fld' (o := 1) Tryz.runUnderlying51 rfl rfl Tryz.sizeOf3 rfl rfl) (VQ.gT rfl rfl (VQ.op (fun wq eq => R.ld1 Tryz.isAgg3 rfl ((show wq.cell? ⟨b0_0, 1, none⟩ = some (Value.int .i64 s.a) from (hB0_0.ext eq).cell 1))) (VQ.gT rfl rfl (VQ.op (fun wq eq => R.mvP rfl) (VQ.gT rfl rfl (VQ.op (fun wq eq => R.nilCheck rfl) (VQ.gT rfl rfl (VQ.op (fun wq eq => R.fld' (o := 3) Tryz.runUnderlying80 rfl rfl Tryz.sizeOf26 rfl rfl) (VQ.gT rfl rfl (VQ.op (fun wq eq => R.ld1 Tryz.isAgg26 rfl ((show wq.cell? ⟨x.p, 3, none⟩ = some (Value.slice x.wa x.W.length x.wc) from (h0.blk.ext eq).cell 3))) (VQ.gT rfl rfl (VQ.op (fun wq eq => R.lenS Tryz.runUnderlying26 rfl) (VQ.gT rfl rfl (VQ.op (fun wq eq => R.lit (R.lss rfl rfl) ((decide_eq_true hb))) (VQ.op (fun wq eq => R.pickTB rfl rfl) (VQ.op (fun wq eq => R.mvB rfl) (VQ.gT rfl rfl (VQ.op (fun wq eq => R.mvP rfl) (VQ.gT rfl rfl (VQ.op (fun wq eq => R.mvP rfl) (VQ.gT rfl rfl (VQ.op (fun wq eq => R.nilCheck rfl) (VQ.gT rfl rfl (VQ.op (fun wq eq => R.fld' (o := 3) Tryz.runUnderlying80 rfl rfl Tryz.sizeOf26 rfl rfl) (VQ.gT rfl rfl (VQ.op (fun wq eq => R.ld1 Tryz.isAgg26 rfl ((show wq.cell? ⟨x.p, 3, none⟩ = some (Value.slice x.wa x.W.length x.wc) from (h0.blk.ext eq).cell 3))) (VQ.gT rfl rfl (VQ.op (fun wq eq => R.fld' (o := 1) Tryz.runUnderlying51 rfl rfl Tryz.sizeOf3 rfl rfl) (VQ.gT rfl rfl (VQ.op (fun wq eq => R.ld1 Tryz.isAgg3 rfl ((show wq.cell? ⟨b0_0, 1, none⟩ = some (Value.int .i64 s.a) from (hB0_0.ext eq).cell 1))) (VQ.gT rfl rfl (VQ.op (fun wq eq => R.ixS Tryz.runUnderlying26 Tryz.sizeOf37 rfl rfl (by omega) (by omega) (h0.W.sl.some (i := s.a.toNat) hil)) (VQ.gT rfl rfl (VQ.op (fun wq eq => R.fld' (o := 0) Tryz.runUnderlying37 rfl rfl Tryz.sizeOf22 rfl rfl) (VQ.gT rfl rfl (VQ.op (fun wq eq => R.ld1 Tryz.isAgg22 rfl ((((h0.W.sl.ext eq).row (i := s.a.toNat) hil).cell (i := 0) rfl))) (VQ.gT rfl rfl (VQ.callP (fun _ _ h k => Mod.trans h k) Tryz.call81 rfl (fun wq eq => (by have := hA wq eq; rwa [hp] at this)) (VQ.op (fun wq eq => R.pickTB rfl rfl) (VQ.op (fun wq eq => R.mvB rfl) (VQ.gF rfl rfl (VQ.gF rfl rfl (VQ.gF rfl rfl (VQ.gF rfl rfl (VQ.gF rfl rfl (VQ.gF rfl rfl (VQ.gF rfl rfl (VQ.gF rfl rfl (VQ.gF rfl rfl (VQ.gF rfl rfl (VQ.nil fun w1q e1q => VL.gF rfl rfl (VL.op (R.pickFB rfl rfl) (VL.op (R.asB rfl) (VL.nil (V.ret (fret1 (v := .bool _) rfl rfl rfl (⟨rfl, e0_0.trans e1q⟩)))))))))))))))))))))))))))))))))))))))))))))))))))))))))))))))))))))))))
    | true =>
     refine V.regionQ mixed 44 (by kernel_rfl) rfl (fun w' => Ext _ w') (Ext.drawn _) (VQ.op (fun wq eq => R.mvP rfl) (VQ.op (fun wq eq => R.nilCheck rfl) (VQ.op (fun wq eq => R.fld' (o := 4) Tryz.runUnderlying80 rfl rfl Tryz.sizeOf4 rfl rfl) (VQ.op (fun wq eq => R.ld1 Tryz.isAgg4 rfl ((show wq.cell? ⟨x.p, 4, none⟩ = some (Value.bool false) from by rw [← hh]; exact (h0.blk.ext eq).cell 4))) (VQ.op (fun wq eq => R.not rfl) (VQ.op (fun wq eq => R.mvB rfl) (VQ.gT rfl rfl (VQ.op (fun wq eq => R.fld' (o := 1) Tryz.runUnderlying51 rfl rfl Tryz.sizeOf3 rfl rfl) (VQ.gT rfl rfl (VQ.op (fun wq eq => R.ld1 Tryz.isAgg3 rfl ((show wq.cell? ⟨b0_0, 1, none⟩ = some (Value.int .i64 s.a) from (hB0_0.ext eq).cell 1))) (VQ.gT rfl rfl (VQ.op (fun wq eq => R.lit (R.geq rfl rfl) ((decide_eq_true ha))) (VQ.op (fun wq eq => R.pickTB rfl rfl) (VQ.op (fun wq eq => R.mvB rfl) (VQ.gT rfl rfl (VQ.op (fun wq eq => R.fld' (o := 1) Tryz.runUnderlying51 rfl rfl Tryz.sizeOf3 rfl rfl) (VQ.gT rfl rfl (VQ.op (fun wq eq => R.ld1 Tryz.isAgg3 rfl ((show wq.cell? ⟨b0_0, 1, none⟩ = some (Value.int .i64 s.a) from (hB0_0.ext eq).cell 1))) (VQ.gT rfl rfl (VQ.op (fun wq eq => R.mvP rfl) (VQ.gT rfl rfl (VQ.op (fun wq eq => R.nilCheck rfl) (VQ.gT rfl rfl (VQ.op (fun wq eq => R.fld' (o := 3) Tryz.runUnderlying80 rfl rfl Tryz.sizeOf26 rfl rfl) (VQ.gT rfl rfl (VQ.op (fun wq eq => R.ld1 Tryz.isAgg26 rfl ((show wq.cell? ⟨x.p, 3, none⟩ = some (Value.slice x.wa x.W.length x.wc) from (h0.blk.ext eq).cell 3))) (VQ.gT rfl rfl (VQ.op (fun wq eq => R.lenS Tryz.runUnderlying26 rfl) (VQ.gT rfl rfl (VQ.op (fun wq eq => R.lit (R.lss rfl rfl) ((decide_eq_true hb))) (VQ.op (fun wq eq => R.pickTB rfl rfl) (VQ.op (fun wq eq => R.mvB rfl) (VQ.gT rfl rfl (VQ.op (fun wq eq => R.mvP rfl) (VQ.gT rfl rfl (VQ.op (fun wq eq => R.mvP rfl) (VQ.gT rfl rfl (VQ.op (fun wq eq => R.nilCheck rfl) (VQ.gT rfl rfl (VQ.op (fun wq eq => R.fld' (o := 3) Tryz.runUnderlying80 rfl rfl Tryz.sizeOf26 rfl rfl) (VQ.gT rfl rfl (VQ.op (fun wq eq => R.ld1 Tryz.isAgg26 rfl ((show wq.cell? ⟨x.p, 3, none⟩ = some (Value.slice x.wa x.W.length x.wc) from (h0.blk.ext eq).cell 3))) (VQ.gT rfl rfl (VQ.op (fun wq eq => R.fld' (o := 1) Tryz.runUnderlying51 rfl rfl Tryz.sizeOf3 rfl rfl) (VQ.gT rfl rfl (VQ.op (fun wq eq => R.ld1 Tryz.isAgg3 rfl ((show wq.cell? ⟨b0_0, 1, none⟩ = some (Value.int .i64 s.a) from (hB0_0.ext eq).cell 1))) (VQ.gT rfl rfl (VQ.op (fun wq eq => R.ixS Tryz.runUnderlying26 Tryz.sizeOf37 rfl rfl (by omega) (by omega) (h0.W.sl.some (i := s.a.toNat) hil)) (VQ.gT rfl rfl (VQ.op (fun wq eq => R.fld' (o := 0) Tryz.runUnderlying37 rfl rfl Tryz.sizeOf22 rfl rfl) (VQ.gT rfl rfl (VQ.op (fun wq eq => R.ld1 Tryz.isAgg22 rfl ((((h0.W.sl.ext eq).row (i := s.a.toNat) hil).cell (i := 0) rfl))) (VQ.gT rfl rfl (VQ.callP (fun _ _ h k => Mod.trans h k) Tryz.call81 rfl (fun wq eq => (by have := hA wq eq; rwa [hp] at this)) (VQ.op (fun wq eq => R.pickTB rfl rfl) (VQ.op (fun wq eq => R.mvB rfl) (VQ.gT rfl rfl (VQ.op (fun wq eq => R.mvP rfl) (VQ.gT rfl rfl (VQ.op (fun wq eq => R.mvP rfl) (VQ.gT rfl rfl (VQ.op (fun wq eq => R.nilCheck rfl) (VQ.gT rfl rfl (VQ.op (fun wq eq => R.fld' (o := 3) Tryz.runUnderlying80 rfl rfl Tryz.sizeOf26 rfl rfl) (VQ.gT rfl rfl (VQ.op (fun wq eq => R.ld1 Tryz.isAgg26 rfl ((show wq.cell? ⟨x.p, 3, none⟩ = some (Value.slice x.wa x.W.length x.wc) from (h0.blk.ext eq).cell 3))) (VQ.gT rfl rfl (VQ.op (fun wq eq => R.fld' (o := 1) Tryz.runUnderlying51 rfl rfl Tryz.sizeOf3 rfl rfl) (VQ.gT rfl rfl (VQ.op (fun wq eq => R.ld1 Tryz.isAgg3 rfl ((show wq.cell? ⟨b0_0, 1, none⟩ = some (Value.int .i64 s.a) from (hB0_0.ext eq).cell 1))) (VQ.gT rfl rfl (VQ.op (fun wq eq => R.ixS Tryz.runUnderlying26 Tryz.sizeOf37 rfl rfl (by omega) (by omega) (h0.W.sl.some (i := s.a.toNat) hil)) (VQ.gT rfl rfl (VQ.op (fun wq eq => R.fld' (o := 1) Tryz.runUnderlying37 rfl rfl Tryz.sizeOf22 rfl rfl) (VQ.gT rfl rfl (VQ.op (fun wq eq => R.ld1 Tryz.isAgg22 rfl ((((h0.W.sl.ext eq).row (i := s.a.toNat) hil).cell (i := 1) rfl))) (VQ.nil fun w1q e1q => VL.gT rfl rfl (VL.callP Tryz.call81 rfl (are_spec x st sn (x.W.getD s.a.toNat default).n.a (x.W.getD s.a.toNat default).n.c (x.W.getD s.a.toNat default).n.l 2 _ (h0.ext e1q) ((h0.W.ext e1q).at hil).n hyl.n (by rw [hst]; exact hyr.2)) fun w1_44 e1_44 => VL.op (R.pickTB rfl rfl) (VL.op (R.asB rfl) (VL.nil (V.ret (fret1 (v := .bool _) rfl rfl rfl (⟨by rw [Bool.true_and], e0_0.trans (e1q.trans e1_44)⟩)))))))))))))))))))))))))))))))))))))))))))))))))))))))))))))))))))))))))))))))))))
   ·rw [decide_eq_false (by omega), Bool.false_and, Bool.and_false]
    refine V.regionQ mixed 44 (by kernel_rfl) rfl (fun w' => Ext _ w') (Ext.drawn _) (VQ.op (fun wq eq => R.mvP rfl) (VQ.op (fun wq eq => R.nilCheck rfl) (VQ.op (fun wq eq => R.fld' (o := 4) Tryz.runUnderlying80 rfl rfl Tryz.sizeOf4 rfl rfl) (VQ.op (fun wq eq => R.ld1 Tryz.isAgg4 rfl ((show wq.cell? ⟨x.p, 4, none⟩ = some (Value.bool false) from by rw [← hh]; exact (h0.blk.ext eq).cell 4))) (VQ.op (fun wq eq => R.not rfl) (VQ.op (fun wq eq => R.mvB rfl) (VQ.gT rfl rfl (VQ.op (fun wq eq => R.fld' (o := 1) Tryz.runUnderlying51 rfl rfl Tryz.sizeOf3 rfl rfl) (VQ.gT rfl rfl (VQ.op (fun wq eq => R.ld1 Tryz.isAgg3 rfl ((show wq.cell? ⟨b0_0, 1, none⟩ = some (Value.int .i64 s.a) from (hB0_0.ext eq).cell 1))) (VQ.gT rfl rfl (VQ.op (fun wq eq => R.lit (R.geq rfl rfl) ((decide_eq_true ha))) (VQ.op (fun wq eq => R.pickTB rfl rfl) (VQ.op (fun wq eq => R.mvB rfl) (VQ.gT rfl rfl (VQ.op (fun wq eq => R.fld' (o := 1) Tryz.runUnderlying51 rfl rfl Tryz.sizeOf3 rfl rfl) (VQ.gT rfl rfl (VQ.op (fun wq eq => R.ld1 Tryz.isAgg3 rfl ((show wq.cell? ⟨b0_0, 1, none⟩ = some (Value.int .i64 s.a) from (hB0_0.ext eq).cell 1))) (VQ.gT rfl rfl (VQ.op (fun wq eq => R.mvP rfl) (VQ.gT rfl rfl (VQ.op (fun wq eq => R.nilCheck rfl) (VQ.gT rfl rfl (VQ.op (fun wq eq => R.fld' (o := 3) Tryz.runUnderlying80 rfl rfl Tryz.sizeOf26 rfl rfl) (VQ.gT rfl rfl (VQ.op (fun wq eq => R.ld1 Tryz.isAgg26 rfl ((show wq.cell? ⟨x.p, 3, none⟩ = some (Value.slice x.wa x.W.length x.wc) from (h0.blk.ext eq).cell 3))) (VQ.gT rfl rfl (VQ.op (fun wq eq => R.lenS Tryz.runUnderlying26 rfl) (VQ.gT rfl rfl (VQ.op (fun wq eq => R.lit (R.lss rfl rfl) ((decide_eq_false hb))) (VQ.op (fun wq eq => R.pickTB rfl rfl) (VQ.op (fun wq eq => R.mvB rfl) (VQ.gF rfl rfl (VQ.gF rfl rfl (VQ.gF rfl rfl (VQ.gF rfl rfl (VQ.gF rfl rfl (VQ.gF rfl rfl (VQ.gF rfl rfl (VQ.gF rfl rfl (VQ.gF rfl rfl (VQ.gF rfl rfl (VQ.gF rfl rfl (VQ.op (fun wq eq => R.pickFB rfl rfl) (VQ.op (fun wq eq => R.mvB rfl) (VQ.gF rfl rfl (VQ.gF rfl rfl (VQ.gF rfl rfl (VQ.gF rfl rfl (VQ.gF rfl rfl (VQ.gF rfl rfl (VQ.gF rfl rfl (VQ.gF rfl rfl (VQ.gF rfl rfl (VQ.gF rfl rfl (VQ.nil fun w1q e1q => VL.gF rfl rfl (VL.op (R.pickFB rfl rfl) (VL.op (R.asB rfl) (VL.nil (V.ret (fret1 (v := .bool _) rfl rfl rfl (⟨rfl, e0_0.trans e1q⟩))))))))))))))))))))))))))))))))))))))))))))))))))))))))))))))
  ·rw [decide_eq_false (by omega), Bool.false_and, Bool.and_false]
   refine V.regionQ mixed 44 (by kernel_rfl) rfl (fun w' => Ext _ w') (Ext.drawn _) (VQ.op (fun wq eq => R.mvP rfl) (VQ.op (fun wq eq => R.nilCheck rfl) (VQ.op (fun wq eq => R.fld' (o := 4) Tryz.runUnderlying80 rfl rfl Tryz.sizeOf4 rfl rfl) (VQ.op (fun wq eq => R.ld1 Tryz.isAgg4 rfl ((show wq.cell? ⟨x.p, 4, none⟩ = some (Value.bool false) from by rw [← hh]; exact (h0.blk.ext eq).cell 4))) (VQ.op (fun wq eq => R.not rfl) (VQ.op (fun wq eq => R.mvB rfl) (VQ.gT rfl rfl (VQ.op (fun wq eq => R.fld' (o := 1) Tryz.runUnderlying51 rfl rfl Tryz.sizeOf3 rfl rfl) (VQ.gT rfl rfl (VQ.op (fun wq eq => R.ld1 Tryz.isAgg3 rfl ((show wq.cell? ⟨b0_0, 1, none⟩ = some (Value.int .i64 s.a) from (hB0_0.ext eq).cell 1))) (VQ.gT rfl rfl (VQ.op (fun wq eq => R.lit (R.geq rfl rfl) ((decide_eq_false ha))) (VQ.op (fun wq eq => R.pickTB rfl rfl) (VQ.op (fun wq eq => R.mvB rfl) (VQ.gF rfl rfl (VQ.gF rfl rfl (VQ.gF rfl rfl (VQ.gF rfl rfl (VQ.gF rfl rfl (VQ.gF rfl rfl (VQ.gF rfl rfl (VQ.gF rfl rfl (VQ.op (fun wq eq => R.pickFB rfl rfl) (VQ.op (fun wq eq => R.mvB rfl) (VQ.gF rfl rfl (VQ.gF rfl rfl (VQ.gF rfl rfl (VQ.gF rfl rfl (VQ.gF rfl rfl (VQ.gF rfl rfl (VQ.gF rfl rfl (VQ.gF rfl rfl (VQ.gF rfl rfl (VQ.gF rfl rfl (VQ.gF rfl rfl (VQ.op (fun wq eq => R.pickFB rfl rfl) (VQ.op (fun wq eq => R.mvB rfl) (VQ.gF rfl rfl (VQ.gF rfl rfl (VQ.gF rfl rfl (VQ.gF rfl rfl (VQ.gF rfl rfl (VQ.gF rfl rfl (VQ.gF rfl rfl (VQ.gF rfl rfl (VQ.gF rfl rfl (VQ.gF rfl rfl (VQ.nil fun w1q e1q => VL.gF rfl rfl (VL.op (R.pickFB rfl rfl) (VL.op (R.asB rfl) (VL.nil (V.ret (fret1 (v := .bool _) rfl rfl rfl (⟨rfl, e0_0.trans e1q⟩))))))))))))))))))))))))))))))))))))))))))))))))))))))
def AlS (x : CkX) (st : List Int) (sn : List Bool) (b1 : Nat) (w : World) : Prop := CkOk x w st sn ∧ PtC w b1 x
theorem AlS.ext {x : CkX} {st : List Int} {sn : List Bool} {b1 : Nat} {w w' : World} (h : AlS x st sn b1 w) (e : Ext w w') : AlS x st sn b1 w' := ⟨h.1.ext e, h.2.ext e⟩
theorem none1_spec (x : CkX) (N : Nat) (st : List Int) (sn : List Bool) (b1 : Nat) (y : WyI) (w : World) (h : AlS x st sn b1 w) (hR : CkR x N) (hst : st.length = N) (hy : y ∈ x.W) (hyw : WyOk w y) :
  RetsP Tryz.prog 84 #[.agg (encWy y).toArray, .pointer (some ⟨b1, 0, none⟩)] w (.bool (!somA st y.p.l 2 && !somA st y.n.l 1)) := by
 have hyl := hR.wl y hy
 have hyr := hR.W y hy
 refine enter (args := [_, _]) Tryz.func84 rfl Tryz.ntmps84 (by kernel_rfl) rfl ?_
 refine V.seq (V.region (VL.box (v := .agg _) rfl fun b0_0 w0_0 hb0_0 e0_0 hB0_0 => VL.op (R.asB rfl) (VL.nil (V.seq (V.region (VL.op (R.ld1 Tryz.isAgg61 rfl ((show _ = some (Value.pointer (some ⟨x.p, 0, none⟩)) from (h.2.ext e0_0).cell 0))) (VL.op (R.fld' (o := 0) Tryz.runUnderlying37 rfl rfl Tryz.sizeOf22 rfl rfl) (VL.op (R.ld1 Tryz.isAgg22 rfl ((hB0_0.cell 0))) (VL.callP Tryz.call85 rfl (some_spec x st sn y.p.a y.p.c y.p.l 2 _ (h.1.ext e0_0) (hyw.p.ext e0_0) hyl.p (by rw [hst]; exact hyr.1)) fun w1_3 e1_3 => VL.op (R.not rfl) (VL.op (R.mvB rfl) (VL.and rfl rfl (fun g1_5 => VL.op (R.ld1 Tryz.isAgg61 rfl ((show _ = some (Value.pointer (some ⟨x.p, 0, none⟩)) from (h.2.ext (e0_0.trans e1_3)).cell 0))) (VL.gT rfl rfl (VL.op (R.fld' (o := 1) Tryz.runUnderlying37 rfl rfl Tryz.sizeOf22 rfl rfl) (VL.gT rfl rfl (VL.op (R.ld1 Tryz.isAgg22 rfl (((hB0_0.ext e1_3).cell 1))) (VL.gT rfl rfl (VL.callP Tryz.call85 rfl (some_spec x st sn y.n.a y.n.c y.n.l 1 _ (h.1.ext (e0_0.trans e1_3)) (hyw.n.ext (e0_0.trans e1_3)) hyl.n (by rw [hst]; exact hyr.2)) fun w1_9 e1_9 => VL.gT rfl rfl (VL.op (R.not rfl) (VL.op (R.pickTB rfl rfl) (VL.op (R.asB rfl) (VL.nil (V.ret (fret1 (v := .bool _) rfl rfl rfl (⟨?_, ((e0_0.trans e1_3).trans e1_9)⟩)))))))))))))) (fun g1_5 => VL.gF rfl rfl (VL.gF rfl rfl (VL.gF rfl rfl (VL.gF rfl rfl (VL.op (R.pickFB rfl rfl) (VL.op (R.asB rfl) (VL.nil (V.ret (fret1 (v := .bool _) rfl rfl rfl (⟨?_, (e0_0.trans e1_3)⟩)))))))))))))))))))))
 ·rw [g1_5, Bool.true_and]
 ·rw [g1_5, Bool.false_and]
theorem none_spec (x : CkX) (N q : Nat) (s : St4) (st : List Int) (sn : List Bool) (w : World) (h : CkOk x w st sn) (hR : CkR x N) (hst : st.length = N) :
  RetsP Tryz.prog 60 #[.pointer (some ⟨x.p, 0, none⟩), .int .i64 (q : Nat), .agg (encS4 s).toArray] w (.bool (x.h && (decide (s.a = 0) && x.W.all fun y => somA st y.p.l 2 || somA st y.n.l 1))) := by
 have hWl := hR.Wl
 refine enter (args := [_, _, _]) Tryz.func60 rfl Tryz.ntmps60 (by kernel_rfl) rfl ?_
 refine V.seq (V.region (VL.box (v := .pointer _) rfl fun b0_0 w0_0 hb0_0 e0_0 hB0_0 => VL.box (v := .agg _) rfl fun b0_1 w0_1 hb0_1 e0_1 hB0_1 => VL.op (R.asB rfl) (VL.nil (V.seq (?_)))))
 have h0 := h.ext (e0_0.trans e0_1)
 have hb0 : PtC w0_1 b0_0 x := hB0_0.ext e0_1
 cases hh : x.h with
 | false =>
  refine V.region (VL.op (R.ld1 Tryz.isAgg61 rfl ((show _ = some (Value.pointer (some ⟨x.p, 0, none⟩)) from hb0.cell 0))) (VL.op (R.nilCheck rfl) (VL.op (R.fld' (o := 4) Tryz.runUnderlying80 rfl rfl Tryz.sizeOf4 rfl rfl) (VL.op (R.ld1 Tryz.isAgg4 rfl ((show w0_1.cell? ⟨x.p, 4, none⟩ = some (Value.bool false) from by rw [← hh]; exact h0.blk.cell 4))) (VL.op (R.mvB rfl) (VL.gF rfl rfl (VL.gF rfl rfl (VL.gF rfl rfl (VL.op (R.pickFB rfl rfl) (VL.op (R.mvB rfl) (VL.gF rfl rfl (VL.gF rfl rfl (VL.gF rfl rfl (VL.gF rfl rfl (VL.gF rfl rfl (VL.gF rfl rfl (VL.gF rfl rfl (VL.op (R.pickFB rfl rfl) (VL.op (R.asB rfl) (VL.nil (V.ret (fret1 (v := .bool _) rfl rfl rfl (⟨rfl, (e0_0.trans e0_1).trans (Mod.refl _ _)⟩)))))))))))))))))))))))
 | true =>
  by_cases ha : s.a = 0
  ·rw [decide_eq_true ha, Bool.true_and, Bool.true_and]
   refine V.region (VL.op (R.ld1 Tryz.isAgg61 rfl ((show _ = some (Value.pointer (some ⟨x.p, 0, none⟩)) from hb0.cell 0))) (VL.op (R.nilCheck rfl) (VL.op (R.fld' (o := 4) Tryz.runUnderlying80 rfl rfl Tryz.sizeOf4 rfl rfl) (VL.op (R.ld1 Tryz.isAgg4 rfl ((show w0_1.cell? ⟨x.p, 4, none⟩ = some (Value.bool true) from by rw [← hh]; exact h0.blk.cell 4))) (VL.op (R.mvB rfl) (VL.gT rfl rfl (VL.op (R.fld' (o := 1) Tryz.runUnderlying51 rfl rfl Tryz.sizeOf3 rfl rfl) (VL.gT rfl rfl (VL.op (R.ld1 Tryz.isAgg3 rfl ((show w0_1.cell? ⟨b0_1, 1, none⟩ = some (Value.int .i64 s.a) from hB0_1.cell 1))) (VL.gT rfl rfl (VL.op (R.lit (R.eql rfl rfl) ((decide_eq_true ha))) (VL.op (R.pickTB rfl rfl) (VL.op (R.mvB rfl) (VL.gT rfl rfl (VL.op (R.ld1 Tryz.isAgg61 rfl ((show _ = some (Value.pointer (some ⟨x.p, 0, none⟩)) from hb0.cell 0))) (VL.gT rfl rfl (VL.op (R.nilCheck rfl) (VL.gT rfl rfl (VL.op (R.fld' (o := 3) Tryz.runUnderlying80 rfl rfl Tryz.sizeOf26 rfl rfl) (VL.gT rfl rfl (VL.op (R.ld1 Tryz.isAgg26 rfl ((show w0_1.cell? ⟨x.p, 3, none⟩ = some (Value.slice x.wa x.W.length x.wc) from h0.blk.cell 3))) (VL.gT rfl rfl (VL.op (R.mkFn rfl rfl) (VL.gT rfl rfl (VL.callP Tryz.call40 rfl (containsW_spec 84 [] [.pointer (some ⟨b0_0, 0, none⟩)] (fun y => !somA st y.p.l 2 && !somA st y.n.l 1) (AlS x st sn b0_0) x.wa x.wc x.W w0_1 Tryz.call84 (fun w y h hy hyw => none1_spec x N st sn b0_0 y w h hR hst hy hyw) (fun w w' h e => h.ext e) ⟨h0, hb0⟩ h0.W (by omega)) fun w1_15 e1_15 => VL.gT rfl rfl (VL.op (R.not rfl) (VL.op (R.pickTB rfl rfl) (VL.op (R.asB rfl) (VL.nil (V.ret (fret1 (v := .bool _) rfl rfl rfl (⟨?_, (e0_0.trans e0_1).trans e1_15⟩))))))))))))))))))))))))))))))))
   refine congrArg Value.bool ?_
   rw [Bool.eq_iff_iff]
   simp
   exact ⟨fun h y hy => Classical.or_iff_not_imp_left.2 fun hn => h y hy (by simpa using hn), fun h y hy hn => (h y hy).resolve_left (by simp [hn])⟩
  ·rw [decide_eq_false ha, Bool.false_and, Bool.and_false]
   refine V.region (VL.op (R.ld1 Tryz.isAgg61 rfl ((show _ = some (Value.pointer (some ⟨x.p, 0, none⟩)) from hb0.cell 0))) (VL.op (R.nilCheck rfl) (VL.op (R.fld' (o := 4) Tryz.runUnderlying80 rfl rfl Tryz.sizeOf4 rfl rfl) (VL.op (R.ld1 Tryz.isAgg4 rfl ((show w0_1.cell? ⟨x.p, 4, none⟩ = some (Value.bool true) from by rw [← hh]; exact h0.blk.cell 4))) (VL.op (R.mvB rfl) (VL.gT rfl rfl (VL.op (R.fld' (o := 1) Tryz.runUnderlying51 rfl rfl Tryz.sizeOf3 rfl rfl) (VL.gT rfl rfl (VL.op (R.ld1 Tryz.isAgg3 rfl ((show w0_1.cell? ⟨b0_1, 1, none⟩ = some (Value.int .i64 s.a) from hB0_1.cell 1))) (VL.gT rfl rfl (VL.op (R.lit (R.eql rfl rfl) ((decide_eq_false ha))) (VL.op (R.pickTB rfl rfl) (VL.op (R.mvB rfl) (VL.gF rfl rfl (VL.gF rfl rfl (VL.gF rfl rfl (VL.gF rfl rfl (VL.gF rfl rfl (VL.gF rfl rfl (VL.gF rfl rfl (VL.op (R.pickFB rfl rfl) (VL.op (R.asB rfl) (VL.nil (V.ret (fret1 (v := .bool _) rfl rfl rfl (⟨rfl, (e0_0.trans e0_1).trans (Mod.refl _ _)⟩))))))))))))))))))))))))))
end Go.Proofs.YtmglkjigmcikdaaGreatDoor
