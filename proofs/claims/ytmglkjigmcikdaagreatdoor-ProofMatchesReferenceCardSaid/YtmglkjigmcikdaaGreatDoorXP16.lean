/- Proof: is a list a repair. -/
import Derived.Test.YtmglkjigmcikdaaGreatDoorXP12
import Derived.Test.YtmglkjigmcikdaaGreatDoorXVcGuard
import Derived.Test.YtmglkjigmcikdaaGreatDoorXVcApp2
namespace Go.Proofs.YtmglkjigmcikdaaGreatDoor
open Go.Vc
set_option maxRecDepth 100000
set_option maxHeartbeats 16000000
def outE (P e : List Int) : Nat := (e.filter fun v => !decide (v ∈ P)).length
def onB (E : List (List Int)) (P : List Int) (v : Int) : Bool := decide (v ∈ P) || E.any fun e => decide (outE P e = 1) && decide (v ∈ e)
def repA (g : Gr) (P : List Int) : Bool := setB P g.n && (g.edges.all (fun e => !decide (outE P e = 0)) && (List.range g.n.toNat).all fun v => onB g.edges P (v : Int))
structure RpJ (w0 : World) (b5 bb N : Nat) (f : Nat → Bool) (I : List Bool) (w : World) : Prop where
 b : BvB w b5 (some ⟨bb, 0, none⟩) N N
 o : OwnT encBo 1 4 w0.heap.size w (some ⟨bb, 0, none⟩) N I
 l : I.length = N
 v : ∀ j, j < N → I.getD j default = f j
 e : Ext w0 w
theorem outM_E {I : List Bool} {P e : List Int} {N : Nat} (hv : ∀ j, j < N → I.getD j default = decide ((j : Int) ∈ P)) (he : ∀ v ∈ e, 0 ≤ v ∧ v < (N : Int)) : outM I e = outE P e := by
 unfold outM outE
 refine congrArg List.length (List.filter_congr fun v hx => ?_)
 have := he v hx
 rw [hv v.toNat (by omega), show ((v.toNat : Nat) : Int) = v by omega]
theorem onB_snoc (E : List (List Int)) (e P : List Int) (v : Int) : onB (E ++ [e]) P v = (onB E P v || (decide (outE P e = 1) && decide (v ∈ e))) := by
 unfold onB
 rw [List.any_append, List.any_cons, List.any_nil, Bool.or_false, Bool.or_assoc]
theorem mem_false {I : List Bool} {N : Nat} (hl : I.length = N) {f : Nat → Bool} (hv : ∀ j, j < N → I.getD j default = f j) : (!decide (false ∈ I)) = (List.range N).all f := by
 rw [Bool.eq_iff_iff, List.all_eq_true, Bool.not_eq_true', decide_eq_false_iff_not]
 constructor
 ·intro h j hj
  have hj := List.mem_range.1 hj
  rw [← hv j hj]
  cases hc : I.getD j default with
  | true => rfl
  | false => exact absurd (hc ▸ gmem (by omega)) h
 ·intro h hm
  obtain ⟨j, hj, he⟩ := List.getElem_of_mem hm
  have h1 := h j (List.mem_range.2 (by omega))
  rw [← hv j (by omega), gget hj, he] at h1
  cases h1
theorem repair30_spec (p : Nat) (cs : List Value) (T : TypeId) (g : GrW) (a : Option Addr) (c : Nat) (P : List Int) (N : Nat) (w : World) (hp : Blk w p (.cells (encGr g ++ cs).toArray T (0, 0))) (hG : GOk w g) (hl : GLen g) (hv : validG (grV g) = true) (hN : g.n = (N : Int)) (hP : IntSl w a P) (hm : P.length ≤ 1000000) :
  RetsP Tryz.prog 43 #[.pointer (some ⟨p, 0, none⟩), .slice a P.length c] w (.bool (repA (grV g) P)) := by
 have hn := costB_iff.1 (validG_iff.1 hv).1
 have hN4 : N ≤ 4000 := by have h0 : g.n ≤ 4000 := hn.2.1; omega
 have hE20 : g.edges.length ≤ 20000 := by have := (validG_iff.1 hv).2.1; simpa [grV, vals] using this
 refine enter (args := [_, _]) Tryz.func43 rfl Tryz.ntmps43 (by kernel_rfl) rfl ?_
 refine V.seq (V.region (VL.op (R.asB rfl) (VL.nil (V.seq (V.seq (V.region (VL.op (R.mvS rfl) (VL.op (R.mvP rfl) (VL.op (R.nilCheck rfl) (VL.op (R.fld' (o := 0) Tryz.runUnderlying80 rfl rfl Tryz.sizeOf25 rfl rfl) (VL.op (R.fld' (o := 0) Tryz.runUnderlying25 rfl rfl Tryz.sizeOf3 rfl rfl) (VL.op (R.ld1 Tryz.isAgg3 rfl ((show _ = some (Value.int .i64 g.n) from hp.cell 0))) (VL.callP Tryz.call54 rfl (below_spec a c P g.n _ (by omega) hP) fun w1_6 e1_6 => VL.op (R.not rfl) (VL.nil (V.cond rfl (fun c21 => V.seq (V.region (VL.op (R.asB rfl) (VL.nil (V.ret (fret1 (v := .bool _) rfl rfl rfl (?_))))))) (fun c21 => V.skip (V.seq (?_))))))))))))))))))
 ·have hs : setB P g.n = false := by simpa using c21
  exact ⟨by unfold repA; rw [show (grV g).n = g.n from rfl, hs]; rfl, e1_6⟩
 ·have hs : setB P g.n = true := by simpa using c21
  have hsr := (setB_iff.1 hs).2
  refine V.region (VL.op (R.mvP rfl) (VL.op (R.nilCheck rfl) (VL.op (R.fld' (o := 0) Tryz.runUnderlying80 rfl rfl Tryz.sizeOf25 rfl rfl) (VL.op (R.fld' (o := 0) Tryz.runUnderlying25 rfl rfl Tryz.sizeOf3 rfl rfl) (VL.op (R.ld1 Tryz.isAgg3 rfl ((show _ = some (Value.int .i64 ((N : Nat) : Int)) from by rw [← hN]; exact (hp.ext e1_6).cell 0))) (VL.makeSl (enc := encBo ) el67 ( false) rfl rfl rfl (by omega) (by unfold maxLen; omega) (Nat.le_refl _) fun bb w3 hbb e3 ho3 => VL.allocSt (v := .slice _ _ _) Tryz.zeroValue67 Tryz.sizeOf67 rfl rfl rfl rfl rfl fun b3_6 w3_6 hb3_6 e3_6 hB3_6 => VL.nil (V.cut [0, 1, 5] (fun _ : List Bool => [.pointer (some ⟨p, 0, none⟩), .slice a P.length c, .pointer (some ⟨b3_6, 0, none⟩)]) (fun I w' => RpJ w b3_6 bb N (fun j => decide ((j : Int) ∈ P)) I w') (V.seq (V.region (VL.op (R.mvS rfl) (VL.op (R.lenS Tryz.runUnderlying22 rfl) (VL.op (R.mvI rfl) (VL.nil (V.block (?_)))))))) (fun rgB0 xB0 wBB0 hBB0 => V.seq (?_)))))))))
  ·refine V.loop [0, 1, 5, 28, 29, 30] (fun x : Nat × List Bool => [.pointer (some ⟨p, 0, none⟩), .slice a P.length c, .pointer (some ⟨b3_6, 0, none⟩), .slice a P.length c, .int .i64 (P.length : Nat), .int .i64 (x.1 : Nat)])
    (fun x w' => x.1 ≤ P.length ∧ RpJ w b3_6 bb N (fun j => decide ((j : Int) ∈ P.take x.1)) x.2 w') (fun x => P.length - x.1) (0, List.replicate N false) rfl ⟨Nat.zero_le _, hB3_6, (ho3.ext e3_6).weaken e1_6.size, by simp, fun j hj => by simp [List.getD, hj], (e1_6.trans e3).trans e3_6⟩ ?_
   rintro ρ ⟨k, I⟩ w4 ⟨hk, hJ⟩
   dsimp only at hk hJ ⊢
   have hIl := hJ.l
   refine V.seq (V.region (VL.op (R.lss rfl rfl) (VL.nil (V.seq (V.condP rfl (fun c31 => V.skip (V.seq (V.block (V.seq (?_))))) (fun c31 => V.exit (?_)))))))
   ·have hkl : k < P.length := by omega
    have hvv := hsr _ (gmem hkl)
    have hne : b3_6 ≠ bb := by have := ho3.lt _ ⟨_, rfl, rfl⟩; dsimp only at this; omega
    refine V.region (VL.op (R.ixS Tryz.runUnderlying22 Tryz.sizeOf3 rfl rfl (by omega) (by omega) (((hP.ext hJ.e)).some (i := k) (by omega))) (VL.op (R.ld1 Tryz.isAgg3 rfl ((((((hP.ext hJ.e)).ext (Mod.refl _ _)).row (i := k) (by omega)).cell (i := 0) rfl))) (VL.op (R.asI rfl) (VL.nil (V.region (VL.op (R.ld1 Tryz.isAgg67 rfl ((show _ = some (Value.slice (some ⟨bb, 0, none⟩) N N) from hJ.b.cell 0))) (VL.op (R.mvI rfl) (VL.op (R.ixS Tryz.runUnderlying67 Tryz.sizeOf4 rfl rfl (by omega) (by omega) (hJ.o.sl.some (i := (P.getD k default).toNat) (by omega))) (VL.ownSt eltBo (v := .bool _) Tryz.sizeOf4 (hJ.o) (P.getD k default).toNat 0 true rfl rfl (by omega) rfl rfl rfl rfl rfl fun w11 ho11 m11 hs11 => VL.nil (V.region (VL.op (R.add rfl rfl (by omega) (by omega)) (VL.op (R.mvI rfl) (VL.nil (?_))))))))))))))
    refine ⟨(k + 1, I.set (P.getD k default).toNat true), rfl, ⟨by dsimp only; omega, hJ.b.mod m11 fun h => hne (aBlk_some h), ho11, by simp [hIl], fun j hj => ?_, hJ.e.ownA m11 fun q hq => hJ.o.ge q hq⟩, by dsimp only; omega⟩
    dsimp only
    rw [List.take_succ_eq_append_getElem hkl, ← gget hkl]
    by_cases e : j = (P.getD k default).toNat
    ·rw [← e, setD_eq _ (by omega)]
     exact (decide_eq_true (List.mem_append.2 (.inr (List.mem_singleton.2 (by omega))))).symm
    ·rw [setD_ne _ e, hJ.v j hj]
     exact decide_eq_decide.2 ⟨fun h => List.mem_append.2 (.inl h), fun h => (List.mem_append.1 h).resolve_right fun h => e (by have := List.mem_singleton.1 h; omega)⟩
   ·have hk2 : k = P.length := by omega
    subst hk2
    rw [List.take_length] at hJ
    exact ⟨I, rfl, hJ⟩
  ·have hI := hBB0.v
   have hIl := hBB0.l
   have hpB := hp.ext hBB0.e
   have hcl : RetsX Tryz.prog 68 #[.slice (some ⟨bb, 0, none⟩) N N] wBB0 (fun x : Option Addr × Nat => .slice x.1 N x.2) (fun x w' => OwnT encBo 1 4 wBB0.heap.size w' x.1 x.2 xB0) := by
    have := cloneBo_spec (some ⟨bb, 0, none⟩) N xB0 wBB0 (by omega) (fun h => nomatch h) hBB0.o.sl
    rwa [hIl] at this
   have hGv := fun {w' : World} (e : Ext w w') => (hG.ext e).e
   refine V.region (VL.op (R.mkFn rfl rfl) (VL.op (R.asF rfl) (VL.nil (V.seq (V.region (VL.op (R.ld1 Tryz.isAgg67 rfl ((show _ = some (Value.slice (some ⟨bb, 0, none⟩) N N) from hBB0.b.cell 0))) (VL.callX Tryz.call68 rfl (hcl) fun x10 w10 h10 e10 => VL.op (R.asS rfl) (VL.nil (V.cut [9] (fun _ : List Bool => [.slice x10.1 N x10.2]) (fun I w' => OwnT encBo 1 4 wBB0.heap.size w' x10.1 x10.2 I ∧ I.length = N ∧ (∀ j, j < N → I.getD j default = onB (vals g.edges) P (j : Int)) ∧ (∀ e ∈ vals g.edges, outE P e ≠ 0) ∧ Ext w w') (V.seq (V.region (VL.op (R.mvP rfl) (VL.op (R.nilCheck rfl) (VL.op (R.fld' (o := 0) Tryz.runUnderlying80 rfl rfl Tryz.sizeOf25 rfl rfl) (VL.op (R.fld' (o := 2) Tryz.runUnderlying25 rfl rfl Tryz.sizeOf23 rfl rfl) (VL.op (R.ld1 Tryz.isAgg23 rfl ((show _ = some (Value.slice g.ea g.edges.length g.ec) from (hpB.ext e10).cell 2))) (VL.op (R.lenS Tryz.runUnderlying23 rfl) (VL.op (R.mvI rfl) (VL.nil (V.block (?_)))))))))))) (fun rgB2 xB2 wBB2 hBB2 => V.seq (?_)))))))))))
   ·refine V.loop [8, 9, 45, 46, 47] (fun x : Nat × List Bool => [.func (.func 67) #[] #[.pointer (some ⟨b3_6, 0, none⟩)], .slice x10.1 N x10.2, .slice g.ea g.edges.length g.ec, .int .i64 (g.edges.length : Nat), .int .i64 (x.1 : Nat)])
     (fun x w' => x.1 ≤ g.edges.length ∧ OwnT encBo 1 4 wBB0.heap.size w' x10.1 x10.2 x.2 ∧ x.2.length = N ∧ (∀ j, j < N → x.2.getD j default = onB (vals (g.edges.take x.1)) P (j : Int)) ∧ (∀ e ∈ vals (g.edges.take x.1), outE P e ≠ 0) ∧ Ext wBB0 w') (fun x => g.edges.length - x.1) (0, xB0) rfl ⟨Nat.zero_le _, h10, hIl, fun j hj => by rw [hI j hj]; simp [onB, vals], by simp [vals], e10⟩ ?_
    rintro ρ ⟨k, I⟩ w4 ⟨hk, hJ, hJl, hJv, hJo, hJe⟩
    dsimp only at hk hJ hJl hJv hJo hJe ⊢
    have hE4 := hGv (hBB0.e.trans hJe)
    refine V.seq (V.region (VL.op (R.lss rfl rfl) (VL.nil (V.seq (V.condP rfl (fun c48 => V.skip (V.seq (V.block (V.seq (?_))))) (fun c48 => V.exit (?_)))))))
    ·have hkl : k < g.edges.length := by omega
     have hxs := (validG_iff.1 hv).2.2.1 _ (List.mem_map_of_mem (gmem hkl))
     have hxv : ∀ y ∈ (g.edges.getD k default).l, 0 ≤ y ∧ y < (N : Int) := fun y hy => by have := hxs.2.2 y hy; rw [show (grV g).n = g.n from rfl, hN] at this; exact this
     have hvt : vals (g.edges.take (k + 1)) = vals (g.edges.take k) ++ [(g.edges.getD k default).l] := by
      rw [List.take_succ_eq_append_getElem hkl, gget hkl]; unfold vals; rw [List.map_append]; rfl
     have hxl := (hl.each _ (gmem hkl)).1
     have hb4 := hBB0.b.ext hJe
     have ho4 := hBB0.o.ext hJe
     have hh := outM_E hI hxv
     refine V.region (VL.op (R.ixS Tryz.runUnderlying23 Tryz.sizeOf22 rfl rfl (by omega) (by omega) ((hE4.sl).some (i := k) (by omega))) (VL.op (R.ld1 Tryz.isAgg22 rfl (((((hE4.sl).ext (Mod.refl _ _)).row (i := k) (by omega)).cell (i := 0) rfl))) (VL.op (R.asS rfl) (VL.nil (V.seq (V.region (VL.op (R.mvF rfl) (VL.op (R.mvS rfl) (VL.callCP rfl (Tryz.call67) rfl (hits_spec b3_6 (some ⟨bb, 0, none⟩) N xB0 (g.edges.getD k default).a (g.edges.getD k default).c (g.edges.getD k default).l w4 (by rw [hIl]; exact hb4) ho4.sl (hE4.at hkl) (by omega) (by rw [hIl]; exact hxv)) fun w14_2 e14_2 => VL.nil (V.block (V.seq (V.region (VL.op (R.eql rfl rfl) (VL.op (R.asB rfl) (VL.nil (V.condP rfl (fun c54 => V.seq (V.region (VL.op (R.asB rfl) (VL.nil (V.ret (fret1 (v := .bool _) rfl rfl rfl (?_))))))) (fun c54 => V.seq (V.region (VL.op (R.eql rfl rfl) (VL.op (R.asB rfl) (VL.nil (V.condP rfl (fun c56 => V.seq (?_)) (fun c56 => V.skip (V.region (VL.op (R.add rfl rfl (by omega) (by omega)) (VL.op (R.mvI rfl) (VL.nil (?_))))))))))))))))))))))))))))
     ·have h0 : outE P (g.edges.getD k default).l = 0 := by rw [← hh]; omega
      refine ⟨congrArg Value.bool ?_, (hBB0.e.trans hJe).trans e14_2⟩
      have : (grV g).edges.all (fun e => !decide (outE P e = 0)) = false := List.all_eq_false.2 ⟨_, List.mem_map_of_mem (gmem hkl), by rw [h0]; decide⟩
      unfold repA
      rw [this, Bool.false_and, Bool.and_false]
     ·have h1 : outE P (g.edges.getD k default).l = 1 := by rw [← hh]; omega
      refine V.region (VL.op (R.mvS rfl) (VL.op (R.lenS Tryz.runUnderlying22 rfl) (VL.op (R.mvI rfl) (VL.nil (V.block (?_))))))
      refine V.loop [8, 9, 45, 46, 47, 58, 59, 60] (fun x : Nat × List Bool => [.func (.func 67) #[] #[.pointer (some ⟨b3_6, 0, none⟩)], .slice x10.1 N x10.2, .slice g.ea g.edges.length g.ec, .int .i64 (g.edges.length : Nat), .int .i64 (k : Nat), .slice (g.edges.getD k default).a (g.edges.getD k default).l.length (g.edges.getD k default).c, .int .i64 ((g.edges.getD k default).l.length : Nat), .int .i64 (x.1 : Nat)])
       (fun x w' => x.1 ≤ (g.edges.getD k default).l.length ∧ OwnT encBo 1 4 wBB0.heap.size w' x10.1 x10.2 x.2 ∧ x.2.length = N ∧ (∀ j, j < N → x.2.getD j default = (onB (vals (g.edges.take k)) P (j : Int) || decide ((j : Int) ∈ (g.edges.getD k default).l.take x.1))) ∧ Ext wBB0 w') (fun x => (g.edges.getD k default).l.length - x.1) (0, I) rfl ⟨Nat.zero_le _, hJ.ext e14_2, hJl, fun j hj => by rw [hJv j hj]; simp, hJe.trans e14_2⟩ ?_
      rintro ρ ⟨i, I2⟩ w5 ⟨hi, hK, hKl, hKv, hKe⟩
      dsimp only at hi hK hKl hKv hKe ⊢
      have hx5 : IntSl w5 (g.edges.getD k default).a (g.edges.getD k default).l := (hGv (hBB0.e.trans hKe)).at hkl
      refine V.seq (V.region (VL.op (R.lss rfl rfl) (VL.nil (V.seq (V.condP rfl (fun c61 => V.skip (V.seq (V.block (V.seq (?_))))) (fun c61 => V.exit (V.region (VL.op (R.add rfl rfl (by omega) (by omega)) (VL.op (R.mvI rfl) (VL.nil (?_)))))))))))
      ·have hil : i < (g.edges.getD k default).l.length := by omega
       have hvv := hxv _ (gmem hil)
       refine V.region (VL.op (R.ixS Tryz.runUnderlying22 Tryz.sizeOf3 rfl rfl (by omega) (by omega) ((hx5).some (i := i) (by omega))) (VL.op (R.ld1 Tryz.isAgg3 rfl (((((hx5).ext (Mod.refl _ _)).row (i := i) (by omega)).cell (i := 0) rfl))) (VL.op (R.asI rfl) (VL.nil (V.region (VL.op (R.mvS rfl) (VL.op (R.mvI rfl) (VL.op (R.ixS Tryz.runUnderlying67 Tryz.sizeOf4 rfl rfl (by omega) (by omega) (hK.sl.some (i := ((g.edges.getD k default).l.getD i default).toNat) (by omega))) (VL.ownSt eltBo (v := .bool _) Tryz.sizeOf4 (hK) ((g.edges.getD k default).l.getD i default).toNat 0 true rfl rfl (by omega) rfl rfl rfl rfl rfl fun w11 ho11 m11 hs11 => VL.nil (V.region (VL.op (R.add rfl rfl (by omega) (by omega)) (VL.op (R.mvI rfl) (VL.nil (?_))))))))))))))
       refine ⟨(i + 1, I2.set ((g.edges.getD k default).l.getD i default).toNat true), rfl, ⟨by dsimp only; omega, ho11, by simp [hKl], fun j hj => ?_, hKe.ownA m11 fun q hq => hK.ge q hq⟩, by dsimp only; omega⟩
       dsimp only
       rw [List.take_succ_eq_append_getElem hil, ← gget hil]
       by_cases e : j = ((g.edges.getD k default).l.getD i default).toNat
       ·rw [← e, setD_eq _ (by omega), decide_eq_true (List.mem_append.2 (.inr (List.mem_singleton.2 (by omega)))), Bool.or_true]
       ·rw [setD_ne _ e, hKv j hj]
        congr 1
        exact decide_eq_decide.2 ⟨fun h => List.mem_append.2 (.inl h), fun h => (List.mem_append.1 h).resolve_right fun h => e (by have := List.mem_singleton.1 h; omega)⟩
      ·have hie : i = (g.edges.getD k default).l.length := by omega
       subst hie
       have hO : ∀ e ∈ vals (g.edges.take (k + 1)), outE P e ≠ 0 := by
        rw [hvt]
        intro e he
        rcases List.mem_append.1 he with he | he
        ·exact hJo e he
        ·rw [List.mem_singleton.1 he, h1]; decide
       refine ⟨(k + 1, I2), rfl, ⟨by dsimp only; omega, hK, hKl, fun j hj => ?_, hO, hKe⟩, by dsimp only; omega⟩
       dsimp only
       rw [hvt, onB_snoc, hKv j hj, h1, decide_eq_true rfl, Bool.true_and, List.take_length]
     ·have hO : ∀ e ∈ vals (g.edges.take (k + 1)), outE P e ≠ 0 := by
       rw [hvt]
       intro e he
       rcases List.mem_append.1 he with he | he
       ·exact hJo e he
       ·rw [List.mem_singleton.1 he, ← hh]; omega
      refine ⟨(k + 1, I), rfl, ⟨by dsimp only; omega, hJ.ext e14_2, hJl, fun j hj => ?_, hO, hJe.trans e14_2⟩, by dsimp only; omega⟩
      dsimp only
      rw [hvt, onB_snoc, hJv j hj, decide_eq_false (by rw [← hh]; omega), Bool.false_and, Bool.or_false]
    ·have hk2 : k = g.edges.length := by omega
     subst hk2
     rw [List.take_length] at hJv hJo
     exact ⟨I, rfl, hJ, hJl, hJv, hJo, hBB0.e.trans hJe⟩
   ·obtain ⟨hK, hKl, hKv, hKo, hKe⟩ := hBB2
    have hcn : RetsP Tryz.prog 69 #[.slice x10.1 N x10.2, .bool false] wBB2 (.bool (decide (false ∈ xB2))) := by
     have := containsBo_spec x10.1 x10.2 xB2 false wBB2 (by omega) hK.sl
     rwa [hKl] at this
    refine V.region (VL.op (R.mvS rfl) (VL.callP Tryz.call69 rfl (hcn) fun w24_1 e24_1 => VL.op (R.not rfl) (VL.op (R.asB rfl) (VL.nil (V.ret (fret1 (v := .bool _) rfl rfl rfl (⟨?_, hKe.trans e24_1⟩)))))))
    refine congrArg Value.bool ?_
    rw [mem_false hKl hKv]
    unfold repA
    rw [show (grV g).n = g.n from rfl, hs, Bool.true_and, show (grV g).edges.all (fun e => !decide (outE P e = 0)) = true from List.all_eq_true.2 fun e he => by rw [decide_eq_false (hKo e he)]; rfl, Bool.true_and, show g.n.toNat = N by omega]
    rfl
end Go.Proofs.YtmglkjigmcikdaaGreatDoor

/- Proof: a proof is shown. -/
namespace Go.Vc
def AtL (p : Nat) (T : TypeId) (C : Nat → Array Value) (i : Nat) (w : World) : Prop := ∃ j, i ≤ j ∧ j ≤ 2 ∧ Blk w p (.cells (C j) T (0, 0))
structure Stg (p : Nat) (T : TypeId) (C : Nat → Array Value) (w w' : World) : Prop where
 m : Mod (one p) w w'
 k : ∀ i, AtL p T C i w → AtL p T C i w'
instance (p : Nat) (T : TypeId) (C : Nat → Array Value) : Turn (Stg p T C) where
 refl _a := ⟨Mod.refl _ _, fun _ h => h⟩
 trans h k := ⟨h.m.trans k.m, fun i x => k.k i (h.k i x)⟩
 ext e := ⟨e.mod, fun _ ⟨j, h1, h2, h3⟩ => ⟨j, h1, h2, h3.ext e⟩⟩
theorem Stg.store {p : Nat} {T : TypeId} {C : Nat → Array Value} {w w' : World} {c c' : Array Value} {i : Nat} (hB : Blk w p (.cells c T (0, 0))) (m : Mod (one p) w w') (hB' : Blk w' p (.cells c' T (0, 0))) (h0 : AtL p T C 0 w)
  (hc : ∀ j, j ≤ 2 → C j = c → ∃ j', j ≤ j' ∧ i ≤ j' ∧ j' ≤ 2 ∧ C j' = c') : AtL p T C i w' ∧ Stg p T C w w' := by
 have hk : ∀ k, AtL p T C k w → ∃ j', k ≤ j' ∧ i ≤ j' ∧ j' ≤ 2 ∧ Blk w' p (.cells (C j') T (0, 0)) := by
  rintro k ⟨j, h1, h2, h3⟩
  have e := h3.symm.trans hB
  injection e with e
  injection e with e1 _ _
  obtain ⟨j', k1, k2, k3, k4⟩ := hc j h2 e1
  exact ⟨j', by omega, k2, k3, by rw [k4]; exact hB'⟩
 refine ⟨?_, m, fun k h => ?_⟩
 ·obtain ⟨j', _, k2, k3, k4⟩ := hk 0 h0
  exact ⟨j', k2, k3, k4⟩
 ·obtain ⟨j', k1, _, k3, k4⟩ := hk k h
  exact ⟨j', k1, k3, k4⟩
end Go.Vc
namespace Go.Proofs.YtmglkjigmcikdaaGreatDoor
open Go.Vc
set_option maxRecDepth 100000
set_option maxHeartbeats 16000000
def encRd (x : CkX) (N : Nat) (h : Bool) (s n : Value) : List Value := [.int .i64 x.g.n, .slice x.g.ca x.g.cost.length x.g.cc, .slice x.g.ea x.g.edges.length x.g.ec, .slice x.wa x.W.length x.wc, .bool h, s, .slice (some ⟨x.zb, 0, none⟩) x.z.length x.z.length, .slice (some ⟨x.tb, 0, none⟩) N N, n, .map (some x.mr)]
structure RdOk (w0 : World) (x : CkX) (N : Nat) (w : World) : Prop where
 blk : Blk w x.p (.cells (Value.agg (encRd x N false (.slice none 0 0) (.slice none 0 0)).toArray).cells 80 (0, 0))
 e : Ext w0 w
 g : GOk w0 x.g
 W : WL w0 x.wa x.W
 z : LL w (some ⟨x.zb, 0, none⟩) x.z
 t : OwnT Vc.encI 1 3 w0.heap.size w (some ⟨x.tb, 0, none⟩) N (List.replicate N 0)
 k : MapIs w x.mr kI kindsL
 zp : ∀ q, q = x.zb ∨ (∃ y ∈ x.z, aBlk y.a q) ∨ q = x.mr → q ≠ x.p ∧ q ≠ x.tb ∧ q < w.heap.size
 pB : w0.heap.size ≤ x.p
 pt : x.p ≠ x.tb
def stgC (x : CkX) (N : Nat) (h : Bool) (s : Value) (i : Nat) : Array Value := (Value.agg (encRd x N (if i = 0 then false else h) (if i ≤ 1 then .slice none 0 0 else s) (.slice none 0 0)).toArray).cells
theorem stg_hold {x : CkX} {N : Nat} {h : Bool} {s : Value} {j : Nat} (k : j ≤ 2) : ∃ j', j ≤ j' ∧ 1 ≤ j' ∧ j' ≤ 2 ∧ stgC x N h s j' = putCells (stgC x N h s j) 4 (Value.bool h).cells.toList := by
 have hj : j = 0 ∨ j = 1 ∨ j = 2 := by omega
 rcases hj with rfl | rfl | rfl
 ·exact ⟨1, by decide, by decide, by decide, rfl⟩
 ·exact ⟨1, by decide, by decide, by decide, rfl⟩
 ·exact ⟨2, by decide, by decide, by decide, rfl⟩
theorem stg_steps {x : CkX} {N : Nat} {h : Bool} {a : Option Addr} {n c : Nat} {j : Nat} (h1 : 1 ≤ j) (k : j ≤ 2) : stgC x N h (.slice a n c) 2 = putCells (stgC x N h (.slice a n c) j) 5 (Value.slice a n c).cells.toList := by
 have hj : j = 1 ∨ j = 2 := by omega
 rcases hj with rfl | rfl
 ·rfl
 ·rfl
theorem shows_spec (N : Nat) (x : CkX) (sa : Option Addr) (sc : Nat) (S : List St4) (h : Bool) (w0 w : World) (hx : RdOk w0 x N w) (hS : TSl encS4 4 w0 sa S) (hl : S.length ≤ 9223372036854775807) (hR : ∀ nb, S.length ≤ 100000 → CkR { x with h := h, sa := sa, sc := sc, S := S, nb := nb } N) :
  Rets Tryz.prog 36 #[.pointer (some ⟨x.p, 0, none⟩), .agg #[.slice sa S.length sc], .bool h] w (fun u w' => u = .bool (decide (0 < S.length ∧ S.length ≤ 100000) && (rightO ⟨x.g.n, vals x.g.edges, x.W.map wyV, h, S⟩ S.length 0 (List.replicate N 0) (List.replicate S.length false)).isSome) ∧ Vc.Mod (fun q => q = x.p ∨ q = x.tb) w w') := by
 have hSw : TSl encS4 4 w sa S := hS.ext hx.e
 refine enter (args := [_, _, _]) Tryz.func36 rfl Tryz.ntmps36 (by kernel_rfl) rfl ?_
 have E0 : ∀ {w' : World}, Ext w w' → Vc.Mod (fun q => q = x.p ∨ q = x.tb) w w' := fun e => e.weaken fun _ _ h => h.elim
 refine V.seq (V.region (VL.box (v := .agg _) rfl fun b0_0 w0_0 hb0_0 e0_0 hB0_0 => VL.op (R.asB rfl) (VL.nil (V.seq (V.seq (V.region (VL.op (R.fld' (o := 0) Tryz.runUnderlying29 rfl rfl Tryz.sizeOf27 rfl rfl) (VL.op (R.ld1 Tryz.isAgg27 rfl ((hB0_0.cell _))) (VL.op (R.lenS Tryz.runUnderlying27 rfl) (VL.op (R.eql rfl rfl) (VL.op (R.mvB rfl) (VL.orP rfl rfl (fun g1_4 => VL.op (R.fld' (o := 0) Tryz.runUnderlying29 rfl rfl Tryz.sizeOf27 rfl rfl) (VL.gT rfl rfl (VL.op (R.ld1 Tryz.isAgg27 rfl ((hB0_0.cell _))) (VL.gT rfl rfl (VL.op (R.lenS Tryz.runUnderlying27 rfl) (VL.gT rfl rfl (VL.op (R.gtr rfl rfl) (VL.op (R.pickFB rfl rfl) (VL.nil (V.condP rfl (fun c16 => V.seq (V.region (VL.op (R.asB rfl) (VL.nil (V.ret (fret1 (v := .bool _) rfl rfl rfl (?_))))))) (fun c16 => V.skip (V.seq (?_))))))))))))) (fun g1_4 => VL.gF rfl rfl (VL.gF rfl rfl (VL.gF rfl rfl (VL.op (R.pickTB rfl rfl) (VL.nil (V.condT rfl (V.seq (V.region (VL.op (R.asB rfl) (VL.nil (V.ret (fret1 (v := .bool _) rfl rfl rfl (?_)))))))))))))))))))))))))
 ·refine ⟨congrArg Value.bool ?_, E0 e0_0⟩
  rw [decide_eq_false (by omega), Bool.false_and]
 ·have hpl := hx.blk.lt
  have hne : b0_0 ≠ x.p := by omega
  have hC0 : ∀ {wq : World}, Stg x.p 80 (stgC x N h (.slice sa S.length sc)) w0_0 wq → AtL x.p 80 (stgC x N h (.slice sa S.length sc)) 0 wq := fun eq => eq.k 0 ⟨0, Nat.le_refl _, by decide, hx.blk.ext e0_0⟩
  refine V.regionT (T := (Stg x.p 80 (stgC x N h (.slice sa S.length sc)))) mixed 16 (by kernel_rfl) rfl (fun us => VT.op (fun wq eq => R.mvP rfl) (VT.op (fun wq eq => R.mvP rfl) (VT.op (fun wq eq => R.mvP rfl) (VT.op (fun wq eq => R.mvB rfl) (VT.op (fun wq eq => R.fld' (o := 0) Tryz.runUnderlying29 rfl rfl Tryz.sizeOf27 rfl rfl) (VT.op (fun wq eq => R.ld1 Tryz.isAgg27 rfl ((show wq.cell? ⟨b0_0, 0, none⟩ = some (Value.slice sa S.length sc) from (hB0_0.mod eq.m hne).cell 0))) (VT.op (fun wq eq => R.fld' (o := 0) Tryz.runUnderlying29 rfl rfl Tryz.sizeOf27 rfl rfl) (VT.op (fun wq eq => R.ld1 Tryz.isAgg27 rfl ((show wq.cell? ⟨b0_0, 0, none⟩ = some (Value.slice sa S.length sc) from (hB0_0.mod eq.m hne).cell 0))) (VT.op (fun wq eq => R.lenS Tryz.runUnderlying27 rfl) (VT.spec (fun u w' => ∃ b, u = .slice (some ⟨b, 0, none⟩) S.length S.length ∧ OwnT encBo 1 4 w0_0.heap.size w' (some ⟨b, 0, none⟩) S.length (List.replicate S.length false)) (fun u a b _ ⟨c, hc, h1⟩ eb => ⟨c, hc, h1.mod eb.m fun k hk hs => by have := OwnT.ge h1 k hk; have h2 : k = x.p := hs; have := e0_0.size; omega⟩) rfl (fun wq eq hq => yieldsR_make el67 false rfl rfl rfl (by omega) (by unfold maxLen; omega) eq.m.size fun b w' hb he hO => ⟨⟨b, rfl, hO⟩, Turn.ext he⟩) (VT.op (fun wq eq => R.nilCheck rfl) (VT.op (fun wq eq => R.fld' (o := 4) Tryz.runUnderlying80 rfl rfl Tryz.sizeOf4 rfl rfl) (VT.spec (fun _ w' => AtL x.p 80 (stgC x N h (.slice sa S.length sc)) 1 w') (fun u a b _ h1 (eb : Stg x.p 80 (stgC x N h (.slice sa S.length sc)) a b) => eb.k 1 h1) rfl (fun wq eq hq => by
     obtain ⟨j, _, hj2, hj⟩ := hC0 eq
     refine yieldsR_store Tryz.sizeOf4 (v := .bool h) (ad := ⟨x.p, 4, none⟩) rfl rfl rfl rfl hj rfl rfl fun w' m hs hB => Stg.store (i := 1) hj m hB (hC0 eq) fun j2 k1 k2 => ?_
     rw [← k2]
     exact stg_hold k1) (VT.op (fun wq eq => R.nilCheck rfl) (VT.op (fun wq eq => R.fld' (o := 5) Tryz.runUnderlying80 rfl rfl Tryz.sizeOf27 rfl rfl) (VT.spec (fun _ w' => AtL x.p 80 (stgC x N h (.slice sa S.length sc)) 2 w') (fun u a b _ h1 (eb : Stg x.p 80 (stgC x N h (.slice sa S.length sc)) a b) => eb.k 2 h1) rfl (fun wq eq hq => by
     obtain ⟨j, hj1, hj2, hj⟩ := hq 12 (by kernel_rfl)
     refine yieldsR_store Tryz.sizeOf27 (v := .slice sa S.length sc) (ad := ⟨x.p, 5, none⟩) rfl rfl rfl rfl hj rfl rfl fun w' m hs hB => Stg.store (i := 2) hj m hB (hC0 eq) fun j2 k1 k2 => ?_
     exact ⟨2, k1, by decide, by decide, stg_steps hj1 hj2⟩) (VT.nil (fun w3 e3 h3 => ?_)))))))))))))))))) rfl
  obtain ⟨nb, hnb, hno⟩ := h3 9
  obtain ⟨j, hj1, hj2, hj⟩ := h3 15
  obtain rfl : j = 2 := by omega
  rw [hnb]
  refine VL.op (R.nilCheck rfl) (VL.op (R.fld' (o := 8) Tryz.runUnderlying80 rfl rfl Tryz.sizeOf67 rfl rfl) (VL.store (v := .slice _ _ _) Tryz.sizeOf67 rfl rfl rfl rfl hj rfl rfl fun w4 m4 hs4 hB4 => VL.nil (V.seq (?_))))
  obtain ⟨y, hy⟩ : ∃ y : CkX, y = { x with h := h, sa := sa, sc := sc, S := S, nb := nb } := ⟨_, rfl⟩
  have hM : Vc.Mod (Vc.one x.p) w w4 := (e0_0.mod.trans e3.m).trans m4
  have hnn := hno.ge _ ⟨_, rfl, rfl⟩
  have hCk : CkOk y w4 (List.replicate N 0) (List.replicate S.length false) := by
   subst hy
   refine ⟨?_, ⟨w0, hx.e.ownA hM fun q hq => by have h2 : q = x.p := hq; have := hx.pB; omega, ?_, hx.g, hx.W, hS⟩, ?_, ?_, ?_, ?_, ?_, ?_⟩
   ·rw [List.length_replicate, List.length_replicate]
    exact hB4
   ·intro q hq
    have k1 := hx.t.ge _ ⟨_, rfl, rfl⟩
    have k2 := hx.e.size
    have k3 := e0_0.size
    dsimp only at k1 hnn
    rcases hq with rfl | rfl
    ·exact k1
    ·omega
   ·exact hx.z.mod30 hM (fun q hq => (hx.zp q (.inl (aBlk_some hq))).1) fun y hy q hq => (hx.zp q (.inr (.inl ⟨y, hy, hq⟩))).1
   ·rw [List.length_replicate]
    exact (hx.t.mod hM fun q h1 h2 => hx.pt (Eq.trans (Eq.symm h2) (aBlk_some h1))).weaken (Nat.zero_le _)
   ·rw [List.length_replicate]
    exact (hno.mod m4 fun q h1 h2 => by have k1 := hno.ge q h1; have k3 := e0_0.size; have h3 : q = x.p := h2; omega).weaken (Nat.zero_le _)
   ·exact hx.k.mod hM (hx.zp _ (.inr (.inr rfl))).1
   ·intro q hq ht
    have k1 := hx.t.lt _ ⟨_, rfl, rfl⟩
    have k3 := e0_0.size
    have k4 := hx.pt
    dsimp only at k1 hnn
    have hF : q = x.p ∨ (q ≠ x.p ∧ q ≠ x.tb ∧ q < w.heap.size) := by
     rcases hq with h1 | h1 | h1 | h1
     ·exact .inr (hx.zp q (.inl h1))
     ·exact .inr (hx.zp q (.inr (.inl h1)))
     ·exact .inl h1
     ·exact .inr (hx.zp q (.inr (.inr h1)))
    have hT : q = x.tb ∨ q = nb := ht
    omega
   ·have k1 := hx.t.lt _ ⟨_, rfl, rfl⟩
    have k3 := e0_0.size
    dsimp only at k1 hnn ⊢
    omega
  have hyp : y.p = x.p := by rw [hy]
  have hyS : y.S = S := by rw [hy]
  have hyc : y.ctx = ⟨x.g.n, vals x.g.edges, x.W.map wyV, h, S⟩ := by rw [hy]; rfl
  have hrs := right_spec y N (by rw [hy]; exact hR nb (by omega)) S.length 0 (List.replicate N 0) (List.replicate S.length false) w4 (by rw [hyS]; omega) (by rw [hyS]; omega) hCk (by simp) (by rw [hyS]; simp)
  rw [hyp, hyc] at hrs
  refine V.region (VL.op (R.mvP rfl) (VL.callY Tryz.call62 rfl (hrs) fun sn5 w5 h5 => VL.op (R.asB rfl) (VL.nil (V.ret (fret1 (v := .bool _) rfl rfl rfl (⟨?_, ?_⟩))))))
  ·rw [decide_eq_true (by omega), Bool.true_and]
  ·refine (hM.weaken fun _ _ h => .inl h).then h5.m fun q hq ht => ?_
   have k3 := e0_0.size
   dsimp only at hnn
   have hT : q = x.tb ∨ q = nb := by rw [hy] at ht; exact ht
   exact .inr (hT.resolve_right fun e => by omega)
 ·refine ⟨congrArg Value.bool ?_, E0 e0_0⟩
  rw [decide_eq_false (by omega), Bool.false_and]
end Go.Proofs.YtmglkjigmcikdaaGreatDoor

/- Proof: the edges of each vertex are kept. -/
namespace Go.Proofs.YtmglkjigmcikdaaGreatDoor
open Go.Vc
set_option maxRecDepth 100000
set_option maxHeartbeats 16000000
structure BdOk (B : Nat) (x : CkX) (N : Nat) (w : World) : Prop where
 blk : Blk w x.p (.cells (Value.agg (encRd x N false (.slice none 0 0) (.slice none 0 0)).toArray).cells 80 (0, 0))
 a : GLs B w (some ⟨x.zb, 0, none⟩) x.z.length x.z
 t : OwnT Vc.encI 1 3 B w (some ⟨x.tb, 0, none⟩) N (List.replicate N 0)
 k : MapIs w x.mr kI kindsL
 pB : B ≤ x.p
 pt : x.p ≠ x.tb
 pz : x.p ≠ x.zb
 tz : x.tb ≠ x.zb
 pm : x.p < x.mr
 zm : x.zb < x.mr
 tm : x.tb < x.mr
 up : ∀ j q, aBlk (x.z.getD j default).a q → x.mr < q
theorem BdOk.ext {B : Nat} {x : CkX} {N : Nat} {w w' : World} (h : BdOk B x N w) (e : Ext w w') : BdOk B x N w' :=
 ⟨h.blk.ext e, h.a.ext e, h.t.ext e, h.k.ext e, h.pB, h.pt, h.pz, h.tz, h.pm, h.zm, h.tm, h.up⟩
theorem ready2_spec (B N b6 b7 v k : Nat) (x : CkX) (w : World) (h : BdOk B x N w) (hz : x.z.length = N) (hvN : v < N) (_hN : N ≤ 4000) (h6 : PtC w b6 x) (h7 : NuB w b7 ((k : Nat) : Int)) (h6m : b6 < x.mr) (h7z : ∀ j q, aBlk (x.z.getD j default).a q → q ≠ b7) (hll : (x.z.getD v default).l.length ≤ 20001) :
  RetsY Tryz.prog 61 #[.int .i64 (v : Nat), .pointer (some ⟨b6, 0, none⟩), .pointer (some ⟨b7, 0, none⟩)] w (fun _ : SlI => .tuple #[]) (fun y w' => y.l = (x.z.getD v default).l ++ [((k : Nat) : Int)] ∧ (∀ q, aBlk y.a q → q ≠ b7) ∧ BdOk B { x with z := x.z.set v y } N w' ∧ Vc.Mod (fun q => q = x.zb ∨ aBlk (x.z.getD v default).a q) w w') := by
 have hx := h.a.each v
 have hxl2 := hx.lt
 have hxg := hx.ge
 have hxp := h.up v
 have hpm := h.pm
 have h6q : ∀ {wq : World}, TA Vc.encI 1 3 B (x.z.getD v default).a (x.z.getD v default).c (x.z.getD v default).l ((k : Nat) : Int) w wq → PtC wq b6 x := fun tt => h6.mod tt.m fun h => by have := hxp _ h; omega
 have h7q : ∀ {wq : World}, TA Vc.encI 1 3 B (x.z.getD v default).a (x.z.getD v default).c (x.z.getD v default).l ((k : Nat) : Int) w wq → NuB wq b7 ((k : Nat) : Int) := fun tt => h7.mod tt.m fun h => h7z v _ h rfl
 have hpq : ∀ {wq : World}, TA Vc.encI 1 3 B (x.z.getD v default).a (x.z.getD v default).c (x.z.getD v default).l ((k : Nat) : Int) w wq → Blk wq x.p (.cells (Value.agg (encRd x N false (.slice none 0 0) (.slice none 0 0)).toArray).cells 80 (0, 0)) := fun tt => h.blk.mod tt.m fun h => by have := hxp _ h; omega
 refine enter (args := [_, _, _]) Tryz.func61 rfl Tryz.ntmps61 (by kernel_rfl) rfl ?_
 refine V.regionT (T := (TA Vc.encI 1 3 B (x.z.getD v default).a (x.z.getD v default).c (x.z.getD v default).l ((k : Nat) : Int))) mixed 15 (by kernel_rfl) rfl (fun us => VT.op (fun wq eq => R.ld1 Tryz.isAgg61 rfl ((show wq.cell? ⟨b6, 0, none⟩ = some (Value.pointer (some ⟨x.p, 0, none⟩)) from (h6q eq).cell 0))) (VT.op (fun wq eq => R.nilCheck rfl) (VT.op (fun wq eq => R.fld' (o := 6) Tryz.runUnderlying80 rfl rfl Tryz.sizeOf23 rfl rfl) (VT.op (fun wq eq => R.ld1 Tryz.isAgg23 rfl ((show wq.cell? ⟨x.p, 6, none⟩ = some (Value.slice (some ⟨x.zb, 0, none⟩) x.z.length x.z.length) from (hpq eq).cell 6))) (VT.op (fun wq eq => R.mvI rfl) (VT.op (fun wq eq => R.ld1 Tryz.isAgg61 rfl ((show wq.cell? ⟨b6, 0, none⟩ = some (Value.pointer (some ⟨x.p, 0, none⟩)) from (h6q eq).cell 0))) (VT.op (fun wq eq => R.nilCheck rfl) (VT.op (fun wq eq => R.fld' (o := 6) Tryz.runUnderlying80 rfl rfl Tryz.sizeOf23 rfl rfl) (VT.op (fun wq eq => R.ld1 Tryz.isAgg23 rfl ((show wq.cell? ⟨x.p, 6, none⟩ = some (Value.slice (some ⟨x.zb, 0, none⟩) x.z.length x.z.length) from (hpq eq).cell 6))) (VT.op (fun wq eq => R.mvI rfl) (VT.op (fun wq eq => R.ixS Tryz.runUnderlying23 Tryz.sizeOf22 rfl rfl (by omega) (by omega) (h.a.own.sl.some (i := v) (by omega))) (VT.op (fun wq eq => R.ld1 Tryz.isAgg22 rfl (((((h.a.own.mod eq.m (h.a.out _)).sl).row (i := v) (by omega)).cell (i := 0) rfl))) (VT.op (fun wq eq => R.ld1 Tryz.isAgg3 rfl ((show wq.cell? ⟨b7, 0, none⟩ = some (Value.int .i64 ((k : Nat) : Int)) from (h7q eq).cell 0))) (VT.spec (SB1 Vc.encI 1 3 w.heap.size ((k : Nat) : Int)) (fun u x y _ ⟨bb, h1, h2⟩ eb => ⟨bb, h1, h2.mod eb.m fun k hk hs => by have := OwnT.ge h2 k hk; have := hxl2 k hs; omega⟩) rfl (fun wq eq hq => yieldsR_build1 Tryz.runUnderlying22 Tryz.sizeOf3 Tryz.zeroValue3 rfl rfl rfl ((k : Nat) : Int) rfl rfl rfl eq.m.size fun b w2 ho he => ⟨⟨b, rfl, ho⟩, Turn.ext he⟩) (VT.spec (SA Vc.encI 1 3 B w.heap.size (x.z.getD v default).a (x.z.getD v default).c (x.z.getD v default).l ((k : Nat) : Int)) (SA.mono hx) rfl (fun wq eq hq => by
    obtain ⟨bb, hb, hB⟩ := hq 13 (by kernel_rfl)
    refine yieldsR_app1 (a := (x.z.getD v default).a) (cap := (x.z.getD v default).c) (b := bb) (l := (x.z.getD v default).l) (u := ((k : Nat) : Int)) el22 (fun _ => rfl) hx eq ?_ ?_ hB.sl (by omega) (by unfold maxLen; omega) (by have := h.blk.lt; have := h.pB; omega)
    ·rfl
    ·exact hb) (VT.nil (fun w10 e10 h10 => ?_))))))))))))))))) rfl
 obtain ⟨a', c', hu, hO, hd⟩ := h10 14
 have hm10 := e10.m
 rw [hu]
 refine VL.op (R.ixS Tryz.runUnderlying23 Tryz.sizeOf22 rfl rfl (by omega) (by omega) (h.a.own.sl.some (i := v) (by omega))) (VL.ownSt eltSl (v := .slice _ _ _) Tryz.sizeOf22 ((h.a.own.mod hm10 (h.a.out _))) v 0 (SlI.mk a' c' ((x.z.getD v default).l ++ [((k : Nat) : Int)])) rfl rfl (by omega) rfl rfl rfl rfl (by show [Value.slice a' ((x.z.getD v default).l ++ [((k : Nat) : Int)]).length c'] = _; rw [List.length_append]; rfl) fun w22 ho22 m22 hs22 => VL.nil (fend0 rfl (?_)))
 have hab : ∀ q, aBlk a' q → aBlk (x.z.getD v default).a q ∨ w.heap.size ≤ q := fun q hq => by
  rcases hd with ⟨e1, _⟩ | hn
  ·exact .inl (e1 ▸ hq)
  ·exact .inr (hn q hq)
 have hmr : x.mr < w.heap.size := h.k.lt
 have h1 : ∀ q, q ≤ x.mr → ¬ aBlk (x.z.getD v default).a q := fun q hq hb => by have := hxp _ hb; omega
 have h2 : ∀ q, q ≠ x.zb → ¬ aBlk (some (⟨x.zb, 0, none⟩ : Addr)) q := fun q hq hb => hq (aBlk_some hb)
 refine ⟨⟨a', c', (x.z.getD v default).l ++ [((k : Nat) : Int)]⟩, rfl, rfl, fun q hq => ?_, ⟨?_, ?_, ?_, ?_, h.pB, h.pt, h.pz, h.tz, h.pm, h.zm, h.tm, fun j q hq => ?_⟩, ?_⟩
 ·rcases hab q hq with hh | hh
  ·exact h7z v q hh
  ·have := h7.lt; omega
 ·have := (h.blk.mod hm10 (h1 _ (by omega))).mod m22 (h2 _ h.pz)
  unfold encRd at this ⊢
  dsimp only at this ⊢
  rw [List.length_set]; exact this
 ·dsimp only
  rw [List.length_set]
  exact h.a.app (by omega) hO hm10 hab ho22 m22
 ·exact (h.t.mod hm10 fun q k1 k2 => by have := aBlk_some k1; have := hxp _ k2; have := h.tm; omega).mod m22 fun q k1 k2 => h.tz (Eq.trans (Eq.symm (aBlk_some k1)) (aBlk_some k2))
 ·exact (h.k.mod hm10 (h1 _ (Nat.le_refl _))).mod m22 (h2 _ (by have := h.zm; omega))
 ·dsimp only at hq
  by_cases e : j = v
  ·subst e
   rw [setD_eq _ (by omega)] at hq
   rcases hab q hq with hh | hh
   ·exact hxp q hh
   ·dsimp only; omega
  ·rw [setD_ne _ e] at hq; exact h.up j q hq
 ·exact (hm10.weaken fun _ _ h => .inr h).then m22 fun q _ hq => .inl (aBlk_some hq)
end Go.Proofs.YtmglkjigmcikdaaGreatDoor

/- Proof: a checker is made ready. -/
namespace Go.Proofs.YtmglkjigmcikdaaGreatDoor
open Go.Vc
set_option maxRecDepth 100000
set_option maxHeartbeats 16000000
theorem ready_any (W : List WyI) (n : Int) : (W.any fun y => !(setB y.p.l n && setB y.n.l n)) = !((W.map wyV).all (wyB n)) := by
 rw [Bool.eq_iff_iff, List.any_eq_true, Bool.not_eq_true', List.all_eq_false]
 constructor
 ·rintro ⟨y, hy, h⟩
  refine ⟨wyV y, List.mem_map_of_mem hy, fun h2 => ?_⟩
  have h3 : (setB y.p.l n && setB y.n.l n) = true := h2
  rw [h3] at h; cases h
 ·rintro ⟨z, hz, h⟩
  obtain ⟨y, hy, rfl⟩ := List.mem_map.1 hz
  refine ⟨y, hy, ?_⟩
  cases h3 : (setB y.p.l n && setB y.n.l n) with
  | false => rfl
  | true => exact absurd h3 h
theorem Blk.mod5 {w w1 w2 w3 w4 w5 : World} {b r : Nat} {o : Obj} (h : Blk w b o) (m1 : Vc.Mod (Vc.one r) w w1) (m2 : Vc.Mod (Vc.one r) w1 w2) (m3 : Vc.Mod (Vc.one r) w2 w3) (m4 : Vc.Mod (Vc.one r) w3 w4) (m5 : Vc.Mod (Vc.one r) w4 w5) (hb : b ≠ r) : Blk w5 b o :=
 ((((h.mod m1 fun e => hb e).mod m2 fun e => hb e).mod m3 fun e => hb e).mod m4 fun e => hb e).mod m5 fun e => hb e
theorem VL.mapInsert {P : Program} {N : Nat} {L : List Oper} {Q : Exit → Env → World → Prop} {rest : List Oper} {ρ : Env} {w : World} {κ : Type} [DecidableEq κ] {enc : κ → Value} {kt e t ty : TypeId} {p : String} {af : Array Edge} {x y z' : Operand} {r : Nat} {l : List (κ × Value)} {k : κ} {v : Value} (K : KeyT P kt enc) (hu : ∀ w, (underlying t).run P w = .ok (.map kt e) w) (hx : tm ρ x = .map (some r)) (hy : tm ρ y = enc k) (hz : tm ρ z' = v)
  (hm : MapIs w r enc l) (h : ∀ w', MapIs w' r enc (mset l k v) → Vc.Mod (Vc.one r) w w' → VL P N L Q rest ρ w') :
  VL P N L Q ({ dst := none, op := .insert t x y z', type := ty, pos := p, after := af, guard := none } :: rest) ρ w := by
 obtain ⟨w', h1, h2, h3⟩ := mapUpdate_run K hu hm k v
 refine VL.op0 ?_ (h w' h2 h3)
 simp only [run1, execOp, hx, hy, hz, Sem.run_bind, h1, Result.andThen_ok, Sem.run_pure]
theorem rep_at30 {α : Type} [Inhabited α] {n j : Nat} {a : α} (h : j < n) : (List.replicate n a).getD j default = a := by simp [List.getD, h]
theorem rep_def30 {α : Type} [Inhabited α] (n j : Nat) : (List.replicate n (default : α)).getD j default = default := by
 by_cases h : j < n
 ·exact rep_at30 h
 ·simp [List.getD, h]
theorem runAllocP {ρ : Env} {ty : TypeId} (w : World) : run1 Tryz.prog ρ (.alloc 61) ty w = .ok (.value (.pointer (some ⟨w.heap.size, 0, none⟩))) (w.alloc (.cells #[.pointer none] 61)) := by
 simp [run1, execOp, Instr.alloc, go_sem, Tryz.zeroValue61, newVar, newRow, Value.cells]
theorem yieldsR_box {P : Program} {ρ : Env} {w : World} {d : Nat} {t ty : TypeId} {p : String} {af : Array Edge} {x : Operand} {v : Value} (hx : tm ρ x = v) :
  yieldsR P ρ { dst := some d, op := .box t x, type := ty, pos := p, after := af, guard := none } w fun u w' => (∃ b, u = .pointer (some ⟨b, 0, none⟩) ∧ w.heap.size ≤ b ∧ Blk w' b (.cells v.cells t (0, 0))) ∧ Ext w w' := by
 have h : run1 P ρ (.box t x) ty w = .ok (.value (.pointer (some ⟨w.heap.size, 0, none⟩))) (w.alloc (.cells v.cells t)) := by
  simp [run1, execOp, Instr.box, go_sem, newVar, newRow, hx]
 unfold yieldsR
 rw [run1_eq, h]
 exact ⟨⟨_, rfl, Nat.le_refl _, Blk.alloc _ _⟩, Ext.alloc _ _⟩
def encR0 (g : GrW) (wa : Option Addr) (wc wn N zb tb : Nat) : List Value := [.int .i64 g.n, .slice g.ca g.cost.length g.cc, .slice g.ea g.edges.length g.ec, .slice wa wn wc, .bool false, .slice none 0 0, .slice (some ⟨zb, 0, none⟩) N N, .slice (some ⟨tb, 0, none⟩) N N, .slice none 0 0, .map none]
theorem ready_spec (g : GrW) (wa : Option Addr) (wc : Nat) (W : List WyI) (B : Nat) (w : World) (hG : GOk w g) (hl : GLen g) (hW : WL w wa W) (hWl : ∀ y ∈ W, WLen y) (hWm : W.length ≤ 9223372036854775807) (hB : B ≤ w.heap.size) (hT : TabW B w) :
  Rets Tryz.prog 35 #[.agg (encGr g).toArray, .slice wa W.length wc] w (fun u w' => (readyG (grV g) (W.map wyV) = false ∧ u = .tuple #[.pointer none, .bool false] ∧ Ext w w') ∨ (readyG (grV g) (W.map wyV) = true ∧ ∃ x : CkX, ∃ N : Nat, u = .tuple #[.pointer (some ⟨x.p, 0, none⟩), .bool true] ∧ RdOk w x N w' ∧ Ext w w' ∧ x.g = g ∧ x.wa = wa ∧ x.wc = wc ∧ x.W = W ∧ g.n = (N : Int) ∧ x.z.length = N ∧ ∀ v : Nat, v < N → (x.z.getD v default).l = adjK (vals g.edges) g.edges.length ((v : Nat) : Int))) := by
 have hWn : (W.map wyV).length = W.length := List.length_map _
 refine enter (args := [_, _]) Tryz.func35 rfl Tryz.ntmps35 (by kernel_rfl) rfl ?_
 refine V.seq (V.region (VL.box (v := .agg _) rfl fun b0_0 w0_0 hb0_0 e0_0 hB0_0 => VL.op (R.asP rfl) (VL.op (R.asB rfl) (VL.nil (V.seq (V.seq (V.region (VL.op (R.mvS rfl) (VL.op (R.lenS Tryz.runUnderlying26 rfl) (VL.op (R.gtr rfl rfl) (VL.op (R.mvB rfl) (VL.orP rfl rfl (fun g1_3 => VL.op (R.mvS rfl) (VL.gT rfl rfl (VL.op (R.mkFn rfl rfl) (VL.gT rfl rfl (VL.callP Tryz.call40 rfl (containsW_spec 53 [] [.pointer (some ⟨b0_0, 0, none⟩)] (fun y => !(setB y.p.l g.n && setB y.n.l g.n)) (fun w' => GrB w' b0_0 g) wa wc W _ Tryz.call53 (fun w' y hs hy hk => ready1_spec b0_0 g y w' hs hk (hWl y hy)) (fun _ _ h e => h.ext e) hB0_0 (hW.ext e0_0) (by omega)) fun w1_6 e1_6 => VL.op (R.pickFB rfl rfl) (VL.op (R.mvB rfl) (VL.or rfl rfl (fun g1_8 => VL.op (R.ldA Tryz.isAgg25 Tryz.sizeOf25 rfl rfl ((show RowAt _ _ _ (encGr g) from (hB0_0.ext e1_6).rowAt 0 3)) rfl) (VL.gT rfl rfl (VL.callP Tryz.call55 rfl (valid_spec g B _ (hG.ext (e0_0.trans e1_6)) hl (Nat.le_trans hB ((e0_0.trans e1_6)).size) (hT.ext hB (e0_0.trans e1_6))) fun w1_10 e1_10 => VL.gT rfl rfl (VL.op (R.not rfl) (VL.op (R.pickFB rfl rfl) (VL.nil (V.cond rfl (fun c24 => V.seq (V.region (VL.op (R.asP rfl) (VL.op (R.asB rfl) (VL.nil (V.ret (fret2 (v := .pointer _) (x := .bool _) rfl rfl rfl rfl rfl (?_)))))))) (fun c24 => V.skip (V.seq (?_)))))))))) (fun g1_8 => VL.gF rfl rfl (VL.gF rfl rfl (VL.op (R.pickTB rfl rfl) (VL.nil (V.condT rfl (V.seq (V.region (VL.op (R.asP rfl) (VL.op (R.asB rfl) (VL.nil (V.ret (fret2 (v := .pointer _) (x := .bool _) rfl rfl rfl rfl rfl (?_)))))))))))))))))))) (fun g1_3 => VL.gF rfl rfl (VL.gF rfl rfl (VL.op (R.pickTB rfl rfl) (VL.op (R.mvB rfl) (VL.gF rfl rfl (VL.gF rfl rfl (VL.gF rfl rfl (VL.op (R.pickTB rfl rfl) (VL.nil (V.condT rfl (V.seq (V.region (VL.op (R.asP rfl) (VL.op (R.asB rfl) (VL.nil (V.ret (fret2 (v := .pointer _) (x := .bool _) rfl rfl rfl rfl rfl (?_))))))))))))))))))))))))))))))
 ·refine .inl ⟨?_, rfl, (e0_0.trans e1_6).trans e1_10⟩
  have : validG (grV g) = false := by simpa using c24
  unfold readyG
  rw [this]; rfl
 ·have hv : validG (grV g) = true := by simpa using c24
  have hWa : (W.map wyV).all (wyB g.n) = true := by
   have h1 := ready_any W g.n
   rw [g1_8] at h1
   simpa using h1.symm
  have hr : readyG (grV g) (W.map wyV) = true := by
   unfold readyG
   rw [hv, decide_eq_true (by omega), show (grV g).n = g.n from rfl, hWa]; rfl
  have hn := costB_iff.1 (validG_iff.1 hv).1
  obtain ⟨N, hN⟩ : ∃ N : Nat, g.n = (N : Int) := ⟨g.n.toNat, by have h0 : 0 ≤ g.n := hn.1; omega⟩
  have hN4 : N ≤ 4000 := by have h0 : g.n ≤ 4000 := hn.2.1; omega
  have hE20 : g.edges.length ≤ 20000 := by have := (validG_iff.1 hv).2.1; simpa [grV, vals] using this
  have hX := (hB0_0.ext e1_6).ext e1_10
  refine V.regionS mixed 11 (by kernel_rfl) rfl (fun us => VS.op (fun wq eq => R.ldA Tryz.isAgg25 Tryz.sizeOf25 rfl rfl ((show RowAt _ _ _ (encGr g) from (hX.ext eq).rowAt 0 3)) rfl) (VS.op (fun wq eq => R.mvS rfl) (VS.op (fun wq eq => R.fld' (o := 0) Tryz.runUnderlying25 rfl rfl Tryz.sizeOf3 rfl rfl) (VS.op (fun wq eq => R.ld1 Tryz.isAgg3 rfl ((show wq.cell? ⟨b0_0, 0, none⟩ = some (Value.int .i64 ((N : Nat) : Int)) from by rw [← hN]; exact (hX.ext eq).cell 0))) (VS.spec (fun u w' => ∃ b, u = .slice (some ⟨b, 0, none⟩) N N ∧ OwnT encSl 1 22 w1_10.heap.size w' (some ⟨b, 0, none⟩) N (List.replicate N (default : SlI))) (fun u a b _ ⟨c, hc, h1⟩ eb => ⟨c, hc, h1.ext eb⟩) rfl (fun wq eq hq => yieldsR_make el23 (default : SlI) rfl rfl rfl (by omega) (by unfold maxLen; omega) eq.size fun b w' hb he hO => ⟨⟨b, rfl, hO⟩, he⟩) (VS.op (fun wq eq => R.fld' (o := 0) Tryz.runUnderlying25 rfl rfl Tryz.sizeOf3 rfl rfl) (VS.op (fun wq eq => R.ld1 Tryz.isAgg3 rfl ((show wq.cell? ⟨b0_0, 0, none⟩ = some (Value.int .i64 ((N : Nat) : Int)) from by rw [← hN]; exact (hX.ext eq).cell 0))) (VS.spec (fun u w' => ∃ b, u = .slice (some ⟨b, 0, none⟩) N N ∧ OwnT Vc.encI 1 3 w1_10.heap.size w' (some ⟨b, 0, none⟩) N (List.replicate N (0 : Int))) (fun u a b _ ⟨c, hc, h1⟩ eb => ⟨c, hc, h1.ext eb⟩) rfl (fun wq eq hq => yieldsR_make el22 (0 : Int) rfl rfl rfl (by omega) (by unfold maxLen; omega) eq.size fun b w' hb he hO => ⟨⟨b, rfl, hO⟩, he⟩) (VS.spec (fun u w' => ∃ zb tb, u = .agg (encR0 g wa wc W.length N zb tb).toArray ∧ OwnT encSl 1 22 w1_10.heap.size w' (some ⟨zb, 0, none⟩) N (List.replicate N (default : SlI)) ∧ OwnT Vc.encI 1 3 w1_10.heap.size w' (some ⟨tb, 0, none⟩) N (List.replicate N (0 : Int))) (fun u a b _ ⟨zb, tb, k1, k4, k5⟩ eb => ⟨zb, tb, k1, k4.ext eb, k5.ext eb⟩) rfl (fun wq eq hq => by
     obtain ⟨zb, hz, hzo⟩ := hq 4 (by kernel_rfl)
     obtain ⟨tb, ht, hto⟩ := hq 7 (by kernel_rfl)
     refine yieldsR_op (v := .agg (encR0 g wa wc W.length N zb tb).toArray) ((R.build Tryz.zeroValue80 Tryz.runUnderlying80 pl80 (by show bldOk _ _ [(0, .agg (encGr g).toArray), (1, .slice wa W.length wc), (4, us 4), (5, us 7)] = true; rw [hz, ht]; rfl)).trans ?_) ⟨⟨zb, tb, rfl, hzo, hto⟩, Vc.Mod.refl _ _⟩
     refine congrArg (fun v => Result.ok (Next.value v) wq) ?_
     show Value.agg (bld _ _ [(0, .agg (encGr g).toArray), (1, .slice wa W.length wc), (4, us 4), (5, us 7)]).toArray = _
     rw [hz, ht]
     rfl) (VS.spec (fun u w' => ∃ b zb tb, u = .pointer (some ⟨b, 0, none⟩) ∧ w1_10.heap.size ≤ b ∧ Blk w' b (.cells (Value.agg (encR0 g wa wc W.length N zb tb).toArray).cells 80 (0, 0)) ∧ OwnT encSl 1 22 w1_10.heap.size w' (some ⟨zb, 0, none⟩) N (List.replicate N (default : SlI)) ∧ OwnT Vc.encI 1 3 w1_10.heap.size w' (some ⟨tb, 0, none⟩) N (List.replicate N (0 : Int))) (fun u a b _ ⟨k, zb, tb, k1, k2, k3, k4, k5⟩ eb => ⟨k, zb, tb, k1, k2, k3.ext eb, k4.ext eb, k5.ext eb⟩) rfl (fun wq eq hq => by
     obtain ⟨zb, tb, hv, hzo, hto⟩ := hq 8 (by kernel_rfl)
     refine yieldsR_mono (yieldsR_box hv) fun u w' ⟨⟨b, hb, hl, hk⟩, he⟩ => ⟨⟨b, zb, tb, hb, Nat.le_trans eq.size hl, hk, hzo.ext he, hto.ext he⟩, he⟩) (VS.spec (fun u w' => ∃ b, u = .pointer (some ⟨b, 0, none⟩) ∧ w1_10.heap.size ≤ b ∧ Blk w' b (.cells #[.pointer none] 61 (0, 0))) (fun u a b _ ⟨k, k1, k2, k3⟩ eb => ⟨k, k1, k2, k3.ext eb⟩) rfl (fun wq eq hq => yieldsR_op (runAllocP wq) ⟨⟨_, rfl, eq.size, Blk.alloc _ _⟩, Ext.alloc _ _⟩) (VS.nil (fun w3 e3 h3 => ?_))))))))))))) rfl
  obtain ⟨p, zb, tb, hu9, hpl, hpB, hzo, hto⟩ := h3 9
  obtain ⟨b6, hu10, h6l, h6B⟩ := h3 10
  rw [hu9, hu10]
  refine VL.store (v := .pointer _) Tryz.sizeOf61 rfl rfl rfl rfl h6B rfl rfl fun w4 m4 hs4 hB4 => VL.nil (V.seq (?_))
  have hpB4 := hpB.mod m4 fun h => by have h1 : p = b6 := h; subst h1; have := h6B.symm.trans hpB; cases this
  have hpl4 := hpB4.lt
  refine V.region (VL.op (R.ld1 Tryz.isAgg61 rfl ((show _ = some (Value.pointer (some ⟨p, 0, none⟩)) from hB4.cell 0))) (VL.makeMap fun mr w5 hmr e5 hM5 => VL.mapInsert (v := .func (.func 56) #[] #[]) key3 Tryz.runUnderlying78 rfl rfl rfl (MapIs.empty hM5) fun v1 i1 n1 => VL.mapInsert (v := .func (.func 57) #[] #[]) key3 Tryz.runUnderlying78 rfl rfl rfl (i1) fun v2 i2 n2 => VL.mapInsert (v := .func (.func 58) #[] #[]) key3 Tryz.runUnderlying78 rfl rfl rfl (i2) fun v3 i3 n3 => VL.mapInsert (v := .func (.func 59) #[] #[]) key3 Tryz.runUnderlying78 rfl rfl rfl (i3) fun v4 i4 n4 => VL.mapInsert (v := .func (.func 60) #[] #[]) key3 Tryz.runUnderlying78 rfl rfl rfl (i4) fun v5 i5 n5 => VL.op (R.mvM rfl) (VL.op (R.nilCheck rfl) (VL.op (R.fld' (o := 9) Tryz.runUnderlying80 rfl rfl Tryz.sizeOf78 rfl rfl) (VL.store (v := .map _) Tryz.sizeOf78 rfl rfl rfl rfl (Blk.mod5 (hpB4.ext e5) n1 n2 n3 n4 n5 (Nat.ne_of_lt (Nat.lt_of_lt_of_eq hpl4 hmr.symm))) rfl rfl fun w6 m6 hs6 hB6 => VL.nil (V.seq (V.seq (?_))))))))
  have hK6 : MapIs w6 mr kI kindsL := MapIs.mod i5 m6 fun h => by have h1 : mr = p := h; omega
  have hB6' : Blk w6 p (.cells (Value.agg (encRd ⟨p, g, wa, wc, W, false, none, 0, [], zb, List.replicate N default, tb, 0, mr⟩ N false (.slice none 0 0) (.slice none 0 0)).toArray).cells 80 (0, 0)) := by
   unfold encRd
   dsimp only
   rw [List.length_replicate]
   exact hB6
  clear hB6 i1 i2 i3 i4 i5
  have hS : ∀ q, (q = b6 ∨ q = p) ∨ q = mr ↔ q = b6 ∨ q = p ∨ q = mr := fun q => or_assoc
  have hM : Vc.Mod (fun q => q = b6 ∨ q = p ∨ q = mr) w3 w6 :=
   (((((((m4.weaken fun _ _ h => .inl h).then e5 fun _ _ h => h.elim).then n1 fun _ _ h => .inr (.inr h)).then n2 fun _ _ h => .inr (.inr h)).then n3 fun _ _ h => .inr (.inr h)).then n4 fun _ _ h => .inr (.inr h)).then n5 fun _ _ h => .inr (.inr h)).then m6 fun _ _ h => .inr (.inl h)
  have tZ := OwnT.tyA hzo
  have tT := OwnT.tyA hto
  obtain ⟨cT, zT, bT⟩ := tT _ rfl
  have zp' : zb ≠ p := fun h => tZ.apart hpB (by decide) ⟨_, rfl, h⟩
  have z6' : zb ≠ b6 := fun h => tZ.apart h6B (by decide) ⟨_, rfl, h⟩
  have tp' : tb ≠ p := fun h => tT.apart hpB (by decide) ⟨_, rfl, h⟩
  have t6' : tb ≠ b6 := fun h => tT.apart h6B (by decide) ⟨_, rfl, h⟩
  have zt' : zb ≠ tb := fun h => tZ.apart bT (by decide) ⟨_, rfl, h⟩
  have lz : zb < w3.heap.size := hzo.lt _ ⟨_, rfl, rfl⟩
  have lt : tb < w3.heap.size := hto.lt _ ⟨_, rfl, rfl⟩
  have lp := hpB.lt
  have l6 := h6B.lt
  have hsz := e0_0.size
  have hsz2 := e1_6.size
  have hsz3 := e1_10.size
  obtain ⟨st, hst⟩ : ∃ st : List SlI → CkX, st = fun z => ⟨p, g, wa, wc, W, false, none, 0, [], zb, z, tb, 0, mr⟩ := ⟨_, rfl⟩
  have hwz : w.heap.size ≤ w1_10.heap.size := by omega
  have hmz : w3.heap.size ≤ mr := by omega
  have hBd : BdOk w.heap.size (st (List.replicate N default)) N w6 := by
   rw [hst]
   refine ⟨hB6', ⟨?_, fun j => ?_, fun j => ?_, fun i j _ => ?_⟩, ?_, hK6, by dsimp only; omega, fun h => tp' h.symm, fun h => zp' h.symm, fun h => zt' h.symm, by dsimp only; omega, by dsimp only; omega, by dsimp only; omega, fun j q h => ?_⟩
   ·dsimp only; rw [List.length_replicate]
    exact (hzo.mod hM fun q h1 h2 => by have := aBlk_some h1; omega).weaken hwz
   ·dsimp only; rw [rep_def30]; exact OwnT.nil _ _ _ _ _
   ·dsimp only; rw [rep_def30]; exact Sep.nil' _
   ·dsimp only; rw [rep_def30, rep_def30]; exact Sep.nil _
   ·exact (hto.mod hM fun q h1 h2 => by have := aBlk_some h1; omega).weaken hwz
   ·dsimp only at h; rw [rep_def30] at h; exact absurd h (Sep.nil none q h)
  have hE6 : Ext w w6 := (((e0_0.trans e1_6).trans e1_10).trans e3).ownA hM fun q hq => by omega
  have hX6 : GrB w6 b0_0 g := (hX.ext e3).mod hM fun hq => by have := hX.lt; omega
  have h6p : b6 ≠ p := fun h => by subst h; have := h6B.symm.trans hpB; cases this
  have hP6 : PtC w6 b6 (st (List.replicate N default)) := by
   rw [hst]
   exact (Blk.mod5 (hB4.ext e5) n1 n2 n3 n4 n5 (by dsimp only; omega)).mod m6 h6p
  refine V.region (VL.op (R.fld' (o := 2) Tryz.runUnderlying25 rfl rfl Tryz.sizeOf23 rfl rfl) (VL.op (R.ld1 Tryz.isAgg23 rfl ((show _ = some (Value.slice g.ea g.edges.length g.ec) from hX6.cell 2))) (VL.op (R.lenS Tryz.runUnderlying23 rfl) (VL.op (R.mvI rfl) (VL.nil (V.block (?_)))))))
  refine V.loop [6, 41, 42, 43] (fun x : Nat × List SlI => [.pointer (some ⟨b6, 0, none⟩), .slice g.ea g.edges.length g.ec, .int .i64 (g.edges.length : Nat), .int .i64 (x.1 : Nat)])
   (fun x w' => x.1 ≤ g.edges.length ∧ x.2.length = N ∧ BdOk w.heap.size (st x.2) N w' ∧ PtC w' b6 (st x.2) ∧ (∀ v, v < N → (x.2.getD v default).l = adjK (vals g.edges) x.1 ((v : Nat) : Int)) ∧ Ext w w') (fun x => g.edges.length - x.1) (0, List.replicate N default) rfl ⟨Nat.zero_le _, by simp, hBd, hP6, fun v hv => by rw [rep_at30 hv]; rfl, hE6⟩ ?_
  rintro ρ ⟨k, z⟩ w7 ⟨hk, hz, hBk, hPk, hI, e7⟩
  dsimp only at hk hz hBk hPk hI e7 ⊢
  have hG7 := (hG.ext e7).e
  have hPk' : w7.cell? ⟨b6, 0, none⟩ = some (Value.pointer (some ⟨p, 0, none⟩)) := by
   have := hPk.cell 0
   rw [hst] at this
   exact this
  refine V.seq (V.region (VL.op (R.lss rfl rfl) (VL.nil (V.seq (V.condP rfl (fun c44 => V.skip (V.seq (V.block (V.seq (?_))))) (fun c44 => V.exit (V.seq (V.region (VL.op (R.ld1 Tryz.isAgg61 rfl (hPk')) (VL.op (R.asP rfl) (VL.op (R.asB rfl) (VL.nil (V.ret (fret2 (v := .pointer _) (x := .bool _) rfl rfl rfl rfl rfl (?_)))))))))))))))
  ·have hkl : k < g.edges.length := by omega
   have hxs := (validG_iff.1 hv).2.2.1 _ (List.mem_map_of_mem (gmem hkl))
   have hxv : ∀ y ∈ (g.edges.getD k default).l, 0 ≤ y ∧ y < (N : Int) := fun y hy => by have := hxs.2.2 y hy; rw [show (grV g).n = g.n from rfl, hN] at this; exact this
   have hxl := (hl.each _ (gmem hkl)).1
   refine V.region (VL.op (R.mvI rfl) (VL.op (R.ixS Tryz.runUnderlying23 Tryz.sizeOf22 rfl rfl (by omega) (by omega) ((hG7.sl).some (i := k) (by omega))) (VL.op (R.ld1 Tryz.isAgg22 rfl (((((hG7.sl).ext (Mod.refl _ _)).row (i := k) (by omega)).cell (i := 0) rfl))) (VL.allocSt (v := .int _ _) Tryz.zeroValue3 Tryz.sizeOf3 rfl rfl rfl rfl rfl fun b7_3 w7_3 hb7_3 e7_3 hB7_3 => VL.op (R.asS rfl) (VL.nil (V.seq (V.region (VL.op (R.mkFn rfl rfl) (VL.op (R.asF rfl) (VL.nil (V.seq (V.region (VL.op (R.mvS rfl) (VL.op (R.lenS Tryz.runUnderlying22 rfl) (VL.op (R.mvI rfl) (VL.nil (V.block (?_))))))))))))))))))
   refine V.loop [6, 9, 41, 42, 43, 49, 50, 51] (fun x : Nat × List SlI => [.pointer (some ⟨b6, 0, none⟩), .func (.func 61) #[] #[.pointer (some ⟨b6, 0, none⟩), .pointer (some ⟨b7_3, 0, none⟩)], .slice g.ea g.edges.length g.ec, .int .i64 (g.edges.length : Nat), .int .i64 (k : Nat), .slice (g.edges.getD k default).a (g.edges.getD k default).l.length (g.edges.getD k default).c, .int .i64 ((g.edges.getD k default).l.length : Nat), .int .i64 (x.1 : Nat)])
    (fun x w' => x.1 ≤ (g.edges.getD k default).l.length ∧ x.2.length = N ∧ BdOk w.heap.size (st x.2) N w' ∧ PtC w' b6 (st x.2) ∧ NuB w' b7_3 ((k : Nat) : Int) ∧ (∀ j q, aBlk (x.2.getD j default).a q → q ≠ b7_3) ∧ (∀ v, v < N → (x.2.getD v default).l = adjK (vals g.edges) k ((v : Nat) : Int) ++ if ((v : Nat) : Int) ∈ (g.edges.getD k default).l.take x.1 then [(k : Int)] else []) ∧ Ext w w') (fun x => (g.edges.getD k default).l.length - x.1) (0, z) rfl ⟨Nat.zero_le _, hz, hBk.ext e7_3, hPk.ext e7_3, hB7_3, fun j q hq => ?_, fun v hv => by rw [hI v hv]; simp, e7.trans e7_3⟩ ?_
   ·subst hst
    have := (hBk.a.each j).lt q hq
    omega
   rintro ρ ⟨i, z2⟩ w8 ⟨hi, hz2, hB2, hP2, hN2, hq2, hI2, e8⟩
   dsimp only at hi hz2 hB2 hP2 hN2 hq2 hI2 e8 ⊢
   have hx8 : IntSl w8 (g.edges.getD k default).a (g.edges.getD k default).l := ((hG.ext e8).e).at hkl
   refine V.seq (V.region (VL.op (R.lss rfl rfl) (VL.nil (V.seq (V.condP rfl (fun c52 => V.skip (V.seq (V.block (V.seq (?_))))) (fun c52 => V.exit (V.region (VL.op (R.add rfl rfl (by omega) (by omega)) (VL.op (R.mvI rfl) (VL.nil (?_)))))))))))
   ·have hil : i < (g.edges.getD k default).l.length := by omega
    obtain ⟨v, hvd⟩ : ∃ v : Nat, (v : Int) = (g.edges.getD k default).l.getD i default := ⟨((g.edges.getD k default).l.getD i default).toNat, by have := (hxv _ (gmem hil)).1; omega⟩
    have hvN : v < N := by have := (hxv _ (gmem hil)).2; omega
    refine V.region (VL.op (R.ixS Tryz.runUnderlying22 Tryz.sizeOf3 rfl rfl (by omega) (by omega) ((hx8).some (i := i) (by omega))) (VL.op (R.ld1 Tryz.isAgg3 rfl (((((hx8).ext (Mod.refl _ _)).row (i := i) (by omega)).cell (i := 0) rfl))) (VL.op (R.asI rfl) (VL.nil (?_)))))
    rw [← hvd]
    have hll : (z2.getD v default).l.length ≤ 20001 := by
     rw [hI2 v hvN, List.length_append]
     have h1 := adjK_len (vals g.edges) k ((v : Nat) : Int)
     have h2 : (if ((v : Nat) : Int) ∈ (g.edges.getD k default).l.take i then [(k : Int)] else []).length ≤ 1 := by split <;> simp
     omega
    refine V.region (VL.op (R.mvF rfl) (VL.op (R.mvI rfl) (VL.callCY rfl (Tryz.call61) rfl ((ready2_spec w.heap.size N b6 b7_3 v k (st z2) w8 hB2 (by rw [hst]; exact hz2) hvN hN4 hP2 hN2 (by rw [hst]; dsimp only; omega) (by rw [hst]; exact hq2) (by rw [hst]; exact hll))) fun y9 w9 h9 => VL.nil (V.region (VL.op (R.add rfl rfl (by omega) (by omega)) (VL.op (R.mvI rfl) (VL.nil (?_))))))))
    obtain ⟨h9l, h9b, h9B, h9m⟩ := h9
    subst hst
    dsimp only at h9l h9b h9B h9m
    have hnew : ((v : Nat) : Int) ∉ (g.edges.getD k default).l.take i := fun h => by
     obtain ⟨j, hj, hjv⟩ := List.getElem_of_mem h
     rw [List.length_take] at hj
     rw [List.getElem_take] at hjv
     have := inc_at hxs.2.1 (i := j) (j := i) (by omega) hil
     rw [← hvd, gget (show j < (g.edges.getD k default).l.length by omega), hjv] at this
     omega
    have hzl : z2.length = N := hz2
    have hup := hB2.up v
    dsimp only at hup
    refine ⟨(i + 1, z2.set v y9), rfl, ⟨by dsimp only; omega, by dsimp only; rw [List.length_set]; exact hz2, h9B, hP2.mod h9m fun hq => hq.elim (fun h => z6' h.symm) fun h => by have := hup _ h; omega, hN2.mod h9m fun hq => hq.elim (fun h => by have k1 := hBk.a.own.lt zb ⟨_, rfl, rfl⟩; omega) fun h => hq2 v _ h rfl, fun j q hq => ?_, fun u huN => ?_, e8.ownA h9m fun q hq => hq.elim (fun h => by have := hB2.a.own.ge zb ⟨_, rfl, rfl⟩; omega) fun h => (hB2.a.each v).ge q h⟩, by dsimp only; omega⟩
    ·dsimp only at hq
     by_cases e : j = v
     ·subst e; rw [setD_eq _ (by omega)] at hq; exact h9b q hq
     ·rw [setD_ne _ e] at hq; exact hq2 j q hq
    ·dsimp only
     have ht : (g.edges.getD k default).l.take (i + 1) = (g.edges.getD k default).l.take i ++ [(v : Int)] := by rw [List.take_succ_eq_append_getElem hil, hvd, gget hil]
     by_cases e : u = v
     ·subst e
      rw [setD_eq _ (by omega), h9l, hI2 u huN, if_neg hnew, List.append_nil, ht, if_pos (by simp)]
     ·rw [setD_ne _ e, hI2 u huN, ht]
      congr 1
      have : ((u : Nat) : Int) ∈ (g.edges.getD k default).l.take i ++ [(v : Int)] ↔ ((u : Nat) : Int) ∈ (g.edges.getD k default).l.take i := by
       rw [List.mem_append, List.mem_singleton]
       exact ⟨fun h => h.resolve_right (by omega), .inl⟩
      by_cases hh : ((u : Nat) : Int) ∈ (g.edges.getD k default).l.take i
      ·rw [if_pos hh, if_pos (this.2 hh)]
      ·rw [if_neg hh, if_neg (fun h => hh (this.1 h))]
   ·have hie : i = (g.edges.getD k default).l.length := by omega
    subst hie
    refine ⟨(k + 1, z2), rfl, ⟨by dsimp only; omega, hz2, hB2, hP2, fun v hv => ?_, e8⟩, by dsimp only; omega⟩
    dsimp only
    rw [hI2 v hv, List.take_length, adjK_succ, show (vals g.edges).getD k default = (g.edges.getD k default).l from gmap _ _ _ hkl]
  ·have hke : k = g.edges.length := by omega
   subst hke
   subst hst
   have hzb := hBk.zm
   have hmr7 : mr < w7.heap.size := hBk.k.lt
   refine .inr ⟨hr, _, N, rfl, ⟨hBk.blk, e7, hG, hW, ⟨hBk.a.own.sl, fun y hy => ?_⟩, hBk.t, hBk.k, fun q hq => ?_, hBk.pB, hBk.pt⟩, e7, rfl, rfl, rfl, rfl, hN, hz, hI⟩
   ·obtain ⟨i, hi, rfl⟩ := List.getElem_of_mem hy
    have := (hBk.a.each i).sl
    dsimp only at this
    rwa [gget hi] at this
   ·dsimp only at hq ⊢
    rcases hq with rfl | ⟨y, hy, h1⟩ | rfl
    ·exact ⟨zp', zt', by dsimp only at hzb; omega⟩
    ·obtain ⟨i, hi, rfl⟩ := List.getElem_of_mem hy
     rw [← gget hi] at h1
     have h2 := hBk.up i q h1
     have h3 := (hBk.a.each i).lt q h1
     dsimp only at h2
     omega
    ·omega
 ·refine .inl ⟨?_, rfl, e0_0.trans e1_6⟩
  have h1 := ready_any W g.n
  rw [g1_8] at h1
  have h2 : (W.map wyV).all (wyB g.n) = false := by simpa using h1.symm
  unfold readyG
  rw [show (grV g).n = g.n from rfl, h2, Bool.and_false]
 ·refine .inl ⟨?_, rfl, e0_0⟩
  unfold readyG
  rw [decide_eq_false (by omega), Bool.and_false, Bool.false_and]
end Go.Proofs.YtmglkjigmcikdaaGreatDoor
