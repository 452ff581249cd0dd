/- Solve: slices.Grow of nothing; slices.Concat. -/
import Derived.Test.YtjocoefpnboccaaGreatDoorXS9
import Derived.Shelf.Spec.SlicesGrow
import Derived.Test.YtjocoefpnboccaaGreatDoorXH22a
import Derived.Test.YtjocoefpnboccaaGreatDoorXN9
import Derived.Test.YtjocoefpnboccaaGreatDoorXVcRepP
namespace Go.Proofs
set_option maxHeartbeats 16000000
open Go.Shelf
def Tryz.grw_ren:Go.Shelf.Ren:=⟨fun | 4=>72 | k=>k,fun | 22=>22 | 25=>3 | 20=>20 | k=>k,fun k=>k⟩
theorem Tryz.grw:Go.Proofs.Lays8.n4 Tryz.prog Tryz.grw_ren:={
 mixed:=by kernel_rfl
 f4:=⟨Tryz.f72.name,by kernel_rfl,Tryz.func72.trans (congrArg some (by kernel_rfl))⟩
 t0:=Tryz.underlying0
 a0:=Tryz.isAgg0
 z0:=Tryz.sizeOf0
 v0:=Tryz.zeroValue0
 t3:=Tryz.underlying3
 a3:=Tryz.isAgg3
 z3:=Tryz.sizeOf3
 v3:=Tryz.zeroValue3
 t4:=Tryz.underlying4
 a4:=Tryz.isAgg4
 z4:=Tryz.sizeOf4
 v4:=Tryz.zeroValue4
 t9:=Tryz.underlying9
 a9:=Tryz.isAgg9
 z9:=Tryz.sizeOf9
 v9:=Tryz.zeroValue9
 t20:=Tryz.underlying20
 a20:=Tryz.isAgg20
 z20:=Tryz.sizeOf20
 v20:=Tryz.zeroValue20
 t22:=Tryz.underlying22
 a22:=Tryz.isAgg22
 z22:=Tryz.sizeOf22
 v22:=Tryz.zeroValue22 }
namespace YtjocoefpnboccaaGreatDoor
open Go.Vc
set_option maxRecDepth 100000
set_option maxHeartbeats 16000000
theorem grow_spec (n:Nat) (w:World) (hn:n≤2000000) :
  RetsX Tryz.prog 72 #[.slice none 0 0,.int .i64 (n:Nat)] w (fun z:Option Addr×Nat=>.slice z.1 0 z.2) (fun z w'=>OwnT Vc.encI 1 3 w.heap.size w' z.1 z.2 []):=by
 by_cases h0:n=0
 ·subst h0
  refine Calls.mono (Any8.slices_Grow_room Tryz.grw none 0 0 0 w (by omega) (by omega) (by omega) (by omega)) ?_
  rintro e w' ⟨rfl,rfl⟩
  exact ⟨_,rfl,(none,0),rfl,OwnT.nil _ _ _ _ _,Vc.Mod.refl _ _⟩
 ·obtain ⟨i0,hi0,hz0,hsz,hby⟩:=el22.hi
  refine Calls.mono (Any8.slices_Grow_grow Tryz.grw i0 (.int .i64 0) hi0 hz0 (by rw [hsz];decide) none 0 0 n [] w (by omega) (by omega) (by rw [hby];omega) (by omega) (by simp) (fun _=>rfl) (fun a h=>nomatch h)) ?_
  rintro e w' ⟨rfl,rfl⟩
  have hG:=grownCap_ge w (0+n) 0 3
  have hGm:=grownCap_le_maxLen w (0+n) 0 3 (by unfold maxLen;omega)
  obtain ⟨G,hGd⟩:∃ G,G=grownCap w (0+n) 0 3:=⟨_,rfl⟩
  have hb:Blk (w.drew.alloc (.cells (([]:List Value).toArray++Builtin.zeroCells (Value.int .i64 0).cells (0+n-0)++Builtin.zeroCells (Value.int .i64 0).cells (grownCap w (0+n) 0 3-(0+n))) 3)) w.heap.size (.cells (([]:List Value).toArray++Builtin.zeroCells (Value.int .i64 0).cells (0+n-0)++Builtin.zeroCells (Value.int .i64 0).cells (grownCap w (0+n) 0 3-(0+n))) 3 (0,0)):=Blk.alloc _ _
  refine ⟨_,rfl,(some ⟨w.heap.size,0,none⟩,grownCap w (0+n) 0 3),rfl,⟨fun r hr=>by simp at hr,rfl,.inr ⟨w.heap.size,_,_,rfl,Nat.le_refl _,hb,Nat.zero_le _,hGm,?_,by simp⟩⟩,(Ext.drawn w).trans (Ext.alloc _ _)⟩
  simp only [Array.size_append,List.size_toArray,size_zeroCells,List.length_nil]
  show 0+(0+n-0)*1+(grownCap w (0+n) 0 3-(0+n))*1=grownCap w (0+n) 0 3*1
  omega
def sumL (L:List SlI) (k:Nat):Nat:=((L.take k).map fun y=>y.l.length).sum
theorem sumL_succ {L:List SlI} {k:Nat} (h:k<L.length):sumL L (k+1)=sumL L k+(L.getD k default).l.length:=by
 unfold sumL
 rw [List.take_succ_eq_append_getElem h,List.map_append,List.sum_append,gget h]
 simp
theorem sumL_le {L:List SlI} (hl:∀ y∈L,y.l.length≤1000000):∀ k,sumL L k≤1000000*k:=by
 intro k
 induction k with
 | zero=>simp [sumL]
 | succ k ih =>
  by_cases h:k<L.length
  ·rw [sumL_succ h]
   have:=hl _ (gmem h)
   omega
  ·have:sumL L (k+1)=sumL L k:=by unfold sumL;rw [List.take_of_length_le (by omega),List.take_of_length_le (by omega)]
   omega
theorem concat_spec (a:Option Addr) (c:Nat) (L:List SlI) (w:World) (hL:LL w a L) (hm:L.length≤2) (hl:∀ y∈L,y.l.length≤1000000∧(y.a=none→y.c=0)) :
  RetsX Tryz.prog 50 #[.slice a L.length c] w (fun z:SlI=>.slice z.a z.l.length z.c) (fun z w'=>z.l=(vals L).flatten∧OwnT Vc.encI 1 3 w.heap.size w' z.a z.c z.l):=by
 have hs:=sumL_le (L:=L) fun y hy=>(hl y hy).1
 refine enter (args:=[_]) Tryz.func50 rfl Tryz.ntmps50 (by kernel_rfl) rfl ?_
 refine V.seq (V.region (VL.op (R.asS rfl) (VL.nil (V.seq (V.region (VL.op (R.asI rfl) (VL.nil (V.seq (V.seq (V.region (VL.op (R.mvS rfl) (VL.op (R.lenS Tryz.runUnderlying23 rfl) (VL.op (R.mvI rfl) (VL.nil (V.block (?_))))))))))))))))
 refine V.loop [0,3,9,10,11] (fun k:Nat=>[.slice a L.length c,.int .i64 (sumL L k:Nat),.slice a L.length c,.int .i64 (L.length:Nat),.int .i64 (k:Nat)])
  (fun k w'=>k≤L.length∧Ext w w') (fun k=>L.length-k) 0 rfl ⟨Nat.zero_le _,Vc.Mod.refl _ _⟩ ?_
 rintro ρ k w1 ⟨hk,e⟩
 have hL1:=hL.ext e
 have hsk:=hs k
 refine V.seq (V.region (VL.op (R.lss rfl rfl) (VL.nil (V.seq (V.condP rfl (fun c12=>V.skip (V.seq (V.block (V.seq (?_))))) (fun c12=>V.exit (V.seq (?_))))))))
 ·have hkl:k<L.length:=by omega
  have hyl:=hl _ (gmem hkl)
  have hsum:=sumL_succ hkl
  refine V.region (VL.op (R.ixS Tryz.runUnderlying23 Tryz.sizeOf22 rfl rfl (by omega) (by omega) ((hL1.sl).some (i:=k) (by omega))) (VL.op (R.ld1 Tryz.isAgg22 rfl (((((hL1.sl).ext (Mod.refl _ _)).row (i:=k) (by omega)).cell (i:=0) rfl))) (VL.op (R.asS rfl) (VL.nil (V.seq (V.region (VL.op (R.mvI rfl) (VL.op (R.mvS rfl) (VL.op (R.lenS Tryz.runUnderlying22 rfl) (VL.op (R.addE (z:=((sumL L (k+1):Nat):Int)) rfl rfl (by omega) (by omega) (by omega)) (VL.op (R.asI rfl) (VL.nil (V.seq (V.region (VL.op (R.mvI rfl) (VL.op (R.lit (R.lss rfl rfl) ((decide_eq_false (by omega)))) (VL.nil (V.condF rfl (V.skip (V.region (VL.op (R.add rfl rfl (by omega) (by omega)) (VL.op (R.mvI rfl) (VL.nil (⟨k+1,rfl,⟨by omega,e.trans (Mod.refl _ _)⟩,by omega⟩))))))))))))))))))))))))
 ·have hke:k=L.length:=by omega
  subst hke
  refine V.region (VL.op (R.mvI rfl) (VL.callX Tryz.call72 rfl (grow_spec (sumL L L.length) w1 (by have:=hs L.length;omega)) fun z9 w9 h9 e9=>VL.op (R.asS rfl) (VL.nil (V.seq (V.seq (?_))))))
  refine V.region (VL.op (R.mvS rfl) (VL.op (R.lenS Tryz.runUnderlying23 rfl) (VL.op (R.mvI rfl) (VL.nil (V.block (?_))))))
  have hL9:=(hL.ext e).ext e9
  refine V.loop [6,25,26,27] (fun z:Nat×SlI=>[.slice z.2.a z.2.l.length z.2.c,.slice a L.length c,.int .i64 (L.length:Nat),.int .i64 (z.1:Nat)])
   (fun z w'=>z.1≤L.length∧z.2.l=(vals (L.take z.1)).flatten∧OwnT Vc.encI 1 3 w1.heap.size w' z.2.a z.2.c z.2.l∧Ext w1 w') (fun z=>L.length-z.1) (0,⟨z9.1,z9.2,[]⟩) rfl ⟨Nat.zero_le _,rfl,h9,e9⟩ ?_
  rintro ρ ⟨k,y⟩ w2 ⟨hk2,hy,ho,e2⟩
  dsimp only at hk2 hy ho e2 ⊢
  have hL2:=(hL.ext e).ext e2
  have hyl:y.l.length=sumL L k:=by rw [hy];unfold sumL vals;rw [List.length_flatten,List.map_map];rfl
  have hsk:=hs k
  refine V.seq (V.region (VL.op (R.lss rfl rfl) (VL.nil (V.seq (V.condP rfl (fun c28=>V.skip (V.seq (V.block (V.seq (?_))))) (fun c28=>V.exit (V.seq (V.region (VL.op (R.mvS rfl) (VL.op (R.asS rfl) (VL.nil (V.ret (fret1 (v:=.slice _ _ _) rfl rfl rfl (?_))))))))))))))
  ·have hkl:k<L.length:=by omega
   have hxl:=hl _ (gmem hkl)
   refine V.region (VL.op (R.ixS Tryz.runUnderlying23 Tryz.sizeOf22 rfl rfl (by omega) (by omega) ((hL2.sl).some (i:=k) (by omega))) (VL.op (R.ld1 Tryz.isAgg22 rfl (((((hL2.sl).ext (Mod.refl _ _)).row (i:=k) (by omega)).cell (i:=0) rfl))) (VL.op (R.asS rfl) (VL.nil (?_)))))
   refine V.region (VL.op (R.mvS rfl) (VL.op (R.mvS rfl) (VL.appendT el22 (fun _=>rfl) rfl (rfl) (ho) rfl (rfl) ((hL2.at hkl)) (hxl.2) (by omega) (by unfold maxLen;omega) e2.size (show y.l.length+(L.getD k default).l.length=(y.l++(L.getD k default).l).length by rw [List.length_append]) fun a7 c7 w7 ho7 m7 hf7=>VL.op (R.asS rfl) (VL.nil (V.region (VL.op (R.add rfl rfl (by omega) (by omega)) (VL.op (R.mvI rfl) (VL.nil (?_)))))))))
   refine ⟨(k+1,⟨a7,c7,y.l++(L.getD k default).l⟩),rfl,⟨by dsimp only;omega,?_,ho7,e2.ownA m7 ho.ge⟩,by dsimp only;omega⟩
   dsimp only
   unfold vals at hy ⊢
   rw [List.take_succ_eq_append_getElem hkl,List.map_append,List.flatten_append,←hy,←gget hkl]
   simp
  ·have hke:k=L.length:=by omega
   subst hke
   rw [List.take_length] at hy
   exact ⟨y,rfl,⟨hy,ho.weaken e.size⟩,e.trans e2⟩
end YtjocoefpnboccaaGreatDoor
end Go.Proofs

/- Solve: the beginning of a search: which vertices are named. -/
namespace Go.Proofs.YtjocoefpnboccaaGreatDoor
open Go.Vc
set_option maxRecDepth 100000
set_option maxHeartbeats 16000000
theorem vertices_spec (a:Option Addr) (c:Nat) (l:List Int) (n:Int) (w:World) (hl:l.length≤9223372036854775807) (hS:IntSl w a l) :
  RetsP Tryz.prog 49 #[.slice a l.length c,.int .i64 n] w (.bool (setB l n)):=by
 refine enter (args:=[_,_]) Tryz.func49 rfl Tryz.ntmps49 (by kernel_rfl) rfl ?_
 refine V.seq (V.region (VL.op (R.asB rfl) (VL.nil (V.seq (V.seq (V.region (VL.op (R.mvS rfl) (VL.op (R.lenS Tryz.runUnderlying22 rfl) (VL.op (R.mvI rfl) (VL.nil (V.block (?_))))))))))))
 refine V.loop [0,1,7,8,9] (fun k:Nat=>[.slice a l.length c,.int .i64 n,.slice a l.length c,.int .i64 (l.length:Nat),.int .i64 k]) (fun k w'=>k≤l.length∧(∀ i,i<k→0≤l.getD i default∧l.getD i default<n∧(0<i→l.getD (i-1) default<l.getD i default))∧Ext w w') (fun k=>l.length-k) 0 rfl ⟨by omega,fun i h=>absurd h (Nat.not_lt_zero i),Mod.refl _ _⟩ ?_
 rintro ρ k w1 ⟨hk,hi,e⟩
 have hk1:((k:Int)-1).toNat=k-1:=by omega
 refine V.seq (V.region (VL.op (R.lss rfl rfl) (VL.nil (V.seq (V.condP rfl (fun c10=>V.skip (V.seq (V.block (V.seq (V.region (VL.op (R.mvI rfl) (VL.op (R.ixS Tryz.runUnderlying22 Tryz.sizeOf3 rfl rfl (by omega) (by omega) ((hS).some (i:=k) (by omega))) (VL.op (R.ld1 Tryz.isAgg3 rfl (((((hS).ext e).row (i:=k) (by omega)).cell (i:=0) rfl))) (VL.op (R.asI rfl) (VL.op (R.asI rfl) (VL.nil (V.seq (V.regionCut [14,15,16,17,18,19,20,21,22,23,24,25,26,27,28,29,30,31,32,33] 33 (.bool (!decide (0≤l.getD k default∧l.getD k default<n∧(0<k→l.getD (k-1) default<l.getD k default)))) (fun w'=>Ext _ w') rfl (VL.op (R.mvI rfl) (VL.op (R.lss rfl rfl) (VL.op (R.mvB rfl) (VL.orP rfl rfl (fun g4_2=>VL.op (R.mvI rfl) (VL.gT rfl rfl (VL.op (R.mvI rfl) (VL.gT rfl rfl (VL.op (R.geq rfl rfl) (VL.op (R.pickFB rfl rfl) (VL.op (R.mvB rfl) (VL.orP rfl rfl (fun g4_7=>VL.op (R.mvI rfl) (VL.gT rfl rfl (VL.op (R.gtr rfl rfl) (VL.gT rfl rfl (VL.op (R.mvB rfl) (VL.andP rfl rfl (fun g4_10=>VL.op (R.mvS rfl) (VL.gT rfl rfl (VL.op (R.mvI rfl) (VL.gT rfl rfl (VL.op (R.sub rfl rfl (by omega) (by omega)) (VL.gT rfl rfl (VL.op (R.ixS Tryz.runUnderlying22 Tryz.sizeOf3 rfl rfl (by omega) (by omega) ((hS).some (i:=((k:Int)-1).toNat) (by omega))) (VL.gT rfl rfl (VL.op (R.ld1 Tryz.isAgg3 rfl (((((hS).ext e).row (i:=((k:Int)-1).toNat) (by omega)).cell (i:=0) rfl))) (VL.gT rfl rfl (VL.op (R.mvI rfl) (VL.gT rfl rfl (VL.op (R.geq rfl rfl) (VL.gT rfl rfl (VL.op (R.pickTB rfl rfl) (VL.op (R.pickFB rfl rfl) (VL.nil ⟨rfl,cutB rfl ?_,Mod.refl _ _⟩))))))))))))))))) (fun g4_10=>VL.gF rfl rfl (VL.gF rfl rfl (VL.gF rfl rfl (VL.gF rfl rfl (VL.gF rfl rfl (VL.gF rfl rfl (VL.gT rfl rfl (VL.op (R.pickFB rfl rfl) (VL.op (R.pickFB rfl rfl) (VL.nil ⟨rfl,cutB rfl ?_,Mod.refl _ _⟩)))))))))))))))) (fun g4_7=>VL.gF rfl rfl (VL.gF rfl rfl (VL.gU rfl rfl (VL.gU rfl rfl (VL.gU rfl rfl (VL.gU rfl rfl (VL.gU rfl rfl (VL.gU rfl rfl (VL.gU rfl rfl (VL.gF rfl rfl (VL.op (R.pickTB rfl rfl) (VL.nil ⟨rfl,cutB rfl ?_,Mod.refl _ _⟩)))))))))))))))))))) (fun g4_2=>VL.gF rfl rfl (VL.gF rfl rfl (VL.op (R.pickTB rfl rfl) (VL.op (R.mvB rfl) (VL.gF rfl rfl (VL.gF rfl rfl (VL.gF rfl rfl (VL.gU rfl rfl (VL.gU rfl rfl (VL.gU rfl rfl (VL.gU rfl rfl (VL.gU rfl rfl (VL.gU rfl rfl (VL.gU rfl rfl (VL.gF rfl rfl (VL.op (R.pickTB rfl rfl) (VL.nil ⟨rfl,cutB rfl ?_,Mod.refl _ _⟩))))))))))))))))))))) (fun rg4 w4c e4c=>V.cond rfl (fun c33=>V.seq (V.region (VL.op (R.asB rfl) (VL.nil (V.ret (fret1 (v:=.bool _) rfl rfl rfl (⟨?_,(e.trans e4c)⟩))))))) (fun c33=>V.skip (V.region (VL.op (R.add rfl rfl (by omega) (by omega)) (VL.op (R.mvI rfl) (VL.nil (⟨k+1,rfl,⟨by omega,fun i h=>?_,(e.trans e4c)⟩,by omega⟩)))))))))))))))))))) (fun c10=>V.exit (V.seq (V.region (VL.op (R.asB rfl) (VL.nil (V.ret (fret1 (v:=.bool _) rfl rfl rfl (⟨?_,e⟩)))))))))))))
 ·rw [hk1,←decide_not];exact decide_eq_decide.2 (by omega)
 ·rw [decide_eq_true (by omega)];rfl
 ·rw [decide_eq_false (by omega)];rfl
 ·rw [decide_eq_false (by omega)];rfl
 ·rw [setB_bad (i:=k) (by omega) (by rw [Bool.not_eq_true'] at c33;exact of_decide_eq_false c33)]
 ·by_cases e2:i=k
  ·subst e2;simpa using c33
  ·exact hi i (by omega)
 ·rw [setB_step fun i h=>hi i (by omega)]
def nmW (W:List Wy) (v:Int):Bool:=W.any fun w=>decide (v∈w.pos)||decide (v∈w.neg)
def BoV (b nb:Nat) (bs:List Bool) (w:World):Prop:=Blk w b (.cells #[.slice (some ⟨nb,0,none⟩) bs.length bs.length] 88 (0,0))∧OwnT encBo 1 4 0 w (some ⟨nb,0,none⟩) bs.length bs
theorem BoV.ext {b nb:Nat} {bs:List Bool} {w w':World} (h:BoV b nb bs w) (e:Ext w w'):BoV b nb bs w':=⟨h.1.ext e,h.2.ext e⟩
theorem begin1_spec (b nb:Nat) (bs:List Bool) (v:Int) (w:World) (h:BoV b nb bs w) (h0:0≤v) (h1:v<(bs.length:Int)) :
  RetsP Tryz.prog 51 #[.int .i64 v,.pointer (some ⟨b,0,none⟩)] w (.bool (bs.getD v.toNat default)):=by
 refine enter (args:=[_,_]) Tryz.func51 rfl Tryz.ntmps51 (by kernel_rfl) rfl ?_
 refine V.seq (V.region (VL.op (R.asB rfl) (VL.nil (V.seq (V.region (VL.op (R.ld1 Tryz.isAgg88 rfl ((show _=some (Value.slice (some ⟨nb,0,none⟩) bs.length bs.length) from h.1.cell 0))) (VL.op (R.mvI rfl) (VL.op (R.ixS Tryz.runUnderlying88 Tryz.sizeOf4 rfl rfl (by omega) (by omega) (h.2.sl.some (i:=v.toNat) (by omega))) (VL.op (R.ld1 Tryz.isAgg4 rfl (((h.2.sl.row (i:=v.toNat) (by omega)).cell (i:=0) rfl))) (VL.op (R.asB rfl) (VL.nil (V.ret (fret1 (v:=.bool _) rfl rfl rfl (⟨rfl,(Mod.refl _ _)⟩))))))))))))))
end Go.Proofs.YtjocoefpnboccaaGreatDoor

/- Solve: the beginning of a search. -/
namespace Go.Proofs.YtjocoefpnboccaaGreatDoor
open Go.Vc
set_option maxRecDepth 100000
set_option maxHeartbeats 16000000
def sgL (W:List Wy) (C:List (List Int)):List Int:=((C.filter fun c=>c.any (nmW W)).filter fun c=>decide (c.length=1)).map fun c=>c.getD 0 default
def ptL (W:List Wy) (C:List (List Int)):List Int:=((C.filter fun c=>c.any (nmW W)).filter fun c=>!decide (c.length=1)).flatten
def ptI (g:Gr) (W:List Wy):List Int:=srtF (ptL W (compsG g))
def orI (g:Gr) (W:List Wy):List Int:=sgL W (compsG g)++ptI g W
def errG (g:Gr) (W:List Wy):Int:=if readyG g W=true then (if 40<(ptI g W).length then 17 else 0) else 1
structure BgK (g:GrW) (wa:Option Addr) (wc:Nat) (W:List WyI) (h:Bool) (w:World) (z:Option Nat×Int) (w':World):Prop where
 e:z.2=errG (grV g) (W.map wyV)
 no:z.2≠0→z.1=none
 ok:z.2=0→∃ (x:SvX) (N:Nat),z.1=some x.p∧x.g=g∧x.W=W∧x.h=h∧x.O=orI (grV g) (W.map wyV)∧g.n=(N:Int)∧SvR x N∧SvOk x w' (List.replicate N 0) none 0 []∧x.L≤w'.heap.size∧∀ q,x.T q→w.heap.size≤q
theorem sgL_snoc (W:List Wy) (C:List (List Int)) (c:List Int):sgL W (C++[c])=sgL W C++if c.any (nmW W)=true∧c.length=1 then [c.getD 0 default] else []:=by
 unfold sgL
 rw [List.filter_append,List.filter_append,List.map_append]
 congr 1
 by_cases h1:c.any (nmW W)=true
 ·by_cases h2:c.length=1
  ·rw [if_pos ⟨h1,h2⟩];simp [h1,h2]
  ·rw [if_neg fun h=>h2 h.2];simp [h1,h2]
 ·rw [if_neg fun h=>h1 h.1];rw [Bool.not_eq_true] at h1;simp [h1]
theorem ptL_snoc (W:List Wy) (C:List (List Int)) (c:List Int):ptL W (C++[c])=ptL W C++if c.any (nmW W)=true∧¬c.length=1 then c else []:=by
 unfold ptL
 rw [List.filter_append,List.filter_append,List.flatten_append]
 congr 1
 by_cases h1:c.any (nmW W)=true
 ·by_cases h2:c.length=1
  ·rw [if_neg fun h=>h.2 h2];simp [h1,h2]
  ·rw [if_pos ⟨h1,h2⟩];simp [h1,h2]
 ·rw [if_neg fun h=>h1 h.1];rw [Bool.not_eq_true] at h1;simp [h1]
theorem take_snoc {α:Type} [Inhabited α] {l:List α} {k:Nat} (h:k<l.length):l.take (k+1)=l.take k++[l.getD k default]:=by
 rw [List.take_succ_eq_append_getElem h,gget h]
theorem sgL_len (W:List Wy) (C:List (List Int)):(sgL W C).length≤C.length:=by
 unfold sgL
 rw [List.length_map]
 exact Nat.le_trans (List.length_filter_le _ _) (List.length_filter_le _ _)
theorem ptL_len (W:List Wy) {M:Nat} (C:List (List Int)) (h:∀ c∈C,c.length≤M):∀ k,k≤C.length→(ptL W (C.take k)).length≤k*M:=by
 intro k
 induction k with
 | zero=>intro _;simp [ptL]
 | succ k ih =>
  intro hk
  have h1:=ih (by omega)
  rw [take_snoc (by omega),ptL_snoc,List.length_append,Nat.succ_mul]
  have h2:(if (C.getD k default).any (nmW W)=true∧¬(C.getD k default).length=1 then C.getD k default else []).length≤M:=by
   split
   ·exact h _ (gmem (by omega))
   ·exact Nat.zero_le _
  omega
theorem ncomps_len {g:Gr} (hg:validG g=true):(compsG g).length≤g.n.toNat:=by
 unfold compsG
 rw [if_pos hg,grpsK_len]
 exact hdsK_len _ _
def encB9 (g:GrW) (wa:Option Addr) (wl wc:Nat) (h:Bool) (oa:Option Addr) (ol oc zb tb n:Nat) (cl:Value):List Value:=[.int .i64 g.n,.slice g.ca g.cost.length g.cc,.slice g.ea g.edges.length g.ec,.slice wa wl wc,.bool h,.slice oa ol oc,.slice (some ⟨zb,0,none⟩) n n,.slice (some ⟨tb,0,none⟩) n n,.slice none 0 0,cl]
structure Bg9 (wB:World) (p:Nat) (enc:Option Addr→Nat→Nat→List Value) (oa:Option Addr) (oc:Nat) (O:List Int) (pa:Option Addr) (pc:Nat) (P:List Int) (w:World):Prop where
 blk:Blk w p (.cells (Value.agg (enc oa O.length oc).toArray).cells 74 (0,0))
 o:OwnT Vc.encI 1 3 wB.heap.size w oa oc O
 pt:OwnT Vc.encI 1 3 wB.heap.size w pa pc P
 s:Sep oa pa
 m:Vc.Mod (fun q=>q=p∨wB.heap.size≤q) wB w
theorem ready_at {g:Gr} {W:List Wy} {k:Nat} (hk:k<W.length) (h:wyB g.n (W.getD k default)=false):readyG g W=false:=by
 unfold readyG
 rw [show W.all (wyB g.n)=false from List.all_eq_false.2 ⟨_,gmem hk,by rw [h];decide⟩,Bool.and_false]
theorem begin29_spec (g:GrW) (wa:Option Addr) (wc:Nat) (W:List WyI) (h:Bool) (B:Nat) (w:World) (hG:GOk w g) (hl:GLen g) (hW:WL w wa W) (hWl:∀ y∈W,WLen y) (hWh:∀ y∈W,(y.p.a=none→y.p.c=0)∧(y.n.a=none→y.n.c=0)) (hWm:W.length≤1000000) (hB:B≤w.heap.size) (hT:TabW B w) :
  RetsX Tryz.prog 36 #[.agg (encGr g).toArray,.slice wa W.length wc,.bool h] w (fun z:Option Nat×Int=>.tuple #[.pointer (z.1.map fun q=>⟨q,0,none⟩),.int .i64 z.2]) (BgK g wa wc W h w):=by
 have hWn:(W.map wyV).length=W.length:=List.length_map _
 have hErr:readyG (grV g) (W.map wyV)=false→BgK g wa wc W h w (none,1)=fun w'=>BgK g wa wc W h w (none,1) w':=fun _=>rfl
 have hE1:∀ w',readyG (grV g) (W.map wyV)=false→BgK g wa wc W h w (none,1) w':=fun w' hr=>⟨by unfold errG;rw [if_neg (by rw [hr];decide)],fun _=>rfl,fun h0=>by cases h0⟩
 refine enter (args:=[_,_,_]) Tryz.func36 rfl Tryz.ntmps36 (by kernel_rfl) rfl ?_
 cases hv:validG (grV g) with
 | false =>
  refine V.seq (V.region (VL.box (v:=.agg _) rfl fun b0_0 w0_0 hb0_0 e0_0 hB0_0=>VL.op (R.asP rfl) (VL.op (R.asI rfl) (VL.nil (V.seq (V.seq (V.region (VL.op (R.ldA Tryz.isAgg25 Tryz.sizeOf25 rfl rfl ((show RowAt _ _ _ (encGr g) from hB0_0.rowAt 0 3)) rfl) (VL.callP Tryz.call26 rfl ((by have:=valid_spec g B _ (hG.ext e0_0) hl (Nat.le_trans hB (e0_0).size) (hT.ext hB e0_0);rwa [hv] at this)) fun w1_1 e1_1=>VL.op (R.not rfl) (VL.op (R.mvB rfl) (VL.gF rfl rfl (VL.gF rfl rfl (VL.gF rfl rfl (VL.op (R.pickTB rfl rfl) (VL.nil (V.condT rfl (V.seq (V.region (VL.op (R.asP rfl) (VL.op (R.asI rfl) (VL.nil (V.ret (fret2 (v:=.pointer _) (x:=.int _ _) rfl rfl rfl rfl rfl (?_))))))))))))))))))))))))
  exact ⟨(none,1),rfl,hE1 _ (by unfold readyG;rw [hv];rfl),e0_0.trans e1_1⟩
 | true =>
  have hn:=costB_iff.1 (validG_iff.1 hv).1
  obtain ⟨N,hN⟩:∃ N:Nat,g.n=(N:Int):=⟨g.n.toNat,by have h0:0≤g.n:=hn.1;omega⟩
  have hN4:N≤4000:=by have h0:g.n≤4000:=hn.2.1;omega
  have hE20:g.edges.length≤20000:=by have:=(validG_iff.1 hv).2.1;simpa [grV,vals] using this
  have hvs:∀ {w':World},Ext w w'→RetsP Tryz.prog 26 #[.agg (encGr g).toArray] w' (.bool true):=fun e=>by
   have:=valid_spec g B _ (hG.ext e) hl (Nat.le_trans hB e.size) (hT.ext hB e);rwa [hv] at this
  by_cases hW4:W.length≤400
  ·refine V.seq (V.region (VL.box (v:=.agg _) rfl fun b0_0 w0_0 hb0_0 e0_0 hB0_0=>VL.op (R.asP rfl) (VL.op (R.asI rfl) (VL.nil (V.seq (V.seq (V.region (VL.op (R.ldA Tryz.isAgg25 Tryz.sizeOf25 rfl rfl ((show RowAt _ _ _ (encGr g) from hB0_0.rowAt 0 3)) rfl) (VL.callP Tryz.call26 rfl (hvs e0_0) fun w1_1 e1_1=>VL.op (R.not rfl) (VL.op (R.mvB rfl) (VL.gT rfl rfl (VL.op (R.mvS rfl) (VL.gT rfl rfl (VL.op (R.lenS Tryz.runUnderlying26 rfl) (VL.gT rfl rfl (VL.op (R.lit (R.gtr rfl rfl) ((decide_eq_false (by omega)))) (VL.op (R.pickFB rfl rfl) (VL.nil (V.condF rfl (V.skip (V.seq (?_))))))))))))))))))))))
   have hX1:Blk w1_1 b0_0 (.cells (Value.agg (encGr g).toArray).cells 25 (0,0)):=hB0_0.ext e1_1
   refine V.region (VL.op (R.fld' (o:=0) Tryz.runUnderlying25 rfl rfl Tryz.sizeOf3 rfl rfl) (VL.op (R.ld1 Tryz.isAgg3 rfl ((show w1_1.cell? ⟨b0_0,0,none⟩=some (Value.int .i64 ((N:Nat):Int)) from by rw [←hN];exact hX1.cell 0))) (VL.makeSl (enc:=encBo ) el88 ( false) rfl rfl rfl (by omega) (by unfold maxLen;omega) (Nat.le_refl _) fun b3 w3 hb3 e3 ho3=>VL.allocSt (v:=.slice _ _ _) Tryz.zeroValue88 Tryz.sizeOf88 rfl rfl rfl rfl rfl fun b3_3 w3_3 hb3_3 e3_3 hB3_3=>VL.nil (V.seq (V.seq (?_))))))
   have hX3:=hX1.ext (e3.trans e3_3)
   refine V.region (VL.op (R.mvS rfl) (VL.op (R.lenS Tryz.runUnderlying26 rfl) (VL.op (R.mvI rfl) (VL.nil (V.block (?_))))))
   refine V.loop [1,2,3,8,32,33,34] (fun z:Nat×List Bool=>[.slice wa W.length wc,.bool h,.pointer (some ⟨b0_0,0,none⟩),.pointer (some ⟨b3_3,0,none⟩),.slice wa W.length wc,.int .i64 (W.length:Nat),.int .i64 (z.1:Nat)])
    (fun z w'=>z.1≤W.length∧z.2.length=N∧OwnT encBo 1 4 w1_1.heap.size w' (some ⟨b3,0,none⟩) N z.2∧Blk w' b3_3 (.cells #[.slice (some ⟨b3,0,none⟩) N N] 88 (0,0))∧(∀ v:Nat,v<N→z.2.getD v default=nmW ((W.map wyV).take z.1) (v:Int))∧(∀ i,i<z.1→wyB g.n ((W.map wyV).getD i default)=true)∧Ext w1_1 w') (fun z=>W.length-z.1) (0,List.replicate N false) rfl ⟨Nat.zero_le _,by simp,ho3.ext e3_3,hB3_3,fun v hv=>by rw [rep_at hv];rfl,fun i hi=>absurd hi (Nat.not_lt_zero i),e3.trans e3_3⟩ ?_
   rintro ρ ⟨k,bs⟩ w4 ⟨hk,hbl,hbo,hbb,hbs,hok,e4⟩
   dsimp only at hk hbl hbo hbb hbs hok e4 ⊢
   have E4:Ext w w4:=(e0_0.trans e1_1).trans e4
   have hW4':=hW.ext E4
   have hX4:=hX1.ext e4
   refine V.seq (V.region (VL.op (R.lss rfl rfl) (VL.nil (V.seq (V.condP rfl (fun c35=>V.skip (V.seq (V.block (V.seq (?_))))) (fun c35=>V.exit (V.seq (?_))))))))
   ·have hkl:k<W.length:=by omega
    have hym:=gmem hkl
    obtain ⟨y,hy⟩:∃ y,y=W.getD k default:=⟨_,rfl⟩
    have hyw:WyOk w4 y:=by rw [hy];exact hW4'.at hkl
    have hwv:(W.map wyV).getD k default=wyV y:=by rw [hy];exact gmap wyV W default hkl
    rw [←hy] at hym
    have hyl:=hWl y hym
    have hyh:=hWh y hym
    refine V.region (VL.op (R.ixS Tryz.runUnderlying26 Tryz.sizeOf43 rfl rfl (by omega) (by omega) (hW4'.sl.some (i:=k) hkl)) (VL.op (R.ldA Tryz.isAgg43 Tryz.sizeOf43 rfl rfl ((show RowAt _ _ _ (encWy (W.getD k default)) from (hW4'.sl.row (i:=k) hkl))) rfl) (VL.allocSt (v:=.agg _) Tryz.zeroValue43 Tryz.sizeOf43 rfl rfl rfl rfl rfl fun b6_2 w6_2 hb6_2 e6_2 hB6_2=>VL.nil (V.seq (V.seq (?_))))))
    have hX6:Blk w6_2 b6_2 (.cells (Value.agg (encWy y).toArray).cells 43 (0,0)):=by rw [hy];exact hB6_2
    clear hB6_2
    have hXg:=hX4.ext e6_2
    have E6:Ext w w6_2:=E4.trans e6_2
    have hvp:∀ {w':World},Ext w6_2 w'→RetsP Tryz.prog 49 #[.slice y.p.a y.p.l.length y.p.c,.int .i64 g.n] w' (.bool (setB y.p.l g.n)):=fun e=>vertices_spec y.p.a y.p.c y.p.l g.n _ (by have:=hyl.p;omega) (hyw.p.ext (e6_2.trans e))
    have hvn:∀ {w':World},Ext w6_2 w'→RetsP Tryz.prog 49 #[.slice y.n.a y.n.l.length y.n.c,.int .i64 g.n] w' (.bool (setB y.n.l g.n)):=fun e=>vertices_spec y.n.a y.n.c y.n.l g.n _ (by have:=hyl.n;omega) (hyw.n.ext (e6_2.trans e))
    have hbad:wyB g.n (wyV y)=false→readyG (grV g) (W.map wyV)=false:=fun hb=>ready_at (k:=k) (by rw [List.length_map];exact hkl) (by rw [hwv];exact hb)
    cases hp:setB y.p.l g.n with
    | false =>
     rw [hp] at hvp
     refine V.region (VL.op (R.fld' (o:=0) Tryz.runUnderlying43 rfl rfl Tryz.sizeOf22 rfl rfl) (VL.op (R.ld1 Tryz.isAgg22 rfl ((show _=some (Value.slice y.p.a y.p.l.length y.p.c) from hX6.cell 0))) (VL.op (R.fld' (o:=0) Tryz.runUnderlying25 rfl rfl Tryz.sizeOf3 rfl rfl) (VL.op (R.ld1 Tryz.isAgg3 rfl ((show _=some (Value.int .i64 g.n) from hXg.cell 0))) (VL.callP Tryz.call49 rfl (hvp (Mod.refl _ _)) fun w7_4 e7_4=>VL.op (R.not rfl) (VL.op (R.mvB rfl) (VL.gF rfl rfl (VL.gF rfl rfl (VL.gF rfl rfl (VL.gF rfl rfl (VL.gF rfl rfl (VL.gF rfl rfl (VL.op (R.pickTB rfl rfl) (VL.nil (V.condT rfl (V.seq (V.region (VL.op (R.asP rfl) (VL.op (R.asI rfl) (VL.nil (V.ret (fret2 (v:=.pointer _) (x:=.int _ _) rfl rfl rfl rfl rfl (?_)))))))))))))))))))))))
     exact ⟨(none,1),rfl,hE1 _ (hbad (by unfold wyB wyV;rw [hp];rfl)),E6.trans e7_4⟩
    | true =>
     rw [hp] at hvp
     cases hq:setB y.n.l g.n with
     | false =>
      rw [hq] at hvn
      refine V.region (VL.op (R.fld' (o:=0) Tryz.runUnderlying43 rfl rfl Tryz.sizeOf22 rfl rfl) (VL.op (R.ld1 Tryz.isAgg22 rfl ((show _=some (Value.slice y.p.a y.p.l.length y.p.c) from hX6.cell 0))) (VL.op (R.fld' (o:=0) Tryz.runUnderlying25 rfl rfl Tryz.sizeOf3 rfl rfl) (VL.op (R.ld1 Tryz.isAgg3 rfl ((show _=some (Value.int .i64 g.n) from hXg.cell 0))) (VL.callP Tryz.call49 rfl (hvp (Mod.refl _ _)) fun w7_4 e7_4=>VL.op (R.not rfl) (VL.op (R.mvB rfl) (VL.gT rfl rfl (VL.op (R.fld' (o:=1) Tryz.runUnderlying43 rfl rfl Tryz.sizeOf22 rfl rfl) (VL.gT rfl rfl (VL.op (R.ld1 Tryz.isAgg22 rfl ((show _=some (Value.slice y.n.a y.n.l.length y.n.c) from (hX6.ext e7_4).cell 1))) (VL.gT rfl rfl (VL.op (R.fld' (o:=0) Tryz.runUnderlying25 rfl rfl Tryz.sizeOf3 rfl rfl) (VL.gT rfl rfl (VL.op (R.ld1 Tryz.isAgg3 rfl ((show _=some (Value.int .i64 g.n) from (hXg.ext e7_4).cell 0))) (VL.gT rfl rfl (VL.callP Tryz.call49 rfl (hvn e7_4) fun w7_11 e7_11=>VL.gT rfl rfl (VL.op (R.not rfl) (VL.op (R.pickFB rfl rfl) (VL.nil (V.condT rfl (V.seq (V.region (VL.op (R.asP rfl) (VL.op (R.asI rfl) (VL.nil (V.ret (fret2 (v:=.pointer _) (x:=.int _ _) rfl rfl rfl rfl rfl (?_))))))))))))))))))))))))))))
      exact ⟨(none,1),rfl,hE1 _ (hbad (by unfold wyB wyV;rw [hp,hq];rfl)),E6.trans (e7_4.trans e7_11)⟩
     | true =>
      rw [hq] at hvn
      refine V.region (VL.op (R.fld' (o:=0) Tryz.runUnderlying43 rfl rfl Tryz.sizeOf22 rfl rfl) (VL.op (R.ld1 Tryz.isAgg22 rfl ((show _=some (Value.slice y.p.a y.p.l.length y.p.c) from hX6.cell 0))) (VL.op (R.fld' (o:=0) Tryz.runUnderlying25 rfl rfl Tryz.sizeOf3 rfl rfl) (VL.op (R.ld1 Tryz.isAgg3 rfl ((show _=some (Value.int .i64 g.n) from hXg.cell 0))) (VL.callP Tryz.call49 rfl (hvp (Mod.refl _ _)) fun w7_4 e7_4=>VL.op (R.not rfl) (VL.op (R.mvB rfl) (VL.gT rfl rfl (VL.op (R.fld' (o:=1) Tryz.runUnderlying43 rfl rfl Tryz.sizeOf22 rfl rfl) (VL.gT rfl rfl (VL.op (R.ld1 Tryz.isAgg22 rfl ((show _=some (Value.slice y.n.a y.n.l.length y.n.c) from (hX6.ext e7_4).cell 1))) (VL.gT rfl rfl (VL.op (R.fld' (o:=0) Tryz.runUnderlying25 rfl rfl Tryz.sizeOf3 rfl rfl) (VL.gT rfl rfl (VL.op (R.ld1 Tryz.isAgg3 rfl ((show _=some (Value.int .i64 g.n) from (hXg.ext e7_4).cell 0))) (VL.gT rfl rfl (VL.callP Tryz.call49 rfl (hvn e7_4) fun w7_11 e7_11=>VL.gT rfl rfl (VL.op (R.not rfl) (VL.op (R.pickFB rfl rfl) (VL.nil (V.condF rfl (V.skip (V.seq (?_)))))))))))))))))))))))
      have e7:=e7_4.trans e7_11
      have hX7:=hX6.ext e7
      refine V.region (VL.op (R.fld' (o:=0) Tryz.runUnderlying43 rfl rfl Tryz.sizeOf22 rfl rfl) (VL.op (R.ld1 Tryz.isAgg22 rfl ((show _=some (Value.slice y.p.a y.p.l.length y.p.c) from hX7.cell 0))) (VL.op (R.fld' (o:=1) Tryz.runUnderlying43 rfl rfl Tryz.sizeOf22 rfl rfl) (VL.op (R.ld1 Tryz.isAgg22 rfl ((show _=some (Value.slice y.n.a y.n.l.length y.n.c) from hX7.cell 1))) (VL.buildSl Tryz.runUnderlying23 Tryz.sizeOf22 Tryz.zeroValue22 rfl rfl rfl fun b9_4 w9_4 hb9_4 e9_4 hB9_4=>VL.callX Tryz.call50 rfl (concat_spec (some ⟨b9_4,0,none⟩) 2 [y.p,y.n] w9_4 (litL hB9_4 rfl (litA ((hyw.p.ext (e6_2.trans e7)).ext e9_4) (litA ((hyw.n.ext (e6_2.trans e7)).ext e9_4) litA0))) (Nat.le_refl 2) (fun u hu=>by
       rcases List.mem_cons.1 hu with e | hu
       ·subst e;exact ⟨hyl.p,hyh.1⟩
       ·rcases List.mem_cons.1 hu with e | hu
        ·subst e;exact ⟨hyl.n,hyh.2⟩
        ·cases hu)) fun z9 w9 h9 e9=>VL.op (R.lenS Tryz.runUnderlying22 rfl) (VL.op (R.mvI rfl) (VL.nil (V.block (?_)))))))))
      obtain ⟨hz9,ho9⟩:=h9
      have e69:Ext w4 w9:=((e6_2.trans e7).trans e9_4).trans e9
      have hz9':z9.l=y.p.l++y.n.l:=by rw [hz9];simp [vals]
      have hzr:∀ v∈z9.l,0≤v∧v<(N:Int):=fun v hv=>by
       rw [hz9',List.mem_append] at hv
       have:=hv.elim (fun h=>(setB_iff.1 hp).2 v h) fun h=>(setB_iff.1 hq).2 v h
       omega
      have hzl:z9.l.length≤2000000:=by rw [hz9',List.length_append];have:=hyl.p;have:=hyl.n;omega
      have hb3:=hbo.lt b3 ⟨_,rfl,rfl⟩
      have hb33:b3<b3_3:=by have:=ho3.lt b3 ⟨_,rfl,rfl⟩;omega
      have hs9:=(e6_2.trans e7).size
      have hs94:=e9_4.size
      have hs99:=e9.size
      refine V.loop [1,2,3,8,32,33,34,57,58,59] (fun z:Nat×List Bool=>[.slice wa W.length wc,.bool h,.pointer (some ⟨b0_0,0,none⟩),.pointer (some ⟨b3_3,0,none⟩),.slice wa W.length wc,.int .i64 (W.length:Nat),.int .i64 (k:Nat),.slice z9.a z9.l.length z9.c,.int .i64 (z9.l.length:Nat),.int .i64 (z.1:Nat)])
       (fun z w'=>z.1≤z9.l.length∧z.2.length=N∧OwnT encBo 1 4 w1_1.heap.size w' (some ⟨b3,0,none⟩) N z.2∧Blk w' b3_3 (.cells #[.slice (some ⟨b3,0,none⟩) N N] 88 (0,0))∧(∀ v:Nat,v<N→z.2.getD v default=(nmW ((W.map wyV).take k) (v:Int)||decide ((v:Int)∈z9.l.take z.1)))∧OwnT Vc.encI 1 3 w9_4.heap.size w' z9.a z9.c z9.l∧Ext w1_1 w') (fun z=>z9.l.length-z.1) (0,bs) rfl ⟨Nat.zero_le _,hbl,hbo.ext e69,hbb.ext e69,fun v hv=>by rw [hbs v hv];simp,ho9,e4.trans e69⟩ ?_
      rintro ρ ⟨i,bs2⟩ w5 ⟨hi,hbl2,hbo2,hbb2,hbs2,hoz,e5⟩
      dsimp only at hi hbl2 hbo2 hbb2 hbs2 hoz e5 ⊢
      refine V.seq (V.region (VL.op (R.lss rfl rfl) (VL.nil (V.seq (V.condP rfl (fun c60=>V.skip (V.seq (V.block (V.seq (?_))))) (fun c60=>V.exit (V.region (VL.op (R.add rfl rfl (by omega) (by omega)) (VL.op (R.mvI rfl) (VL.nil (?_)))))))))))
      ·have hil:i<z9.l.length:=by omega
       obtain ⟨v,hvd⟩:∃ v:Nat,(v:Int)=z9.l.getD i default:=⟨(z9.l.getD i default).toNat,by have:=(hzr _ (gmem hil)).1;omega⟩
       have hvN:v<N:=by have:=(hzr _ (gmem hil)).2;omega
       refine V.region (VL.op (R.ixS Tryz.runUnderlying22 Tryz.sizeOf3 rfl rfl (by omega) (by omega) ((hoz.sl).some (i:=i) (by omega))) (VL.op (R.ld1 Tryz.isAgg3 rfl (((((hoz.sl).ext (Mod.refl _ _)).row (i:=i) (by omega)).cell (i:=0) rfl))) (VL.op (R.asI rfl) (VL.nil (?_)))))
       rw [←hvd]
       refine V.region (VL.op (R.ld1 Tryz.isAgg88 rfl ((show _=some (Value.slice (some ⟨b3,0,none⟩) N N) from hbb2.cell 0))) (VL.op (R.mvI rfl) (VL.op (R.ixS Tryz.runUnderlying88 Tryz.sizeOf4 rfl rfl (by omega) (by omega) (hbo2.sl.some (i:=v) (by omega))) (VL.ownSt eltBo (v:=.bool _) Tryz.sizeOf4 (hbo2) v 0 true rfl rfl (by omega) rfl rfl rfl rfl rfl fun w12 ho12 m12 hs12=>VL.nil (V.region (VL.op (R.add rfl rfl (by omega) (by omega)) (VL.op (R.mvI rfl) (VL.nil (?_)))))))))
       refine ⟨(i+1,bs2.set v true),rfl,⟨by dsimp only;omega,by dsimp only;rw [List.length_set];exact hbl2,ho12,hbb2.mod m12 fun hh=>?_,fun u hu=>?_,hoz.mod m12 fun q hq hs=>?_,e5.ownA m12 fun q hq=>hbo2.ge q hq⟩,by dsimp only;omega⟩
       ·have:=aBlk_some hh;omega
       ·dsimp only
        have ht:z9.l.take (i+1)=z9.l.take i++[(v:Int)]:=by rw [List.take_succ_eq_append_getElem hil,hvd,gget hil]
        rw [ht]
        by_cases e:u=v
        ·subst e
         rw [setD_eq _ (by omega),decide_eq_true (by simp),Bool.or_true]
        ·rw [setD_ne _ e,hbs2 u hu]
         congr 1
         refine decide_eq_decide.2 ?_
         rw [List.mem_append,List.mem_singleton]
         exact ⟨.inl,fun h=>h.resolve_right (by omega)⟩
       ·have:=hoz.ge q hq;have:=aBlk_some hs;omega
      ·have hie:i=z9.l.length:=by omega
       subst hie
       refine ⟨(k+1,bs2),rfl,⟨by dsimp only;omega,hbl2,hbo2,hbb2,fun v hv=>?_,fun i hi=>?_,e5⟩,by dsimp only;omega⟩
       ·dsimp only
        have hkm:k<(W.map wyV).length:=by rw [List.length_map];exact hkl
        rw [hbs2 v hv,List.take_length,List.take_succ_eq_append_getElem hkm,←gget hkm,hwv]
        unfold nmW
        rw [List.any_append,List.any_cons,List.any_nil,Bool.or_false,hz9']
        congr 1
        rw [Bool.eq_iff_iff,decide_eq_true_eq,List.mem_append,Bool.or_eq_true,decide_eq_true_eq,decide_eq_true_eq]
        rfl
       ·by_cases e:i=k
        ·subst e;rw [hwv];unfold wyB wyV;rw [hp,hq];rfl
        ·exact hok i (by dsimp only at hi;omega)
   ·have hke:k=W.length:=by omega
    subst hke
    have hrd:readyG (grV g) (W.map wyV)=true:=by
     unfold readyG
     rw [hv,hWn,decide_eq_true hW4,List.all_eq_true.2 fun y hy=>?_]
     ·rfl
     ·obtain ⟨i,hi,e⟩:=List.getElem_of_mem hy
      rw [hWn] at hi
      have:=hok i hi
      rw [gget (by rw [hWn];exact hi),e] at this
      exact this
    rw [List.take_of_length_le (Nat.le_of_eq hWn)] at hbs
    refine V.regionS mixed 9 (by kernel_rfl) rfl (fun us=>VS.op (fun wq eq=>R.ldA Tryz.isAgg25 Tryz.sizeOf25 rfl rfl ((show RowAt _ _ _ (encGr g) from (hX4.ext eq).rowAt 0 3)) rfl) (VS.op (fun wq eq=>R.mvS rfl) (VS.op (fun wq eq=>R.mvB rfl) (VS.op (fun wq eq=>R.fld' (o:=0) Tryz.runUnderlying25 rfl rfl Tryz.sizeOf3 rfl rfl) (VS.op (fun wq eq=>R.ld1 Tryz.isAgg3 rfl ((show wq.cell? ⟨b0_0,0,none⟩=some (Value.int .i64 ((N:Nat):Int)) from by rw [←hN];exact (hX4.ext eq).cell 0))) (VS.spec (fun u w'=>∃ b,u=.slice (some ⟨b,0,none⟩) N N∧OwnT Vc.encI 1 3 w4.heap.size w' (some ⟨b,0,none⟩) N (List.replicate N (0:Int))) (fun u a b _ ⟨c,hc,h1⟩ eb=>⟨c,hc,h1.ext eb⟩) rfl (fun wq eq hq=>yieldsR_make el22 (0:Int) rfl rfl rfl (by omega) (by unfold maxLen;omega) eq.size fun b w' hb he hO=>⟨⟨b,rfl,hO⟩,he⟩) (VS.op (fun wq eq=>R.fld' (o:=0) Tryz.runUnderlying25 rfl rfl Tryz.sizeOf3 rfl rfl) (VS.op (fun wq eq=>R.ld1 Tryz.isAgg3 rfl ((show wq.cell? ⟨b0_0,0,none⟩=some (Value.int .i64 ((N:Nat):Int)) from by rw [←hN];exact (hX4.ext eq).cell 0))) (VS.spec (fun u w'=>∃ b,u=.slice (some ⟨b,0,none⟩) N N∧OwnT encSl 1 22 w4.heap.size w' (some ⟨b,0,none⟩) N (List.replicate N (default:SlI))) (fun u a b _ ⟨c,hc,h1⟩ eb=>⟨c,hc,h1.ext eb⟩) rfl (fun wq eq hq=>yieldsR_make el23 (default:SlI) rfl rfl rfl (by omega) (by unfold maxLen;omega) eq.size fun b w' hb he hO=>⟨⟨b,rfl,hO⟩,he⟩) (VS.nil (fun w15 e15 h15=>?_))))))))))) rfl
    obtain ⟨tb,htb,hot⟩:=h15 5
    obtain ⟨zb,hzb,hoz⟩:=h15 8
    rw [htb,hzb]
    have hX15:=hX4.ext e15
    refine VL.op (R.build Tryz.zeroValue74 Tryz.runUnderlying74 pl74 rfl) (VL.box (v:=.agg _) rfl fun p w16 hp e16 hP16=>VL.op (R.asP rfl) (VL.nil (V.seq (?_))))
    have hX16:=hX15.ext e16
    have E16:Ext w w16:=(E4.trans e15).trans e16
    refine V.region (VL.op (R.asS rfl) (VL.nil (V.seq (V.seq (V.region (VL.op (R.ldA Tryz.isAgg25 Tryz.sizeOf25 rfl rfl ((show RowAt _ _ _ (encGr g) from hX16.rowAt 0 3)) rfl) (VL.callX Tryz.call22 rfl (comps_specG g B _ (hG.ext E16) hl (Nat.le_trans hB E16.size) (hT.ext hB E16)) fun z w17 h17 e17=>VL.op (R.lenS Tryz.runUnderlying23 rfl) (VL.op (R.mvI rfl) (VL.nil (V.block (?_)))))))))))
    obtain ⟨hzc,hzG⟩:=h17
    obtain ⟨z,za,zc⟩:=z
    dsimp only at hzc hzG ⊢
    have hzl:z.length=(compsG (grV g)).length:=by rw [←hzc];exact (List.length_map _).symm
    have hzN:z.length≤N:=by rw [hzl];have:=ncomps_len hv;rw [show (grV g).n=g.n from rfl,hN] at this;exact this
    have hat:∀ i,i<z.length→(compsG (grV g)).getD i default=(z.getD i default).l:=fun i hi=>by rw [←hzc];exact gmap SlI.l z default hi
    have hcr:∀ i,i<z.length→(z.getD i default).l∈compsG (grV g):=fun i hi=>by rw [←hat i hi];exact gmem (by omega)
    have hcs:∀ c∈compsG (grV g),Inc c∧(∀ v∈c,0≤v∧v<(N:Int))∧c.length≤4000:=fun c hc=>by
     have h1:=setB_iff.1 (comps_set hv hc)
     rw [show (grV g).n=g.n from rfl,hN] at h1
     have:=set_len h1.1 h1.2 (by omega)
     exact ⟨h1.1,h1.2,by omega⟩
    have hlt3:=hB3_3.lt
    have hs4:=e4.size
    have s15:=e15.size
    have s16:=e16.size
    have s17:=e17.size
    have ltb:=hot.lt tb ⟨_,rfl,rfl⟩
    have lzb:=hoz.lt zb ⟨_,rfl,rfl⟩
    have gtb:=hot.ge tb ⟨_,rfl,rfl⟩
    have gzb:=hoz.ge zb ⟨_,rfl,rfl⟩
    have ntz:tb≠zb:=fun h=>by
     obtain ⟨cA,zA,bA⟩:=OwnT.tyA hoz _ rfl
     exact (OwnT.tyA hot).apart bA (by decide) ⟨_,rfl,h⟩
    have hpl:=hP16.lt
    have lbb:=hbb.lt
    have lb3:=hbo.lt b3 ⟨_,rfl,rfl⟩
    have lX:=hX4.lt
    have hp4:w4.heap.size≤p:=by omega
    obtain ⟨enc,henc⟩:∃ enc:Option Addr→Nat→Nat→List Value,enc=fun oa ol oc=>encB9 g wa W.length wc h oa ol oc zb tb N (.slice none 0 0):=⟨_,rfl⟩
    have hBg0:Bg9 w17 p enc none 0 [] none 0 [] w17:=⟨by rw [henc];exact hP16.ext e17,OwnT.nil _ _ _ _ _,OwnT.nil _ _ _ _ _,Sep.nil _,Vc.Mod.refl _ _⟩
    obtain ⟨W',hWe⟩:∃ W',W'=W.map wyV:=⟨_,rfl⟩
    rw [←hWe] at hbs
    refine V.loop [3,8,13,14,80,81,82] (fun x:Nat×(Option Addr×Nat)×(Option Addr×Nat)=>[.pointer (some ⟨b0_0,0,none⟩),.pointer (some ⟨b3_3,0,none⟩),.pointer (some ⟨p,0,none⟩),.slice x.2.2.1 (ptL W' ((compsG (grV g)).take x.1)).length x.2.2.2,.slice za z.length zc,.int .i64 (z.length:Nat),.int .i64 (x.1:Nat)])
     (fun x w'=>x.1≤z.length∧Bg9 w17 p enc x.2.1.1 x.2.1.2 (sgL W' ((compsG (grV g)).take x.1)) x.2.2.1 x.2.2.2 (ptL W' ((compsG (grV g)).take x.1)) w') (fun x=>z.length-x.1) (0,(none,0),(none,0)) rfl ⟨Nat.zero_le _,hBg0⟩ ?_
    rintro ρ ⟨k,⟨oa,oc⟩,⟨pa,pc⟩⟩ w18 ⟨hk2,hb9⟩
    dsimp only at hk2 hb9 ⊢
    have hk18:∀ {w':World},Vc.Mod (fun q=>q=p∨w17.heap.size≤q) w17 w'→Blk w' b0_0 (.cells (Value.agg (encGr g).toArray).cells 25 (0,0))∧BoV b3_3 b3 bs w'∧GLs w16.heap.size w' za zc z∧OwnT Vc.encI 1 3 w4.heap.size w' (some ⟨tb,0,none⟩) N (List.replicate N (0:Int))∧OwnT encSl 1 22 w4.heap.size w' (some ⟨zb,0,none⟩) N (List.replicate N (default:SlI))∧Ext w w':=fun m=>by
     refine ⟨(hX16.ext e17).mod m fun hq=>by omega,⟨?_,?_⟩,⟨(hzG.own).mod m fun q h1 h2=>?_,fun i=>(hzG.each i).mod m fun q h1 h2=>?_,hzG.out,hzG.sep⟩,?_,?_,(show Ext w w17 from E16.trans e17).ownA m fun q hq=>by have:=E16.size;omega⟩
     ·rw [hbl];exact (hbb.ext ((e15.trans e16).trans e17)).mod m fun hq=>by omega
     ·rw [hbl];exact ((hbo.weaken (Nat.zero_le _)).ext ((e15.trans e16).trans e17)).mod m fun q hq hs=>by have:=aBlk_some hq;omega
     ·have:=hzG.own.ge q h1;have:=hzG.own.lt q h1;omega
     ·have:=(hzG.each i).ge q h1;have:=(hzG.each i).lt q h1;omega
     ·exact (hot.ext (e16.trans e17)).mod m fun q hq hs=>by have:=aBlk_some hq;omega
     ·exact (hoz.ext (e16.trans e17)).mod m fun q hq hs=>by have:=aBlk_some hq;omega
    have hlen:∀ c∈compsG (grV g),c.length≤4000:=fun c hc=>(hcs c hc).2.2
    have hPl:=ptL_len W' _ hlen k (by omega)
    have hOl:=sgL_len W' ((compsG (grV g)).take k)
    rw [List.length_take] at hOl
    obtain ⟨hX18,hBo,hz18,-,-,E18⟩:=hk18 hb9.m
    refine V.seq (V.region (VL.op (R.lss rfl rfl) (VL.nil (V.seq (V.condP rfl (fun c83=>V.skip (V.seq (V.block (V.seq (?_))))) (fun c83=>V.exit (V.seq (V.seq (?_)))))))))
    ·have hkl:k<z.length:=by omega
     have hcm:=hcr k hkl
     obtain ⟨hci,hcv,hcl⟩:=hcs _ hcm
     have htk:=take_snoc (l:=compsG (grV g)) (k:=k) (by omega)
     rw [hat k hkl] at htk
     obtain ⟨c,hc⟩:∃ c,c=z.getD k default:=⟨_,rfl⟩
     have hcS:=hz18.each k
     have hclt:=(hzG.each k).lt
     have hcge:=(hzG.each k).ge
     rw [←hc] at hcm hci hcv hcl htk hcS hclt hcge
     refine V.region (VL.op (R.ixS Tryz.runUnderlying23 Tryz.sizeOf22 rfl rfl (by omega) (by omega) (hz18.own.sl.some (i:=k) hkl)) (VL.op (R.ld1 Tryz.isAgg22 rfl (((hz18.own.sl.row (i:=k) hkl).cell (i:=0) rfl))) (VL.op (R.asS rfl) (VL.nil (V.block (V.seq (?_)))))))
     rw [←hc]
     have hcon:∀ {w':World},Ext w18 w'→RetsP Tryz.prog 34 #[.slice c.a c.l.length c.c,.func (.func 51) #[] #[.pointer (some ⟨b3_3,0,none⟩)]] w' (.bool (c.l.any (nmW W'))):=fun e =>
      containsM29 51 [] [.pointer (some ⟨b3_3,0,none⟩)] (nmW W') (BoV b3_3 b3 bs) c.a c.c c.l _ Tryz.call51 (fun w v h hv=>by
       have h1:=hcv v hv
       have:=begin1_spec b3_3 b3 bs v w h h1.1 (by omega)
       rwa [hbs v.toNat (by omega),show ((v.toNat:Nat):Int)=v by omega] at this) (fun w w' h e=>h.ext e) (hBo.ext e) (hcS.sl.ext e) (by omega)
     cases hcn:c.l.any (nmW W') with
     | false =>
      rw [hcn] at hcon
      refine V.region (VL.op (R.mvS rfl) (VL.op (R.mkFn rfl rfl) (VL.callP Tryz.call34 rfl (hcon (Mod.refl _ _)) fun w21_2 e21_2=>VL.op (R.not rfl) (VL.op (R.asB rfl) (VL.nil (V.condT rfl (V.skip (V.region (VL.op (R.add rfl rfl (by omega) (by omega)) (VL.op (R.mvI rfl) (VL.nil (?_))))))))))))
      have hP':ptL W' ((compsG (grV g)).take (k+1))=ptL W' ((compsG (grV g)).take k):=by rw [htk,ptL_snoc,if_neg (fun h=>by rw [hcn] at h;cases h.1),List.append_nil]
      have hO':sgL W' ((compsG (grV g)).take (k+1))=sgL W' ((compsG (grV g)).take k):=by rw [htk,sgL_snoc,if_neg (fun h=>by rw [hcn] at h;cases h.1),List.append_nil]
      refine ⟨(k+1,(oa,oc),(pa,pc)),?_,⟨by dsimp only;omega,?_⟩,by dsimp only;omega⟩
      ·dsimp only;rw [hP'];rfl
      ·dsimp only;rw [hP',hO'];exact ⟨hb9.blk.ext e21_2,hb9.o.ext e21_2,hb9.pt.ext e21_2,hb9.s,hb9.m.then e21_2.mod fun _ _ h=>False.elim h⟩
     | true =>
      rw [hcn] at hcon
      by_cases h1:c.l.length=1
      ·refine V.region (VL.op (R.mvS rfl) (VL.op (R.mkFn rfl rfl) (VL.callP Tryz.call34 rfl (hcon (Mod.refl _ _)) fun w21_2 e21_2=>VL.op (R.not rfl) (VL.op (R.asB rfl) (VL.nil (V.condF rfl (V.seq (V.region (VL.op (R.mvS rfl) (VL.op (R.lenS Tryz.runUnderlying22 rfl) (VL.op (R.lit (R.eql rfl rfl) ((decide_eq_true (by omega)))) (VL.op (R.asB rfl) (VL.nil (V.condT rfl (?_)))))))))))))))
       have hP':ptL W' ((compsG (grV g)).take (k+1))=ptL W' ((compsG (grV g)).take k):=by rw [htk,ptL_snoc,if_neg fun h=>h.2 h1,List.append_nil]
       have hO':sgL W' ((compsG (grV g)).take (k+1))=sgL W' ((compsG (grV g)).take k)++[c.l.getD 0 default]:=by rw [htk,sgL_snoc,if_pos ⟨hcn,h1⟩]
       obtain ⟨O,hOe⟩:∃ O,O=sgL W' ((compsG (grV g)).take k):=⟨_,rfl⟩
       rw [←hOe] at hO' hOl hb9
       rw [henc] at hb9
       have ho9:=hb9.o.ext e21_2
       have s21:=e21_2.size
       have s18:=hb9.m.size
       have hbk:=hb9.blk.ext e21_2
       have hcw:=hcS.ext e21_2
       have hbq:∀ {wq:World},TA Vc.encI 1 3 w17.heap.size oa oc O (c.l.getD 0 default) w21_2 wq→Blk wq p (.cells (Value.agg (encB9 g wa W.length wc h oa O.length oc zb tb N (.slice none 0 0)).toArray).cells 74 (0,0))∧IntSl wq c.a c.l:=fun tt=>⟨hbk.mod tt.m fun hq=>by have:=ho9.ge _ hq;omega,(hcw.mod tt.m fun q h1 h2=>by have:=ho9.ge q h2;have:=hclt q h1;omega).sl⟩
       refine V.regionT (T:=(TA Vc.encI 1 3 w17.heap.size oa oc O (c.l.getD 0 default))) mixed 10 (by kernel_rfl) rfl (fun us=>VT.op (fun wq eq=>R.mvP rfl) (VT.op (fun wq eq=>R.mvP rfl) (VT.op (fun wq eq=>R.nilCheck rfl) (VT.op (fun wq eq=>R.fld' (o:=5) Tryz.runUnderlying74 rfl rfl Tryz.sizeOf22 rfl rfl) (VT.op (fun wq eq=>R.ld1 Tryz.isAgg22 rfl ((show wq.cell? ⟨p,5,none⟩=some (Value.slice oa O.length oc) from (hbq eq).1.cell 5))) (VT.op (fun wq eq=>R.mvS rfl) (VT.op (fun wq eq=>R.ixS Tryz.runUnderlying22 Tryz.sizeOf3 rfl rfl (by omega) (by omega) ((hcw.sl.some (i:=0) (by omega)))) (VT.op (fun wq eq=>R.ld1 Tryz.isAgg3 rfl (((((hbq eq).2.row (i:=0) (by omega))).cell (i:=0) rfl))) (VT.spec (SB1 Vc.encI 1 3 w21_2.heap.size (c.l.getD 0 default)) (fun u x y _ ⟨bb,q1,q2⟩ eb=>⟨bb,q1,q2.mod eb.m fun k hk hs=>by have:=OwnT.ge q2 k hk;have:=ho9.lt k hs;omega⟩) rfl (fun wq eq hq=>yieldsR_build1 Tryz.runUnderlying22 Tryz.sizeOf3 Tryz.zeroValue3 rfl rfl rfl (c.l.getD 0 default) rfl rfl rfl eq.m.size fun b w2 ho he=>⟨⟨b,rfl,ho⟩,Turn.ext he⟩) (VT.spec (SA Vc.encI 1 3 w17.heap.size w21_2.heap.size oa oc O (c.l.getD 0 default)) (SA.mono ho9) rfl (fun wq eq hq=>by
         obtain ⟨bb,hb,hB⟩:=hq 8 (by kernel_rfl)
         refine yieldsR_app1 (a:=oa) (cap:=oc) (b:=bb) (l:=O) (u:=c.l.getD 0 default) el22 (fun _=>rfl) ho9 eq ?_ ?_ hB.sl (by omega) (by unfold maxLen;omega) (Nat.le_trans s18 s21)
         ·rfl
         ·exact hb) (VT.nil (fun w8 e8 h8=>?_)))))))))))) rfl
       obtain ⟨a',c',hu,hO2,hd⟩:=h8 9
       have hm8:=e8.m
       rw [hu]
       refine VL.op (R.nilCheck rfl) (VL.op (R.fld' (o:=5) Tryz.runUnderlying74 rfl rfl Tryz.sizeOf22 rfl rfl) (VL.store (v:=.slice _ _ _) Tryz.sizeOf22 rfl rfl rfl rfl ((hbq e8).1) rfl rfl fun w10 m10 hs10 hB10=>VL.nil (V.region (VL.op (R.add rfl rfl (by omega) (by omega)) (VL.op (R.mvI rfl) (VL.nil (?_)))))))
       refine ⟨(k+1,(a',c'),(pa,pc)),?_,⟨by dsimp only;omega,?_⟩,by dsimp only;omega⟩
       ·dsimp only;rw [hP'];rfl
       ·dsimp only;rw [hP',hO',henc]
        have hpt:=hb9.pt.ext e21_2
        have hf8:∀ q,aBlk a' q→aBlk oa q∨w21_2.heap.size≤q:=fun q hq=>by
         rcases hd with ⟨e1,_⟩ | h
         ·exact .inl (e1▸hq)
         ·exact .inr (h q hq)
        refine ⟨by rw [List.length_append];exact hB10,hO2.mod m10 fun q h1 (h2:q=p)=>by have:=hO2.ge q h1;omega,(hpt.mod hm8 fun q h1 h2=>hb9.s q h2 h1).mod m10 fun q h1 (h2:q=p)=>by have:=hpt.ge q h1;omega,hb9.s.grown hf8 hpt.lt,((hb9.m.then e21_2.mod fun _ _ h=>False.elim h).then hm8 fun q _ hq=>.inr (ho9.ge q hq)).then m10 fun q _ (hq:q=p)=>.inl hq⟩
      ·refine V.region (VL.op (R.mvS rfl) (VL.op (R.mkFn rfl rfl) (VL.callP Tryz.call34 rfl (hcon (Mod.refl _ _)) fun w21_2 e21_2=>VL.op (R.not rfl) (VL.op (R.asB rfl) (VL.nil (V.condF rfl (V.seq (V.region (VL.op (R.mvS rfl) (VL.op (R.lenS Tryz.runUnderlying22 rfl) (VL.op (R.lit (R.eql rfl rfl) ((decide_eq_false (by omega)))) (VL.op (R.asB rfl) (VL.nil (V.condF rfl (?_)))))))))))))))
       have hP':ptL W' ((compsG (grV g)).take (k+1))=ptL W' ((compsG (grV g)).take k)++c.l:=by rw [htk,ptL_snoc,if_pos ⟨hcn,h1⟩]
       have hO':sgL W' ((compsG (grV g)).take (k+1))=sgL W' ((compsG (grV g)).take k):=by rw [htk,sgL_snoc,if_neg fun h=>h1 h.2,List.append_nil]
       obtain ⟨P,hPe⟩:∃ P,P=ptL W' ((compsG (grV g)).take k):=⟨_,rfl⟩
       rw [←hPe] at hP' hPl hb9 ⊢
       have hkk:k*4000≤16000000:=by omega
       have hpo:=hb9.pt.ext e21_2
       have s21:=e21_2.size
       have s18:=hb9.m.size
       refine V.region (VL.op (R.mvS rfl) (VL.op (R.mvS rfl) (VL.appendT el22 (fun _=>rfl) rfl (rfl) (hpo) rfl (rfl) ((hcS.sl.ext e21_2)) ((fun h=>hcS.hax h)) (by omega) (by unfold maxLen;omega) (Nat.le_trans s18 s21) rfl fun a20 c20 w20 ho20 m20 hf20=>VL.op (R.asS rfl) (VL.nil (V.region (VL.op (R.add rfl rfl (by omega) (by omega)) (VL.op (R.mvI rfl) (VL.nil (?_)))))))))
       have hbk:=(hb9.blk.ext e21_2).mod m20 fun hq=>by have:=hpo.ge _ hq;omega
       have hoo:=(hb9.o.ext e21_2).mod m20 fun q h1 h2=>hb9.s q h1 h2
       refine ⟨(k+1,(oa,oc),(a20,c20)),?_,⟨by dsimp only;omega,?_⟩,by dsimp only;omega⟩
       ·dsimp only;rw [hP',List.length_append];rfl
       ·dsimp only;rw [hP',hO']
        exact ⟨hbk,hoo,ho20,(hb9.s.symm.grown hf20 (hb9.o.ext e21_2).lt).symm,(hb9.m.then e21_2.mod fun _ _ h=>False.elim h).then m20 fun q _ hq=>.inr (hpo.ge q hq)⟩
    ·have hkz:k=z.length:=by omega
     rw [hkz,List.take_of_length_le (by omega)] at hb9
     obtain ⟨P,hPe⟩:∃ P,P=ptL W' (compsG (grV g)):=⟨_,rfl⟩
     obtain ⟨O,hOe⟩:∃ O,O=sgL W' (compsG (grV g)):=⟨_,rfl⟩
     rw [hkz,List.take_of_length_le (by omega),←hOe] at hOl
     rw [hkz,List.take_of_length_le (by omega)]
     have hPI:(ptI (grV g) W').length=P.length:=by unfold ptI;rw [srtF_len,hPe]
     rw [←hPe] at hb9 ⊢
     rw [←hOe] at hb9
     have hErG:errG (grV g) W'=if 40<P.length then 17 else 0:=by unfold errG;rw [hWe,if_pos hrd,←hWe,hPI]
     by_cases h40:40<P.length
     ·refine V.region (VL.op (R.mvS rfl) (VL.op (R.lenS Tryz.runUnderlying22 rfl) (VL.op (R.lit (R.gtr rfl rfl) ((decide_eq_true (by omega)))) (VL.nil (V.condT rfl (V.seq (V.region (VL.op (R.asP rfl) (VL.op (R.asI rfl) (VL.nil (V.ret (fret2 (v:=.pointer _) (x:=.int _ _) rfl rfl rfl rfl rfl (?_)))))))))))))
      exact ⟨(none,17),rfl,⟨by rw [←hWe,hErG,if_pos h40],fun _=>rfl,fun h0=>by cases h0⟩,E18⟩
     ·have s18:=hb9.m.size
      refine V.region (VL.op (R.mvS rfl) (VL.op (R.lenS Tryz.runUnderlying22 rfl) (VL.op (R.lit (R.gtr rfl rfl) ((decide_eq_false (by omega)))) (VL.nil (V.condF rfl (V.skip (V.seq (V.region (VL.op (R.mvS rfl) (VL.callK Tryz.call52 rfl (sortI_spec pa pc w17.heap.size P _ hb9.pt (by omega)) fun w27 ⟨m27,ho27⟩=>VL.nil (V.seq (?_))))))))))))
      rw [henc] at hb9
      have hbk27:=hb9.blk.mod m27 fun hq=>by have:=hb9.pt.ge _ hq;omega
      have hoo27:=hb9.o.mod m27 fun q h1 h2=>hb9.s q h1 h2
      have s27:=m27.size
      have hsl:P.length=(srtF P).length:=(srtF_len P).symm
      rw [hsl]
      refine V.region (VL.op (R.mvP rfl) (VL.op (R.mvP rfl) (VL.op (R.nilCheck rfl) (VL.op (R.fld' (o:=5) Tryz.runUnderlying74 rfl rfl Tryz.sizeOf22 rfl rfl) (VL.op (R.ld1 Tryz.isAgg22 rfl ((show _=some (Value.slice oa O.length oc) from hbk27.cell 5))) (VL.op (R.mvS rfl) (VL.appendT el22 (fun _=>rfl) rfl (rfl) (hoo27) rfl (rfl) (ho27.sl) ((fun h=>ho27.hax h)) (by omega) (by unfold maxLen;omega) (Nat.le_trans s18 s27) rfl fun a28 c28 w28 ho28 m28 hf28=>VL.op (R.nilCheck rfl) (VL.op (R.fld' (o:=5) Tryz.runUnderlying74 rfl rfl Tryz.sizeOf22 rfl rfl) (VL.store (v:=.slice _ _ _) Tryz.sizeOf22 rfl rfl rfl rfl (hbk27.mod m28 fun hq=>by have:=hoo27.ge _ hq;omega) rfl rfl fun w29 m29 hs29 hB29=>VL.nil (V.seq (V.seq (?_))))))))))))
      have M29:Vc.Mod (fun q=>q=p∨w17.heap.size≤q) w17 w29:=((hb9.m.then m27 fun q _ hq=>.inr (hb9.pt.ge q hq)).then m28 fun q _ hq=>.inr (hoo27.ge q hq)).then m29 fun q _ (hq:q=p)=>.inl hq
      obtain ⟨hX29,-,-,ht29,hz29,E29⟩:=hk18 M29
      have ho29:=ho28.mod m29 fun q h1 (h2:q=p)=>by have:=ho28.ge q h1;omega
      have s29:=M29.size
      obtain ⟨O',hO'⟩:∃ O',O'=O++srtF P:=⟨_,rfl⟩
      have hOl':O.length+(srtF P).length=O'.length:=by rw [hO',List.length_append]
      rw [←hO'] at ho29
      have hB29:Blk w29 p (.cells (Value.agg (encB9 g wa W.length wc h a28 O'.length c28 zb tb N (.slice none 0 0)).toArray).cells 74 (0,0)):=by rw [←hOl'];exact hB29
      have hgl0:GLs w4.heap.size w29 (some ⟨zb,0,none⟩) N (List.replicate N (default:SlI)):=by
       refine ⟨hz29,fun j=>?_,fun j=>?_,fun i j _=>?_⟩
       ·rw [rep_def];exact OwnT.nil _ _ _ _ _
       ·rw [rep_def];exact Sep.nil' _
       ·rw [rep_def,rep_def];exact Sep.nil _
      clear hb9 hbk27 hoo27 ho27 hk18 hs29
      refine V.region (VL.op (R.fld' (o:=2) Tryz.runUnderlying25 rfl rfl Tryz.sizeOf23 rfl rfl) (VL.op (R.ld1 Tryz.isAgg23 rfl ((show w29.cell? ⟨b0_0,2,none⟩=some (Value.slice g.ea g.edges.length g.ec) from hX29.cell 2))) (VL.op (R.lenS Tryz.runUnderlying23 rfl) (VL.op (R.mvI rfl) (VL.nil (V.block (?_)))))))
      refine V.loop [13,126,127,128] (fun x:Nat×List SlI=>[.pointer (some ⟨p,0,none⟩),.slice g.ea g.edges.length g.ec,.int .i64 (g.edges.length:Nat),.int .i64 (x.1:Nat)])
       (fun x w'=>x.1≤g.edges.length∧x.2.length=N∧GLs w4.heap.size w' (some ⟨zb,0,none⟩) N x.2∧(∀ j q,aBlk (x.2.getD j default).a q→w29.heap.size≤q)∧(∀ v:Nat,v<N→(x.2.getD v default).l=adjK (vals g.edges) x.1 ((v:Nat):Int))∧Vc.Mod (fun q=>q=zb∨w29.heap.size≤q) w29 w') (fun x=>g.edges.length-x.1) (0,List.replicate N default) rfl ⟨Nat.zero_le _,by simp,hgl0,fun j q hq=>by rw [rep_def] at hq;exact absurd hq (Sep.nil none q hq),fun v hv=>by rw [rep_at hv];rfl,Vc.Mod.refl _ _⟩ ?_
      rintro ρ ⟨k,zz⟩ w30 ⟨hk,hz,hS,hup,hI,m30⟩
      dsimp only at hk hz hS hup hI m30 ⊢
      have hkeep:∀ {w':World},Vc.Mod (fun q=>q=zb∨w29.heap.size≤q) w29 w'→Ext w w'∧Blk w' p (.cells (Value.agg (encB9 g wa W.length wc h a28 O'.length c28 zb tb N (.slice none 0 0)).toArray).cells 74 (0,0)):=fun m=>⟨E29.ownA m fun q hq=>by have:=E16.size;omega,hB29.mod m fun hq=>by omega⟩
      obtain ⟨E30,hB30⟩:=hkeep m30
      have hG30:=(hG.ext E30).e
      refine V.seq (V.region (VL.op (R.lss rfl rfl) (VL.nil (V.seq (V.condP rfl (fun c129=>V.skip (V.seq (V.block (V.seq (?_))))) (fun c129=>V.exit (V.seq (?_))))))))
      ·have hkl:k<g.edges.length:=by omega
       have hxs:=(validG_iff.1 hv).2.2.1 _ (List.mem_map_of_mem (gmem hkl))
       have hxv:∀ y∈(g.edges.getD k default).l,0≤y∧y<(N:Int):=fun y hy=>by have:=hxs.2.2 y hy;rw [show (grV g).n=g.n from rfl,hN] at this;exact this
       have hxl:=(hl.each _ (gmem hkl)).1
       refine V.region (VL.op (R.mvI rfl) (VL.op (R.ixS Tryz.runUnderlying23 Tryz.sizeOf22 rfl rfl (by omega) (by omega) ((hG30.sl).some (i:=k) (by omega))) (VL.op (R.ld1 Tryz.isAgg22 rfl (((((hG30.sl).ext (Mod.refl _ _)).row (i:=k) (by omega)).cell (i:=0) rfl))) (VL.op (R.asI rfl) (VL.op (R.asS rfl) (VL.nil (V.seq (V.region (VL.op (R.mvS rfl) (VL.op (R.lenS Tryz.runUnderlying22 rfl) (VL.op (R.mvI rfl) (VL.nil (V.block (?_))))))))))))))
       refine V.loop [13,17,126,127,128,133,134,135] (fun x:Nat×List SlI=>[.pointer (some ⟨p,0,none⟩),.int .i64 (k:Nat),.slice g.ea g.edges.length g.ec,.int .i64 (g.edges.length:Nat),.int .i64 (k:Nat),.slice (g.edges.getD k default).a (g.edges.getD k default).l.length (g.edges.getD k default).c,.int .i64 ((g.edges.getD k default).l.length:Nat),.int .i64 (x.1:Nat)])
        (fun x w'=>x.1≤(g.edges.getD k default).l.length∧x.2.length=N∧GLs w4.heap.size w' (some ⟨zb,0,none⟩) N x.2∧(∀ j q,aBlk (x.2.getD j default).a q→w29.heap.size≤q)∧(∀ v:Nat,v<N→(x.2.getD v default).l=adjK (vals g.edges) k ((v:Nat):Int)++if ((v:Nat):Int)∈(g.edges.getD k default).l.take x.1 then [(k:Int)] else [])∧Vc.Mod (fun q=>q=zb∨w29.heap.size≤q) w29 w') (fun x=>(g.edges.getD k default).l.length-x.1) (0,zz) rfl ⟨Nat.zero_le _,hz,hS,hup,fun v hv=>by rw [hI v hv];simp,m30⟩ ?_
       rintro ρ ⟨i,z2⟩ w5 ⟨hi,hz2,hA2,hup2,hI2,m5⟩
       dsimp only at hi hz2 hA2 hup2 hI2 m5 ⊢
       obtain ⟨E5,hX5⟩:=hkeep m5
       have hx5:IntSl w5 (g.edges.getD k default).a (g.edges.getD k default).l:=((hG.ext E5).e).at hkl
       refine V.seq (V.region (VL.op (R.lss rfl rfl) (VL.nil (V.seq (V.condP rfl (fun c136=>V.skip (V.seq (V.block (V.seq (?_))))) (fun c136=>V.exit (V.region (VL.op (R.add rfl rfl (by omega) (by omega)) (VL.op (R.mvI rfl) (VL.nil (?_)))))))))))
       ·have hil:i<(g.edges.getD k default).l.length:=by omega
        refine V.region (VL.op (R.ixS Tryz.runUnderlying22 Tryz.sizeOf3 rfl rfl (by omega) (by omega) ((hx5).some (i:=i) (by omega))) (VL.op (R.ld1 Tryz.isAgg3 rfl (((((hx5).ext (Mod.refl _ _)).row (i:=i) (by omega)).cell (i:=0) rfl))) (VL.op (R.asI rfl) (VL.nil (?_)))))
        obtain ⟨v,hvd⟩:∃ v:Nat,(v:Int)=(g.edges.getD k default).l.getD i default:=⟨((g.edges.getD k default).l.getD i default).toNat,by have:=(hxv _ (gmem hil)).1;omega⟩
        have hvN:v<N:=by have:=(hxv _ (gmem hil)).2;omega
        rw [←hvd]
        have hx:=hA2.each v
        have hxl2:=hx.lt
        have hxg:=hx.ge
        have hxp:=hup2 v
        have hll:(z2.getD v default).l.length≤20001:=by
         rw [hI2 v hvN,List.length_append]
         have h1:=adjK_len (vals g.edges) k ((v:Nat):Int)
         have h2:(if ((v:Nat):Int)∈(g.edges.getD k default).l.take i then [(k:Int)] else []).length≤1:=by split <;> simp
         omega
        have hnew:((v:Nat):Int)∉(g.edges.getD k default).l.take i:=fun h=>by
         obtain ⟨j,hj,hjv⟩:=List.getElem_of_mem h
         rw [List.length_take] at hj
         rw [List.getElem_take] at hjv
         have:=inc_at hxs.2.1 (i:=j) (j:=i) (by omega) hil
         rw [←hvd,gget (show j<(g.edges.getD k default).l.length by omega),hjv] at this
         omega
        have hs5:=m5.size
        have hclq:∀ {wq:World},TA Vc.encI 1 3 w4.heap.size (z2.getD v default).a (z2.getD v default).c (z2.getD v default).l ((k:Nat):Int) w5 wq→Blk wq p (.cells (Value.agg (encB9 g wa W.length wc h a28 O'.length c28 zb tb N (.slice none 0 0)).toArray).cells 74 (0,0))∧TSl encSl 1 wq (some ⟨zb,0,none⟩) z2:=fun tt=>⟨hX5.mod tt.m fun h=>by have:=hxp _ h;omega,(hA2.own.mod tt.m (hA2.out _)).sl⟩
        refine V.regionT (T:=(TA Vc.encI 1 3 w4.heap.size (z2.getD v default).a (z2.getD v default).c (z2.getD v default).l ((k:Nat):Int))) mixed 15 (by kernel_rfl) rfl (fun us=>VT.op (fun wq eq=>R.mvP rfl) (VT.op (fun wq eq=>R.nilCheck rfl) (VT.op (fun wq eq=>R.fld' (o:=6) Tryz.runUnderlying74 rfl rfl Tryz.sizeOf23 rfl rfl) (VT.op (fun wq eq=>R.ld1 Tryz.isAgg23 rfl ((show wq.cell? ⟨p,6,none⟩=some (Value.slice (some ⟨zb,0,none⟩) N N) from (hclq eq).1.cell 6))) (VT.op (fun wq eq=>R.mvI rfl) (VT.op (fun wq eq=>R.mvP rfl) (VT.op (fun wq eq=>R.nilCheck rfl) (VT.op (fun wq eq=>R.fld' (o:=6) Tryz.runUnderlying74 rfl rfl Tryz.sizeOf23 rfl rfl) (VT.op (fun wq eq=>R.ld1 Tryz.isAgg23 rfl ((show wq.cell? ⟨p,6,none⟩=some (Value.slice (some ⟨zb,0,none⟩) N N) from (hclq eq).1.cell 6))) (VT.op (fun wq eq=>R.mvI rfl) (VT.op (fun wq eq=>R.ixS Tryz.runUnderlying23 Tryz.sizeOf22 rfl rfl (by omega) (by omega) (hA2.own.sl.some (i:=v) (by omega))) (VT.op (fun wq eq=>R.ld1 Tryz.isAgg22 rfl ((((hclq eq).2.row (i:=v) (by omega)).cell (i:=0) rfl))) (VT.op (fun wq eq=>R.mvI rfl) (VT.spec (SB1 Vc.encI 1 3 w5.heap.size ((k:Nat):Int)) (fun u x y _ ⟨bb,h1,h2⟩ eb=>⟨bb,h1,h2.mod eb.m fun k hk hs=>by have:=OwnT.ge h2 k hk;have:=hxl2 k hs;omega⟩) rfl (fun wq eq hq=>yieldsR_build1 Tryz.runUnderlying22 Tryz.sizeOf3 Tryz.zeroValue3 rfl rfl rfl ((k:Nat):Int) rfl rfl rfl eq.m.size fun b w2 ho he=>⟨⟨b,rfl,ho⟩,Turn.ext he⟩) (VT.spec (SA Vc.encI 1 3 w4.heap.size w5.heap.size (z2.getD v default).a (z2.getD v default).c (z2.getD v default).l ((k:Nat):Int)) (SA.mono hx) rfl (fun wq eq hq=>by
           obtain ⟨bb,hb,hB⟩:=hq 13 (by kernel_rfl)
           refine yieldsR_app1 (a:=(z2.getD v default).a) (cap:=(z2.getD v default).c) (b:=bb) (l:=(z2.getD v default).l) (u:=((k:Nat):Int)) el22 (fun _=>rfl) hx eq ?_ ?_ hB.sl (by omega) (by unfold maxLen;omega) (by omega)
           ·rfl
           ·exact hb) (VT.nil (fun w10 e10 h10=>?_))))))))))))))))) rfl
        obtain ⟨a',c',hu,hO,hd⟩:=h10 14
        have hm10:=e10.m
        rw [hu]
        refine VL.op (R.ixS Tryz.runUnderlying23 Tryz.sizeOf22 rfl rfl (by omega) (by omega) (hA2.own.sl.some (i:=v) (by omega))) (VL.ownSt eltSl (v:=.slice _ _ _) Tryz.sizeOf22 ((hA2.own.mod hm10 (hA2.out _))) v 0 (SlI.mk a' c' ((z2.getD v default).l++[((k:Nat):Int)])) rfl rfl (by omega) rfl rfl rfl rfl (by show [Value.slice a' ((z2.getD v default).l++[((k:Nat):Int)]).length c']=_;rw [List.length_append];rfl) fun w22 ho22 m22 hs22=>VL.nil (V.region (VL.op (R.add rfl rfl (by omega) (by omega)) (VL.op (R.mvI rfl) (VL.nil (?_))))))
        refine ⟨(i+1,z2.set v ⟨a',c',(z2.getD v default).l++[((k:Nat):Int)]⟩),rfl,⟨by dsimp only;omega,by dsimp only;rw [List.length_set];exact hz2,?_,?_,?_,(m5.then hm10 fun q _ hq=>.inr (hxp q hq)).then m22 fun q _ hq=>.inl (aBlk_some hq)⟩,by dsimp only;omega⟩
        ·dsimp only
         refine hA2.app (by omega) hO hm10 (fun q hq=>?_) ho22 m22
         rcases hd with ⟨e1,_⟩ | h
         ·exact .inl (e1▸hq)
         ·exact .inr (h q hq)
        ·intro j q hq
         dsimp only at hq
         by_cases e:j=v
         ·subst e
          rw [setD_eq _ (by omega)] at hq
          rcases hd with ⟨e1,_⟩ | h
          ·exact hxp q (e1▸hq)
          ·exact Nat.le_trans hs5 (h q hq)
         ·rw [setD_ne _ e] at hq;exact hup2 j q hq
        ·intro u huN
         dsimp only
         have ht:(g.edges.getD k default).l.take (i+1)=(g.edges.getD k default).l.take i++[(v:Int)]:=by rw [List.take_succ_eq_append_getElem hil,hvd,gget hil]
         by_cases e:u=v
         ·subst e
          rw [setD_eq _ (by omega)]
          dsimp only
          rw [hI2 u huN,if_neg hnew,List.append_nil,ht,if_pos (by simp)]
         ·rw [setD_ne _ e,hI2 u huN,ht]
          congr 1
          have:((u:Nat):Int)∈(g.edges.getD k default).l.take i++[(v:Int)]↔((u:Nat):Int)∈(g.edges.getD k default).l.take i:=by
           rw [List.mem_append,List.mem_singleton]
           exact ⟨fun h=>h.resolve_right (by omega),.inl⟩
          by_cases hh:((u:Nat):Int)∈(g.edges.getD k default).l.take i
          ·rw [if_pos hh,if_pos (this.2 hh)]
          ·rw [if_neg hh,if_neg (fun h=>hh (this.1 h))]
       ·have hie:i=(g.edges.getD k default).l.length:=by omega
        subst hie
        refine ⟨(k+1,z2),rfl,⟨by dsimp only;omega,hz2,hA2,hup2,fun v hv=>?_,m5⟩,by dsimp only;omega⟩
        rw [hI2 v hv,List.take_length,adjK_succ,vals_at hkl]
      ·have hke:k=g.edges.length:=by omega
       subst hke
       refine V.region (VL.op (R.mvP rfl) (VL.op (R.mvP rfl) (VL.op (R.mkFn rfl rfl) (VL.op (R.mvP rfl) (VL.op (R.mkFn rfl rfl) (VL.op (R.mvP rfl) (VL.op (R.mkFn rfl rfl) (VL.op (R.mvP rfl) (VL.op (R.mkFn rfl rfl) (VL.buildSl Tryz.runUnderlying72 Tryz.sizeOf91 Tryz.zeroValue91 rfl rfl rfl fun cb w38 hcb e38 hBc=>VL.op (R.nilCheck rfl) (VL.op (R.fld' (o:=9) Tryz.runUnderlying74 rfl rfl Tryz.sizeOf72 rfl rfl) (VL.store (v:=.slice _ _ _) Tryz.sizeOf72 rfl rfl rfl rfl (hB30.ext e38) rfl rfl fun w39 m39 hs39 hB39=>VL.nil (V.seq (V.region (VL.op (R.mvP rfl) (VL.op (R.asP rfl) (VL.op (R.asI rfl) (VL.nil (V.ret (fret2 (v:=.pointer _) (x:=.int _ _) rfl rfl rfl rfl rfl (?_)))))))))))))))))))))
       have s30:=m30.size
       have s38:=e38.size
       have s39:=m39.size
       have lcb:=hBc.lt
       have E39:Ext w w39:=(E30.trans e38).ownA m39 fun q (hq:q=p)=>by have:=E4.size;omega
       have hp29:=hB29.lt
       have lo:=ho29.lt
       have go:=ho29.ge
       have lz2:=hS.own.lt
       have lze:∀ y∈zz,∀ q,aBlk y.a q→w29.heap.size≤q∧q<w30.heap.size:=fun y hy q hq=>by
        obtain ⟨i,hi,e⟩:=List.getElem_of_mem hy
        rw [←gget hi] at e
        rw [←e] at hq
        exact ⟨hup i q hq,(hS.each i).lt q hq⟩
       have hWy:∀ y∈W,(∀ v∈y.p.l,0≤v∧v<(N:Int))∧∀ v∈y.n.l,0≤v∧v<(N:Int):=fun y hy=>by
        obtain ⟨i,hi,e⟩:=List.getElem_of_mem hy
        have h1:=hok i hi
        rw [gmap wyV W default hi,gget hi,e] at h1
        unfold wyB wyV at h1
        rw [Bool.and_eq_true] at h1
        dsimp only at h1
        rw [hN] at h1
        exact ⟨(setB_iff.1 h1.1).2,(setB_iff.1 h1.2).2⟩
       obtain ⟨x,hx⟩:∃ x:SvX,x=⟨p,g,wa,wc,W,h,a28,c28,O',zb,zz,tb,cb,w39.heap.size,w39.heap.size⟩:=⟨_,rfl⟩
       have hR:SvR x N:=by
        rw [hx]
        refine ⟨hN,hN4,fun e he v hv'=>?_,hE20,fun e he=>?_,fun y hy=>(hl.each y hy).2,hWy,hW4,hWl,hz,hI⟩
        ·have:=((validG_iff.1 hv).2.2.1 e he).2.2 v hv'
         rw [show (grV g).n=g.n from rfl,hN] at this;exact this
        ·obtain ⟨y,hy,e2⟩:=List.mem_map.1 he
         rw [←e2];exact (hl.each y hy).1
       have hTw:∀ q,x.T q→w.heap.size≤q:=fun q hq=>by
        rw [hx] at hq
        unfold SvX.T at hq
        dsimp only at hq
        have:=E4.size;have:=E39.size
        omega
       have hOk:SvOk x w39 (List.replicate N 0) none 0 []:=by
        rw [hx] at hTw
        rw [hx]
        have hen:encSv ⟨p,g,wa,wc,W,h,a28,c28,O',zb,zz,tb,cb,w39.heap.size,w39.heap.size⟩ (List.replicate N (0:Int)).length none 0 0=encB9 g wa W.length wc h a28 O'.length c28 zb tb N (.slice (some ⟨cb,0,none⟩) 4 4):=by
         unfold encSv encB9;dsimp only;rw [List.length_replicate,hz]
        refine ⟨?_,⟨w,E39,hTw,hG,hW⟩,?_,?_,OwnT.nil _ _ _ _ _,?_,?_,?_,?_,?_,?_,?_,Nat.le_refl _,Nat.le_refl _⟩
        ·show Blk w39 p (.cells (Value.agg (encSv _ (List.replicate N (0:Int)).length none 0 0).toArray).cells 74 (0,0))
         rw [hen];exact hB39
        ·exact (hS.LL.ext e38).mod29 m39 (fun q h1 (h2:q=p)=>by have:=aBlk_some h1;omega) fun y hy q h1 (h2:q=p)=>by have:=lze y hy q h1;omega
        ·dsimp only
         rw [List.length_replicate]
         exact (((ht29.weaken (Nat.zero_le _)).mod m30 fun q h1 h2=>by have:=aBlk_some h1;omega).ext e38).mod m39 fun q h1 (h2:q=p)=>by have:=aBlk_some h1;omega
        ·exact (OwnT.sl (B:=0) (OwnT.of_blk (enc:=encFn) (s:=1) (l:=closL p) hBc (Nat.zero_le _) rfl (fun r hr=>by obtain ⟨x,_,rfl⟩:=List.mem_map.1 hr;rfl) (Nat.le_of_ble_eq_true rfl))).mod m39 fun ad e (h2:ad.block=p)=>by injection e with e;subst e;dsimp only at h2;omega
        ·exact ((((ho29.mod m30 fun q h1 h2=>by have:=lo q h1;have:=go q h1;omega).ext e38).mod m39 fun q h1 (h2:q=p)=>by have:=go q h1;omega).sl)
        ·rintro q (h1 | ⟨y,hy,h1⟩ | h1 | h1) h2
         all_goals unfold SvX.T at h2;dsimp only at h1 h2
         ·omega
         ·have:=lze y hy q h1;omega
         ·omega
         ·have:=lo q h1;have:=go q h1;omega
        ·dsimp only;omega
        ·rintro q (h1 | ⟨y,hy,h1⟩ | h1 | h1)
         all_goals dsimp only at h1 ⊢
         ·omega
         ·have:=lze y hy q h1;omega
         ·omega
         ·have:=lo q h1;omega
        ·dsimp only;omega
        ·dsimp only;omega
       refine ⟨(some p,0),rfl,⟨by rw [←hWe,hErG,if_neg h40],fun h0=>absurd rfl h0,fun _=>⟨x,N,?_⟩⟩,E39⟩
       rw [hx] at hR hOk hTw ⊢
       refine ⟨rfl,rfl,rfl,rfl,?_,hN,hR,hOk,Nat.le_refl _,hTw⟩
       dsimp only
       rw [hO',hOe,hPe,←hWe];rfl
  ·have hr:readyG (grV g) (W.map wyV)=false:=by unfold readyG;rw [decide_eq_false (by omega),Bool.and_false];rfl
   refine V.seq (V.region (VL.box (v:=.agg _) rfl fun b0_0 w0_0 hb0_0 e0_0 hB0_0=>VL.op (R.asP rfl) (VL.op (R.asI rfl) (VL.nil (V.seq (V.seq (V.region (VL.op (R.ldA Tryz.isAgg25 Tryz.sizeOf25 rfl rfl ((show RowAt _ _ _ (encGr g) from hB0_0.rowAt 0 3)) rfl) (VL.callP Tryz.call26 rfl (hvs e0_0) fun w1_1 e1_1=>VL.op (R.not rfl) (VL.op (R.mvB rfl) (VL.gT rfl rfl (VL.op (R.mvS rfl) (VL.gT rfl rfl (VL.op (R.lenS Tryz.runUnderlying26 rfl) (VL.gT rfl rfl (VL.op (R.lit (R.gtr rfl rfl) ((decide_eq_true (by omega)))) (VL.op (R.pickFB rfl rfl) (VL.nil (V.condT rfl (V.seq (V.region (VL.op (R.asP rfl) (VL.op (R.asI rfl) (VL.nil (V.ret (fret2 (v:=.pointer _) (x:=.int _ _) rfl rfl rfl rfl rfl (?_)))))))))))))))))))))))))))
   exact ⟨(none,1),rfl,hE1 _ hr,e0_0.trans e1_1⟩
end Go.Proofs.YtjocoefpnboccaaGreatDoor

/- Solve: the order of a search. Plain. -/
namespace Go.Proofs.YtjocoefpnboccaaGreatDoor
open Go.Vc
theorem sgL_mem {W:List Wy} {C:List (List Int)} {x:Int}:x∈sgL W C↔∃ c∈C,c.any (nmW W)=true∧c.length=1∧c.getD 0 default=x:=by
 unfold sgL
 rw [List.mem_map]
 constructor
 ·rintro ⟨c,hc,rfl⟩
  obtain ⟨h1,h2⟩:=List.mem_filter.1 hc
  obtain ⟨h3,h4⟩:=List.mem_filter.1 h1
  exact ⟨c,h3,h4,of_decide_eq_true h2,rfl⟩
 ·rintro ⟨c,h3,h4,h2,rfl⟩
  exact ⟨c,List.mem_filter.2 ⟨List.mem_filter.2 ⟨h3,h4⟩,decide_eq_true h2⟩,rfl⟩
theorem ptL_mem {W:List Wy} {C:List (List Int)} {x:Int}:x∈ptL W C↔∃ c∈C,c.any (nmW W)=true∧¬c.length=1∧x∈c:=by
 unfold ptL
 rw [List.mem_flatten]
 constructor
 ·rintro ⟨c,hc,hx⟩
  obtain ⟨h1,h2⟩:=List.mem_filter.1 hc
  obtain ⟨h3,h4⟩:=List.mem_filter.1 h1
  exact ⟨c,h3,h4,by simpa using h2,hx⟩
 ·rintro ⟨c,h3,h4,h2,hx⟩
  exact ⟨c,List.mem_filter.2 ⟨List.mem_filter.2 ⟨h3,h4⟩,by simpa using h2⟩,hx⟩
theorem one_list {c:List Int} (h:c.length=1):c=[c.getD 0 default]:=by
 match c,h with
 | [x],_=>rfl
theorem ptL_nd {g:Gr} (hg:validG g=true) (W:List Wy):(ptL W (compsG g)).Nodup:=by
 unfold ptL
 refine List.pairwise_flatten.2 ⟨fun c hc=>inc_nodup (comp_inc hg (List.mem_filter.1 (List.mem_filter.1 hc).1).1),?_⟩
 refine (((comps_nodup hg).sublist List.filter_sublist).sublist List.filter_sublist).imp_of_mem fun {a b} ha hb hab=>?_
 have h1:=(List.mem_filter.1 (List.mem_filter.1 ha).1).1
 have h2:=(List.mem_filter.1 (List.mem_filter.1 hb).1).1
 exact fun v hv y hy e=>hab (comp_disj hg h1 h2 hv (e▸hy))
theorem sgL_nd {g:Gr} (hg:validG g=true) (W:List Wy):(sgL W (compsG g)).Nodup:=by
 unfold sgL
 refine List.pairwise_map.2 ?_
 refine (((comps_nodup hg).sublist List.filter_sublist).sublist List.filter_sublist).imp_of_mem fun {a b} ha hb hab=>?_
 have h1:=(List.mem_filter.1 (List.mem_filter.1 ha).1).1
 have h2:=(List.mem_filter.1 (List.mem_filter.1 hb).1).1
 have l1:=one_list (of_decide_eq_true (List.mem_filter.1 ha).2)
 have l2:=one_list (of_decide_eq_true (List.mem_filter.1 hb).2)
 exact fun e=>hab (by rw [l1,l2,e])
def sgN (g:Gr) (W:List Wy):List Nat:=(sgL W (compsG g)).map Int.toNat
def ptN (g:Gr) (W:List Wy):List Nat:=(ptI g W).map Int.toNat
theorem comps_rng {g:Gr} (hg:validG g=true) {c:List Int} (hc:c∈compsG g) {v:Int} (hv:v∈c):0≤v∧v<g.n:=(setB_iff.1 (comps_set hg hc)).2 v hv
theorem sgL_rng {g:Gr} (hg:validG g=true) {W:List Wy} {v:Int} (h:v∈sgL W (compsG g)):0≤v∧v<g.n:=by
 obtain ⟨c,hc,_,h1,rfl⟩:=sgL_mem.1 h
 exact comps_rng hg hc (gmem (by omega))
theorem ptI_mem {g:Gr} {W:List Wy} {x:Int}:x∈ptI g W↔∃ c∈compsG g,c.any (nmW W)=true∧¬c.length=1∧x∈c:=by
 unfold ptI;rw [srtF_mem,ptL_mem]
theorem ptI_rng {g:Gr} (hg:validG g=true) {W:List Wy} {v:Int} (h:v∈ptI g W):0≤v∧v<g.n:=by
 obtain ⟨c,hc,_,_,h1⟩:=ptI_mem.1 h
 exact comps_rng hg hc h1
theorem map_nat {l:List Int} (h:∀ v∈l,0≤v):(l.map Int.toNat).map (fun v:Nat=>(v:Int))=l:=by
 rw [List.map_map]
 refine (List.map_congr_left fun v hv=>?_).trans (List.map_id _)
 have:=h v hv
 show ((v.toNat:Nat):Int)=v
 omega
theorem orI_eq {g:Gr} (hg:validG g=true) (W:List Wy):orI g W=(sgN g W++ptN g W).map (fun v:Nat=>(v:Int)):=by
 unfold orI sgN ptN
 rw [List.map_append,map_nat fun v hv=>(sgL_rng hg hv).1,map_nat fun v hv=>(ptI_rng hg hv).1]
theorem nat_mem {l:List Int} (h:∀ v∈l,0≤v) {v:Nat}:v∈l.map Int.toNat↔(v:Int)∈l:=by
 rw [List.mem_map]
 constructor
 ·rintro ⟨x,hx,rfl⟩
  have:=h x hx
  rwa [show ((x.toNat:Nat):Int)=x by omega]
 ·exact fun h=>⟨_,h,by omega⟩
theorem sgN_mem {g:Gr} (hg:validG g=true) {W:List Wy} {v:Nat}:v∈sgN g W↔(v:Int)∈sgL W (compsG g):=nat_mem fun _v hv=>(sgL_rng hg hv).1
theorem ptN_mem {g:Gr} (hg:validG g=true) {W:List Wy} {v:Nat}:v∈ptN g W↔(v:Int)∈ptI g W:=nat_mem fun _v hv=>(ptI_rng hg hv).1
theorem orI_mem {g:Gr} (_hg:validG g=true) {W:List Wy} {v:Int}:v∈orI g W↔∃ c∈compsG g,c.any (nmW W)=true∧v∈c:=by
 unfold orI
 rw [List.mem_append,sgL_mem,ptI_mem]
 constructor
 ·rintro (⟨c,h1,h2,h3,rfl⟩ | ⟨c,h1,h2,_,h4⟩)
  ·exact ⟨c,h1,h2,gmem (by omega)⟩
  ·exact ⟨c,h1,h2,h4⟩
 ·rintro ⟨c,h1,h2,h3⟩
  by_cases e:c.length=1
  ·rw [one_list e,List.mem_singleton] at h3
   exact .inl ⟨c,h1,h2,e,h3.symm⟩
  ·exact .inr ⟨c,h1,h2,e,h3⟩
theorem toNat_nd {l:List Int} (h:∀ v∈l,0≤v) (hn:l.Nodup):(l.map Int.toNat).Nodup :=
 List.pairwise_map.2 (List.Pairwise.imp_of_mem (fun {a b} ha hb hab=>by have:=h a ha;have:=h b hb;omega) hn)
theorem srt_lt {l:List Int} (hn:l.Nodup):(srtF l).Pairwise (· < ·):=by
 have h1:=srtF_le l
 have h2:(srtF l).Nodup:=(List.mergeSort_perm l _).nodup_iff.2 hn
 exact (h1.and h2).imp fun h=>by omega
theorem ord_ok {g:Gr} {W:List Wy} (hr:readyG g W=true):OrdOk g W (sgN g W) (ptN g W):=by
 have hr2:=hr
 unfold readyG at hr2
 rw [Bool.and_eq_true,Bool.and_eq_true,List.all_eq_true] at hr2
 obtain ⟨⟨hg,_⟩,hW⟩:=hr2
 have hE:=(validG_iff.1 hg).2.2.1
 have hn0:=costB_iff.1 (validG_iff.1 hg).1
 have hin:∀ {v:Int},0≤v→v<g.n→∃ c∈compsG g,v∈c:=fun {v} h0 h1=>by
  obtain ⟨h2,h3,_⟩:=root_mem hg (i:=v.toNat) (by omega)
  exact ⟨_,h2,by rwa [show ((v.toNat:Nat):Int)=v by omega] at h3⟩
 have hnm:∀ w∈W,∀ v,(v∈w.pos∨v∈w.neg)→v.toNat∈sgN g W++ptN g W:=fun w hw v hv=>by
  have h1:=hW w hw
  unfold wyB at h1
  rw [Bool.and_eq_true] at h1
  have hb:0≤v∧v<g.n:=hv.elim (fun h=>(setB_iff.1 h1.1).2 v h) fun h=>(setB_iff.1 h1.2).2 v h
  obtain ⟨c,hc,hvc⟩:=hin hb.1 hb.2
  have hn:c.any (nmW W)=true:=List.any_eq_true.2 ⟨v,hvc,List.any_eq_true.2 ⟨w,hw,by rw [Bool.or_eq_true,decide_eq_true_eq,decide_eq_true_eq];exact hv⟩⟩
  have:=(orI_mem hg).2 ⟨c,hc,hn,hvc⟩
  rw [orI_eq hg,List.mem_map] at this
  obtain ⟨u,hu,e⟩:=this
  rwa [show v.toNat=u by omega]
 refine ⟨fun v hv=>?_,?_,fun v hv e he hve=>?_,?_,fun e he v hve hv u hue=>?_,fun w hw=>⟨fun v hv=>hnm w hw v (.inl hv),fun v hv=>hnm w hw v (.inr hv)⟩⟩
 ·rcases List.mem_append.1 hv with h | h
  ·exact (sgL_rng hg ((sgN_mem hg).1 h)).2
  ·exact (ptI_rng hg ((ptN_mem hg).1 h)).2
 ·refine List.nodup_append.2 ⟨toNat_nd (fun v hv=>(sgL_rng hg hv).1) (sgL_nd hg W),toNat_nd (fun v hv=>(ptI_rng hg hv).1) ((List.mergeSort_perm _ _).nodup_iff.2 (ptL_nd hg W)),fun a ha b hb e=>?_⟩
  subst e
  obtain ⟨c,h1,_,h3,h4⟩:=sgL_mem.1 ((sgN_mem hg).1 ha)
  obtain ⟨c',h1',_,h3',h4'⟩:=ptI_mem.1 ((ptN_mem hg).1 hb)
  have:=comp_disj hg h1 h1' (v:=(a:Int)) (by rw [←h4];exact gmem (by omega)) h4'
  subst this
  exact h3' h3
 ·obtain ⟨c,h1,_,h3,h4⟩:=sgL_mem.1 ((sgN_mem hg).1 hv)
  have hc1:=one_list h3
  rw [h4] at hc1
  have hall:=comp_edge hg h1 he hve (by rw [hc1];simp)
  rw [hc1] at hall
  refine inc_ext (hE e he).2.1 (by simp [Inc]) fun x=>⟨hall x,fun hx=>by rw [List.mem_singleton] at hx;rw [hx];exact hve⟩
 ·refine List.pairwise_map.2 (List.Pairwise.imp_of_mem (fun {a b} ha hb hab=>?_) (srt_lt (ptL_nd hg W)))
  have:=(ptI_rng hg (W:=W) (by unfold ptI;exact ha)).1
  have:=(ptI_rng hg (W:=W) (by unfold ptI;exact hb)).1
  omega
 ·have h0:=(hE e he).2.2 v hve
  have h1:=(hE e he).2.2 u hue
  rw [ptN_mem hg,show ((v.toNat:Nat):Int)=v by omega,ptI_mem] at hv
  obtain ⟨c,hc,h2,h3,h4⟩:=hv
  rw [ptN_mem hg,show ((u.toNat:Nat):Int)=u by omega,ptI_mem]
  exact ⟨c,hc,h2,h3,comp_edge hg hc he hve h4 u hue⟩
end Go.Proofs.YtjocoefpnboccaaGreatDoor
