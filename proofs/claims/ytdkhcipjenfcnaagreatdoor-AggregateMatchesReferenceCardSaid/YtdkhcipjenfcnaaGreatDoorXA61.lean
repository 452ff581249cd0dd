/- Aggregate: the reference's span. -/
import Derived.Test.YtdkhcipjenfcnaaGreatDoorXA49
namespace Go.Proofs.YtdkhcipjenfcnaaGreatDoor
set_option maxRecDepth 100000
set_option maxHeartbeats 16000000
open Go.Vc Go.Proofs.Tryz
def fnS (ws:List Int) (sums:Bool) (Z:List Int):Int:=if sums=true then totW ws Z else gmx ws Z
def loX (F:List Int→Int) (L:List SlI) (k:Nat):SlI:=L.getD (loI F (vals L) k) default
def ngF (F:List Int→Int) (Z:List Int):Int:=-F Z
def spK (F:List Int→Int) (L:List SlI) (k:Nat):SpX:=if k=0 then spZ else { spZ with fr:=F (loX F L k).l,to:=F (loX (ngF F) L k).l,lo:=loX F L k,hi:=loX (ngF F) L k }
def spH (F:List Int→Int) (L:List SlI) (k:Nat):SpX:={ spK F L k with fr:=F (loX F L (k+1)).l,lo:=loX F L (k+1) }
theorem vals_get {L:List SlI} {j:Nat} (h:j<L.length):(vals L).getD j default=(L.getD j default).l:=gmap SlI.l L default h
theorem loX_succ (F:List Int→Int) {L:List SlI} {k:Nat} (hk:k<L.length):loX F L (k+1)=if k=0∨F (L.getD k default).l<F (loX F L k).l then L.getD k default else loX F L k:=by
 unfold loX
 rw [show loI F (vals L) (k+1)=if k=0∨F ((vals L).getD k default)<F ((vals L).getD (loI F (vals L) k) default) then k else loI F (vals L) k from rfl]
 have hlo:=(loI_spec F (vals L) k).1
 rw [vals_get hk]
 by_cases h0:k=0
 ·rw [if_pos (.inl h0),if_pos (.inl h0)]
 ·have:=hlo (by omega)
  rw [vals_get (show loI F (vals L) k<L.length by omega)]
  split <;> rfl
theorem spH_new {F:List Int→Int} {L:List SlI} {k:Nat} (hk:k<L.length) (h:k=0∨F (L.getD k default).l<F (loX F L k).l):spH F L k={ spK F L k with fr:=F (L.getD k default).l,lo:=L.getD k default }:=by
 unfold spH
 rw [loX_succ F hk,if_pos h]
theorem spH_old {F:List Int→Int} {L:List SlI} {k:Nat} (hk:k<L.length) (h:¬(k=0∨F (L.getD k default).l<F (loX F L k).l)):spH F L k=spK F L k:=by
 unfold spH
 rw [loX_succ F hk,if_neg h]
 unfold spK
 rw [if_neg fun e=>h (.inl e)]
theorem spK_new {F:List Int→Int} {L:List SlI} {k:Nat} (hk:k<L.length) (h:k=0∨F (loX (ngF F) L k).l<F (L.getD k default).l):spK F L (k+1)={ spH F L k with to:=F (L.getD k default).l,hi:=L.getD k default }:=by
 have hh:k=0∨ngF F (L.getD k default).l<ngF F (loX (ngF F) L k).l:=by
  rcases h with h | h
  ·exact .inl h
  ·exact .inr (by unfold ngF at h ⊢;omega)
 unfold spH
 rw [show spK F L (k+1)={ spZ with fr:=F (loX F L (k+1)).l,to:=F (loX (ngF F) L (k+1)).l,lo:=loX F L (k+1),hi:=loX (ngF F) L (k+1) } from if_neg (Nat.succ_ne_zero k),loX_succ (ngF F) hk,if_pos hh]
 unfold spK
 split <;> rfl
theorem spK_old {F:List Int→Int} {L:List SlI} {k:Nat} (hk:k<L.length) (h:¬(k=0∨F (loX (ngF F) L k).l<F (L.getD k default).l)):spK F L (k+1)=spH F L k:=by
 have hh:¬(k=0∨ngF F (L.getD k default).l<ngF F (loX (ngF F) L k).l):=fun hc=>h (by
  rcases hc with hc | hc
  ·exact .inl hc
  ·exact .inr (by unfold ngF at hc h ⊢;omega))
 unfold spH
 rw [show spK F L (k+1)={ spZ with fr:=F (loX F L (k+1)).l,to:=F (loX (ngF F) L (k+1)).l,lo:=loX F L (k+1),hi:=loX (ngF F) L (k+1) } from if_neg (Nat.succ_ne_zero k),loX_succ (ngF F) hk,if_neg hh]
 unfold spK
 rw [if_neg fun e=>h (.inl e)]
structure SpanR (g:Gr) (F:List Int→Int) (w:World) (x:SpX):Prop where
 lo:IntSl w x.lo.a x.lo.l
 hi:IntSl w x.hi.a x.hi.l
 tl:TyA w x.lo.a 3
 th:TyA w x.hi.a 3
 l:x.lo.l=(repsG g).getD (loI F (repsG g) (repsG g).length) default
 h:x.hi.l=(repsG g).getD (loI (ngF F) (repsG g) (repsG g).length) default
 fr:x.fr=F x.lo.l
 to:x.to=F x.hi.l
theorem SpanR.ext {g:Gr} {F:List Int→Int} {w w':World} {x:SpX} (h:SpanR g F w x) (e:Ext w w'):SpanR g F w' x:=⟨h.lo.ext e,h.hi.ext e,h.tl.ext e,h.th.ext e,h.l,h.h,h.fr,h.to⟩
theorem SpanR.mod {g:Gr} {F:List Int→Int} {w w':World} {x:SpX} {b:Nat} {c:Array Value} {z:Nat×Nat} (h:SpanR g F w x) (m:Vc.Mod (Vc.one b) w w') (hb:Blk w b (.cells c 32 z)):SpanR g F w' x:=by
 have key:∀ {a:Option Addr},TyA w a 3→∀ k,aBlk a k→¬Vc.one b k:=fun ht k hk (e:k=b)=>ht.apart (e▸hb) (by decide) hk
 exact ⟨h.lo.mod m fun ad e=>key h.tl _ ⟨ad,e,rfl⟩,h.hi.mod m fun ad e=>key h.th _ ⟨ad,e,rfl⟩,h.tl.mod m (key h.tl),h.th.mod m (key h.th),h.l,h.h,h.fr,h.to⟩
theorem span31_spec (g:GrW) (wa:Option Addr) (wc:Nat) (ws:List Int) (sums:Bool) (w:World) (hG:GOk w g) (hl:GLen g) (h12:confI (grV g).edges g.n.toNat≤12) (hv:validG (grV g)=true) (hW:IntSl w wa ws) (hwn:(ws.length:Int)=g.n) (hwb:∀ x∈ws,-1000000000≤x∧x≤1000000000) :
  RetsX prog 41 #[.agg (encGr g).toArray,.slice wa ws.length wc,.bool sums] w (fun x:SpX=>.agg (encSp x).toArray) (fun x w'=>SpanR (grV g) (fnS ws sums) w' x):=by
 have hcn:=costB_iff.1 (validG_iff.1 hv).1
 have hgn:(grV g).n=g.n:=rfl
 have hn4:g.n≤4000:=hcn.2.1
 refine eN (args:=[_,_,_]) func41 rfl ntmps41 ?_
 refine Vs<|Vr<|VL.box (v:=.agg _) rfl fun b0_0 w0_0 hb0_0 e0_0 hB0_0=>VL.alloc zv32 fun b0_1 w0_1 hb0_1 e0_1 hB0_1=>Vn<|Vs<|Vr<|Vo (R.ldA ag25 sz25 rfl rfl (show RowAt _ _ _ (encGr g) from ((hB0_0.ext e0_1).rowAt 0 3)) rfl)<|VL.callX call82 rfl (list31_spec g _ (hG.ext (e0_0.trans e0_1)) hl hn4 h12 hv) fun x w1 h1 e1=>Vo (R.mvT rfl)<|Vo (R.extr rfl rfl)<|Vo (R.extr rfl rfl)<|oT rfl<|oJ rfl<|Vn<|Vs (?_)
 obtain ⟨hL,hty,hvL,hxl⟩:=h1
 have E1:Ext w w1:=(e0_0.trans e0_1).trans e1
 have hS1:=hB0_1.ext e1
 have hrep:∀ k,k<x.L.length→IsRep (grV g) (x.L.getD k default).l:=fun k hk=>by
  refine (reps_mem hv).1 ?_
  rw [←hvL]
  exact List.mem_map_of_mem (gmem hk)
 have hrl:(repsG (grV g)).length=x.L.length:=by rw [←hvL];exact List.length_map _
 obtain ⟨F,hF⟩:∃ F,F=fnS ws sums:=⟨_,rfl⟩
 refine Vr<|VL.alloc zv32 fun b2_0 w2_0 hb2_0 e2_0 hB2_0=>Vn<|Vs<|Vs<|Vr<|oJ rfl<|Vn<|Vb (?_)
 have hB2:Blk w2_0 b2_0 (.cells (encSp (spK F x.L 0)).toArray 32 (0,0)):=hB2_0
 have zb:w1.heap.size≤b2_0:=Nat.le_of_eq hb2_0.symm
 refine Vl [1,2,6,7,9,10] (fun k:Nat=>[.slice wa ws.length wc,.bool sums,pA b0_1,.slice x.a x.L.length x.c,pA b2_0,.int .i64 (k:Nat)]) (fun k w'=>k≤x.L.length∧Ext w1 w'∧Blk w' b2_0 (.cells (encSp (spK F x.L k)).toArray 32 (0,0))) (fun k=>x.L.length-k) 0 rfl ⟨Nat.zero_le _,e2_0,hB2⟩ ?_
 rintro ρ k w3 ⟨hk,e3,hb3⟩
 have hL3:=hL.ext e3
 have lb:=hb3.lt
 refine Vs<|Vs<|Vr<|oI rfl<|oS rfl<|Vo (R.lenS ru23 rfl)<|oL rfl rfl<|Vn<|Vd rfl (fun c20=>Vk<|Vs<|Vb<|Vs (?_)) (fun c20=>Ve<|Vs (?_))
 ·have hkl:k<x.L.length:=by omega
  have hr:=hrep k hkl
  have hs:=setB_iff.1 hr.set
  have hsl:=set_len hs.1 hs.2 (by omega)
  have hrr:∀ v∈(x.L.getD k default).l,0≤v∧v<(ws.length:Int):=fun v hv'=>by have:=hs.2 v hv';omega
  have hW3:=hW.ext (E1.trans e3)
  refine Vr<|oS rfl<|oS rfl<|oI rfl<|Vo (iX ru23 sz22 rfl rfl (hL3.sl.some (i:=k) hkl))<|Vo (rla ag22 rfl ((hL3.sl.row (i:=k) hkl).c0a rfl))<|Vp call83 rfl (rpeak31_spec wa wc ws (x.L.getD k default).a (x.L.getD k default).c (x.L.getD k default).l _ (hW3.ext (Vc.Mod.refl Vc.nob w3)) (by omega) ((hL3.at hkl).ext (Vc.Mod.refl Vc.nob w3)) (by omega) hrr) fun w6_5 e6_5=>oJ rfl<|Vn<|V.cut [1,2,6,7,9,10,11] (fun _:Unit=>[.slice wa ws.length wc,.bool sums,pA b0_1,.slice x.a x.L.length x.c,pA b2_0,.int .i64 (k:Nat),.int .i64 (F (x.L.getD k default).l)]) (fun _ w'=>Ext w3 w') (Vs<|Vr<|oB rfl<|Vn<|Vh rfl (fun c29=>?_) (fun c29=>Vk (?_))) (fun rgC29 xC29 wBC29 hBC29=>V.cut [1,2,6,7,9,10,11] (fun _:Unit=>[.slice wa ws.length wc,.bool sums,pA b0_1,.slice x.a x.L.length x.c,pA b2_0,.int .i64 (k:Nat),.int .i64 (F (x.L.getD k default).l)]) (fun _ w'=>Ext w1 w'∧Blk w' b2_0 (.cells (encSp (spH F x.L k)).toArray 32 (0,0))) (Vs (?_)) (fun rgC43 xC43 wBC43 hBC43=>Vs (?_)))
  ·refine Vr<|oS rfl<|oS rfl<|oI rfl<|Vo (iX ru23 sz22 rfl rfl ((hL3.ext e6_5).sl.some (i:=k) hkl))<|Vo (rla ag22 rfl (((hL3.ext e6_5).sl.row (i:=k) hkl).c0a rfl))<|Vp call54 rfl (rsum31_spec wa wc ws (x.L.getD k default).a (x.L.getD k default).c (x.L.getD k default).l _ ((hW3.ext e6_5).ext (Vc.Mod.refl Vc.nob w6_5)) (by omega) (((hL3.ext e6_5).at hkl).ext (Vc.Mod.refl Vc.nob w6_5)) (by omega) hwb hrr) fun w8_5 e8_5=>oJ rfl<|Vn (?_)
   have hf:F (x.L.getD k default).l=totW ws (x.L.getD k default).l:=by rw [hF];exact if_pos c29
   rw [hf]
   exact ⟨(),rfl,e6_5.trans e8_5⟩
  ·have hf:F (x.L.getD k default).l=gmx ws (x.L.getD k default).l:=by rw [hF];exact if_neg (by rw [c29];decide)
   rw [hf]
   exact ⟨(),rfl,e6_5⟩
  ·have hL4:=hL3.ext hBC29
   have hb4:=hb3.ext hBC29
   have hkf:¬k=0→(spK F x.L k).fr=F (loX F x.L k).l:=fun h=>by unfold spK;rw [if_neg h]
   have e4:=e3.trans hBC29
   have new:∀ {wa wb wc:World},Ext wBC29 wa→Vc.Mod (Vc.one b2_0) wa wb→Vc.Mod (Vc.one b2_0) wb wc→(k=0∨F (x.L.getD k default).l<F (loX F x.L k).l)→Blk wc b2_0 (.cells (encSp { spK F x.L k with fr:=F (x.L.getD k default).l,lo:=x.L.getD k default }).toArray 32 (0,0))→Ext w1 wc∧Blk wc b2_0 (.cells (encSp (spH F x.L k)).toArray 32 (0,0)):=fun ea m1 m2 h hb=>by
    rw [spH_new hkl h]
    exact ⟨((e4.trans ea).own m1 zb).own m2 zb,hb⟩
   refine Vr<|oI rfl<|Vo (R.eql rfl rfl)<|oB rfl<|VL.orP rfl rfl (fun g9_2=>oI rfl<|lT<|Vo (R.fld' (o:=0) ru32 rfl rfl sz3 rfl rfl)<|lT<|Vo (rla ag3 rfl (show _=some (Value.int .i64 (spK F x.L k).fr) from hb4.cell 0))<|lT<|oL rfl rfl<|oQ rfl rfl<|Vn<|Vd rfl (fun c43=>Vs<|Vr<|oI rfl<|Vo (R.fld' (o:=0) ru32 rfl rfl sz3 rfl rfl)<|VL.store (v:=.int _ _) sz3 rfl rfl rfl rfl hb4 rfl rfl fun w10 m10 hs10 hB10=>Vn<|Vr<|oS rfl<|oI rfl<|Vo (iX ru23 sz22 rfl rfl ((hL.ext (e4.own m10 zb)).sl.some (i:=k) hkl))<|Vo (rla ag22 rfl (((hL.ext (e4.own m10 zb)).sl.row (i:=k) hkl).c0a rfl))<|Vo (R.fld' (o:=2) ru32 rfl rfl sz22 rfl rfl)<|VL.store (v:=.slice _ _ _) sz22 rfl rfl rfl rfl hB10 rfl rfl fun w11 m11 hs11 hB11=>Vn (?_)) (fun c43=>Vk (?_))) (fun g9_2=>lF<|lF<|lF<|oP rfl rfl<|Vn<|Vg rfl<|Vs<|Vr<|oI rfl<|Vo (R.fld' (o:=0) ru32 rfl rfl sz3 rfl rfl)<|VL.store (v:=.int _ _) sz3 rfl rfl rfl rfl hb4 rfl rfl fun w10 m10 hs10 hB10=>Vn<|Vr<|oS rfl<|oI rfl<|Vo (iX ru23 sz22 rfl rfl ((hL.ext (e4.own m10 zb)).sl.some (i:=k) hkl))<|Vo (rla ag22 rfl (((hL.ext (e4.own m10 zb)).sl.row (i:=k) hkl).c0a rfl))<|Vo (R.fld' (o:=2) ru32 rfl rfl sz22 rfl rfl)<|VL.store (v:=.slice _ _ _) sz22 rfl rfl rfl rfl hB10 rfl rfl fun w11 m11 hs11 hB11=>Vn (?_))
   ·exact ⟨(),rfl,new (Vc.Mod.refl _ _) m10 m11 (.inr (by rw [←hkf (by omega)];exact c43)) hB11⟩
   ·refine ⟨(),rfl,e4,?_⟩
    rw [spH_old hkl fun h=>by
     rcases h with h | h
     ·omega
     ·rw [←hkf (by omega)] at h;exact c43 h]
    exact hb4
   ·exact ⟨(),rfl,new (Vc.Mod.refl _ _) m10 m11 (.inl (by omega)) hB11⟩
  ·obtain ⟨e5,hb5⟩:=hBC43
   have hkf:¬k=0→(spH F x.L k).to=F (loX (ngF F) x.L k).l:=fun h=>by
    show (spK F x.L k).to=_
    unfold spK;rw [if_neg h]
   have new:∀ {wb wc:World},Vc.Mod (Vc.one b2_0) wBC43 wb→Vc.Mod (Vc.one b2_0) wb wc→(k=0∨F (loX (ngF F) x.L k).l<F (x.L.getD k default).l)→Blk wc b2_0 (.cells (encSp { spH F x.L k with to:=F (x.L.getD k default).l,hi:=x.L.getD k default }).toArray 32 (0,0))→Ext w1 wc∧Blk wc b2_0 (.cells (encSp (spK F x.L (k+1))).toArray 32 (0,0)):=fun m1 m2 h hb=>by
    rw [spK_new hkl h]
    exact ⟨(e5.own m1 zb).own m2 zb,hb⟩
   refine Vr<|oI rfl<|Vo (R.eql rfl rfl)<|oB rfl<|VL.orP rfl rfl (fun g12_2=>oI rfl<|lT<|Vo (R.fld' (o:=1) ru32 rfl rfl sz3 rfl rfl)<|lT<|Vo (rla ag3 rfl (show _=some (Value.int .i64 (spH F x.L k).to) from hb5.cell 1))<|lT<|Vo (R.gtr rfl rfl)<|oQ rfl rfl<|Vn<|Vd rfl (fun c58=>Vs<|Vr<|oI rfl<|Vo (R.fld' (o:=1) ru32 rfl rfl sz3 rfl rfl)<|VL.store (v:=.int _ _) sz3 rfl rfl rfl rfl hb5 rfl rfl fun w10 m10 hs10 hB10=>Vn<|Vr<|oS rfl<|oI rfl<|Vo (iX ru23 sz22 rfl rfl ((hL.ext (e5.own m10 zb)).sl.some (i:=k) hkl))<|Vo (rla ag22 rfl (((hL.ext (e5.own m10 zb)).sl.row (i:=k) hkl).c0a rfl))<|Vo (R.fld' (o:=3) ru32 rfl rfl sz22 rfl rfl)<|VL.store (v:=.slice _ _ _) sz22 rfl rfl rfl rfl hB10 rfl rfl fun w11 m11 hs11 hB11=>Vn<|Vr<|oI rfl<|oD rfl rfl<|oJ rfl<|Vn (?_)) (fun c58=>Vk<|Vr<|oI rfl<|oD rfl rfl<|oJ rfl<|Vn (?_))) (fun g12_2=>lF<|lF<|lF<|oP rfl rfl<|Vn<|Vg rfl<|Vs<|Vr<|oI rfl<|Vo (R.fld' (o:=1) ru32 rfl rfl sz3 rfl rfl)<|VL.store (v:=.int _ _) sz3 rfl rfl rfl rfl hb5 rfl rfl fun w10 m10 hs10 hB10=>Vn<|Vr<|oS rfl<|oI rfl<|Vo (iX ru23 sz22 rfl rfl ((hL.ext (e5.own m10 zb)).sl.some (i:=k) hkl))<|Vo (rla ag22 rfl (((hL.ext (e5.own m10 zb)).sl.row (i:=k) hkl).c0a rfl))<|Vo (R.fld' (o:=3) ru32 rfl rfl sz22 rfl rfl)<|VL.store (v:=.slice _ _ _) sz22 rfl rfl rfl rfl hB10 rfl rfl fun w11 m11 hs11 hB11=>Vn<|Vr<|oI rfl<|oD rfl rfl<|oJ rfl<|Vn (?_))
   ·obtain ⟨k1,k2⟩:=new m10 m11 (.inr (by rw [←hkf (by omega)];exact c58)) hB11
    exact ⟨k+1,rfl,⟨by omega,k1,k2⟩,by omega⟩
   ·refine ⟨k+1,rfl,⟨by omega,e5,?_⟩,by omega⟩
    rw [spK_old hkl fun h=>by
     rcases h with h | h
     ·omega
     ·rw [←hkf (by omega)] at h;exact c58 h]
    exact hb5
   ·obtain ⟨k1,k2⟩:=new m10 m11 (.inl (by omega)) hB11
    exact ⟨k+1,rfl,⟨by omega,k1,k2⟩,by omega⟩
 ·have hke:k=x.L.length:=by omega
  have hS3:=hS1.ext e3
  have hpos:0<x.L.length:=by
   rw [←hrl];exact List.length_pos_iff.2 (reps_ne hv)
  obtain ⟨X,hX⟩:∃ X,X=spK F x.L k:=⟨_,rfl⟩
  rw [←hX] at hb3
  refine Vr<|Vo (R.ldA ag32 sz32 rfl rfl (show RowAt _ _ _ (encSp X) from hb3.rowAt 0 6) rfl)<|VL.store (v:=.agg _) sz32 rfl rfl rfl rfl hS3 rfl rfl fun w4 m4 hs4 hB4=>Vn<|Vt (fretC rfl rfl rfl ag32 sz32 rfl (hB4.rowAt 0 6) rfl (?_))
  have m4':Vc.Mod (Vc.one b0_1) w3 w4:=m4
  have z0:=e0_0.size
  have k0:=hb0_1
  have E4:Ext w w4:=(E1.trans e3).own m4' (by omega)
  have hlt:=hB0_1.lt
  have z1:=e1.size
  have hLL:∀ y∈x.L,IntSl w4 y.a y.l:=fun y hy=>((hL.each y hy).ext e3).mod m4' fun ad e (h:ad.block=b0_1)=>((hty y hy).ext e3).apart (h▸hS3) (by decide) ⟨ad,e,rfl⟩
  have hTT:∀ y∈x.L,TyA w4 y.a 3:=fun y hy=>((hty y hy).ext e3).mod m4' fun k hk (h:k=b0_1)=>((hty y hy).ext e3).apart (h▸hS3) (by decide) hk
  have hX2:X={ spZ with fr:=F (loX F x.L x.L.length).l,to:=F (loX (ngF F) x.L x.L.length).l,lo:=loX F x.L x.L.length,hi:=loX (ngF F) x.L x.L.length }:=by rw [hX,hke];exact if_neg (by omega)
  have hat:∀ G:List Int→Int,loI G (vals x.L) x.L.length<x.L.length:=fun G=>(loI_spec G (vals x.L) x.L.length).1 hpos
  have hlv:∀ G:List Int→Int,(loX G x.L x.L.length).l=(repsG (grV g)).getD (loI G (repsG (grV g)) (repsG (grV g)).length) default:=fun G=>by
   unfold loX
   rw [←vals_get (hat G),hvL,hrl]
  rw [hF] at hX2
  refine ⟨X,rfl,?_,E4⟩
  rw [hX2]
  exact ⟨hLL _ (gmem (hat _)),hLL _ (gmem (hat _)),hTT _ (gmem (hat _)),hTT _ (gmem (hat _)),hlv _,hlv _,rfl,rfl⟩
end Go.Proofs.YtdkhcipjenfcnaaGreatDoor
