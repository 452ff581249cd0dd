/- Solve: the search as it lies; states of lists of vertices. -/
import Derived.Test.YtjocoefpnboccaaGreatDoorXN4
import Derived.Test.YtjocoefpnboccaaGreatDoorXHG
import Derived.Test.YtjocoefpnboccaaGreatDoorXH22a
import Derived.Test.YtjocoefpnboccaaGreatDoorXVcSrch4
import Derived.Test.YtjocoefpnboccaaGreatDoorXVcPanic
namespace Go.Proofs.YtjocoefpnboccaaGreatDoor
set_option maxHeartbeats 16000000
open Go.Vc
set_option maxRecDepth 100000
set_option maxHeartbeats 16000000
theorem rangeG29 (F:Int→Bool) (l:List Int):((List.range l.length).any fun k=>F (l.getD k default))=l.any F:=by
 rw [Bool.eq_iff_iff,List.any_eq_true,List.any_eq_true]
 constructor
 ·rintro ⟨k,hk,h⟩
  exact ⟨_,gmem (List.mem_range.1 hk),h⟩
 ·rintro ⟨x,hx,h⟩
  obtain ⟨i,hi,rfl⟩:=List.getElem_of_mem hx
  exact ⟨i,List.mem_range.2 hi,by rw [gget hi];exact h⟩
theorem containsM29 (g:FuncId) (Fv Cv:List Value) (F:Int→Bool) (S:World→Prop) (a:Option Addr) (c:Nat) (l:List Int) (w:World) (hfn:IsFn Tryz.prog g) (hdo:∀ w x,S w→x∈l→RetsP Tryz.prog g (Fv++[Value.int .i64 x]++Cv).toArray w (.bool (F x)))
  (hSe:∀ w w',S w→Ext w w'→S w') (h0:S w) (hL:IntSl w a l) (hm:l.length≤1000000) :
  RetsP Tryz.prog 34 #[.slice a l.length c,.func (.func g) Fv.toArray Cv.toArray] w (.bool (l.any F)):=by
 refine (containsK g Fv Cv (fun k=>F (l.getD k default)) (fun _ w'=>S w'∧Ext w w') a c l w hfn (fun k w' hk h=>(hdo w' _ h.1 (gmem hk)).mono fun u w2 ⟨hu,e⟩=>⟨(),hu,hSe _ _ h.1 e,h.2.trans e⟩) (fun _ w' h=>hL.ext h.2) ⟨h0,Vc.Mod.refl _ _⟩ hm).mono fun u w2 ⟨_,hu,k,_,e⟩=>⟨?_,e⟩
 rw [hu]
 show Value.bool _=Value.bool _
 rw [rangeG29]
def encS4 (x:St4):List Value:=[.int .i64 x.k,.int .i64 x.a,.int .i64 x.i,.int .i64 x.o]
structure SvX where
 p:Nat
 g:GrW
 wa:Option Addr
 wc:Nat
 W:List WyI
 h:Bool
 oa:Option Addr
 oc:Nat
 O:List Int
 zb:Nat
 z:List SlI
 tb:Nat
 cb:Nat
 L:Nat
 U:Nat
def encSv (x:SvX) (n:Nat) (sa:Option Addr) (sl sc:Nat):List Value:=[.int .i64 x.g.n,.slice x.g.ca x.g.cost.length x.g.cc,.slice x.g.ea x.g.edges.length x.g.ec,.slice x.wa x.W.length x.wc,.bool x.h,.slice x.oa x.O.length x.oc,.slice (some ⟨x.zb,0,none⟩) x.z.length x.z.length,.slice (some ⟨x.tb,0,none⟩) n n,.slice sa sl sc,.slice (some ⟨x.cb,0,none⟩) 4 4]
def encFn (v:Value):List Value:=[v]
def closL (p:Nat):List Value:=[.func (.func 53) #[.pointer (some ⟨p,0,none⟩)] #[],.func (.func 54) #[.pointer (some ⟨p,0,none⟩)] #[],.func (.func 55) #[.pointer (some ⟨p,0,none⟩)] #[],.func (.func 56) #[.pointer (some ⟨p,0,none⟩)] #[]]
def SvX.Fx (x:SvX) (q:Nat):Prop:=q=x.zb∨(∃ y∈x.z,aBlk y.a q)∨q=x.cb∨aBlk x.oa q
def SvX.T (x:SvX) (q:Nat):Prop:=q=x.tb∨q=x.p∨x.U≤q
structure SvOk (x:SvX) (w:World) (st:List Int) (sa:Option Addr) (sc:Nat) (S:List St4):Prop where
 blk:Blk w x.p (.cells (Value.agg (encSv x st.length sa S.length sc).toArray).cells 74 (0,0))
 base:∃ w0,Ext w0 w∧(∀ q,x.T q→w0.heap.size≤q)∧GOk w0 x.g∧WL w0 x.wa x.W
 z:LL w (some ⟨x.zb,0,none⟩) x.z
 t:OwnT Vc.encI 1 3 0 w (some ⟨x.tb,0,none⟩) st.length st
 s:OwnT encS4 4 112 x.U w sa sc S
 c:TSl encFn 1 w (some ⟨x.cb,0,none⟩) (closL x.p)
 o:IntSl w x.oa x.O
 sep:∀ q,x.Fx q→¬x.T q
 tp:x.tb≠x.p
 fL:∀ q,x.Fx q→q<x.L
 tL:x.tb<x.L
 pL:x.p<x.L
 lU:x.L≤x.U
 sz:x.U≤w.heap.size
theorem SvOk.tU {x:SvX} {w:World} {st:List Int} {sa:Option Addr} {sc:Nat} {S:List St4} (h:SvOk x w st sa sc S):x.tb<x.U:=Nat.lt_of_lt_of_le h.tL h.lU
theorem SvOk.pU {x:SvX} {w:World} {st:List Int} {sa:Option Addr} {sc:Nat} {S:List St4} (h:SvOk x w st sa sc S):x.p<x.U:=Nat.lt_of_lt_of_le h.pL h.lU
theorem SvOk.g {x:SvX} {w:World} {st:List Int} {sa:Option Addr} {sc:Nat} {S:List St4} (h:SvOk x w st sa sc S):GOk w x.g:=by
 obtain ⟨w0,e,_,h1,_⟩:=h.base
 exact h1.ext e
theorem SvOk.W {x:SvX} {w:World} {st:List Int} {sa:Option Addr} {sc:Nat} {S:List St4} (h:SvOk x w st sa sc S):WL w x.wa x.W:=by
 obtain ⟨w0,e,_,_,h1⟩:=h.base
 exact h1.ext e
theorem SvOk.ext {x:SvX} {w w':World} {st:List Int} {sa:Option Addr} {sc:Nat} {S:List St4} (h:SvOk x w st sa sc S) (e:Ext w w'):SvOk x w' st sa sc S:=by
 obtain ⟨w0,e0,h1⟩:=h.base
 exact ⟨h.blk.ext e,⟨w0,e0.trans e,h1⟩,h.z.ext e,h.t.ext e,h.s.ext e,h.c.ext e,h.o.ext e,h.sep,h.tp,h.fL,h.tL,h.pL,h.lU,Nat.le_trans h.sz e.size⟩
theorem LL.mod29 {w w':World} {a:Option Addr} {L:List SlI} {S:Nat→Prop} (h:LL w a L) (m:Vc.Mod S w w') (h1:∀ q,aBlk a q→¬S q) (h2:∀ y∈L,∀ q,aBlk y.a q→¬S q):LL w' a L :=
 ⟨h.sl.mod m fun ad e=>h1 _ ⟨ad,e,rfl⟩,fun y hy=>(h.each y hy).mod m fun ad e=>h2 y hy _ ⟨ad,e,rfl⟩⟩
theorem SvOk.turn {x:SvX} {w w':World} {st st':List Int} {sa sa':Option Addr} {sc sc':Nat} {S S':List St4} (h:SvOk x w st sa sc S) (m:Vc.Mod x.T w w') (hb:Blk w' x.p (.cells (Value.agg (encSv x st'.length sa' S'.length sc').toArray).cells 74 (0,0)))
  (ht:OwnT Vc.encI 1 3 0 w' (some ⟨x.tb,0,none⟩) st.length st') (hs:OwnT encS4 4 112 x.U w' sa' sc' S') (hl:st'.length=st.length):SvOk x w' st' sa' sc' S':=by
 have s:=h.sep
 have k:∀ q,x.Fx q→¬x.T q:=s
 obtain ⟨w0,e0,hT,h1⟩:=h.base
 refine ⟨hb,⟨w0,e0.ownA m hT,hT,h1⟩,?_,by rw [hl];exact ht,hs,?_,?_,s,h.tp,h.fL,h.tL,h.pL,h.lU,Nat.le_trans h.sz m.size⟩
 ·exact h.z.mod29 m (fun q hq=>k q (by have:=aBlk_some hq;subst this;unfold SvX.Fx;simp)) fun y hy q hq=>k q (.inr (.inl ⟨y,hy,hq⟩))
 ·exact h.c.mod m fun ad e=>k _ (by injection e with e;subst e;unfold SvX.Fx;simp)
 ·exact h.o.mod m fun ad e=>k _ (.inr (.inr (.inr ⟨ad,e,rfl⟩)))
abbrev PtV (w:World) (b:Nat) (x:SvX):Prop:=Blk w b (.cells #[.pointer (some ⟨x.p,0,none⟩)] 67 (0,0))
abbrev NuB (w:World) (b:Nat) (k:Int):Prop:=Blk w b (.cells #[.int .i64 k] 3 (0,0))
def SvA (x:SvX) (st:List Int) (sa:Option Addr) (sc:Nat) (S:List St4) (b1:Nat) (w:World):Prop:=SvOk x w st sa sc S∧PtV w b1 x
theorem SvA.ext {x:SvX} {st:List Int} {sa:Option Addr} {sc:Nat} {S:List St4} {b1:Nat} {w w':World} (h:SvA x st sa sc S b1 w) (e:Ext w w'):SvA x st sa sc S b1 w':=⟨h.1.ext e,h.2.ext e⟩
def ArS (x:SvX) (st:List Int) (sa:Option Addr) (sc:Nat) (S:List St4) (b1 b2:Nat) (k:Int) (w:World):Prop:=SvA x st sa sc S b1 w∧NuB w b2 k
theorem ArS.ext {x:SvX} {st:List Int} {sa:Option Addr} {sc:Nat} {S:List St4} {b1 b2:Nat} {k:Int} {w w':World} (h:ArS x st sa sc S b1 b2 k w) (e:Ext w w'):ArS x st sa sc S b1 b2 k w':=⟨h.1.ext e,h.2.ext e⟩
theorem are1_spec (x:SvX) (st:List Int) (sa:Option Addr) (sc:Nat) (S:List St4) (b1 b2:Nat) (k v:Int) (w:World) (h:ArS x st sa sc S b1 b2 k w) (h0:0≤v) (h1:v<(st.length:Int)) :
  RetsP Tryz.prog 104 #[.int .i64 v,.pointer (some ⟨b1,0,none⟩),.pointer (some ⟨b2,0,none⟩)] w (.bool (!decide (stA st v=k))):=by
 refine enter (args:=[_,_,_]) Tryz.func104 rfl Tryz.ntmps104 (by kernel_rfl) rfl ?_
 refine V.seq (V.region (VL.op (R.asB rfl) (VL.nil (V.seq (V.regionQ mixed 10 (by kernel_rfl) rfl (fun w'=>Ext _ w') (Ext.drawn _) (VQ.op (fun wq eq=>R.ld1 Tryz.isAgg67 rfl ((show wq.cell? ⟨b1,0,none⟩=some (Value.pointer (some ⟨x.p,0,none⟩)) from (h.1.2.ext eq).cell 0))) (VQ.op (fun wq eq=>R.nilCheck rfl) (VQ.op (fun wq eq=>R.fld' (o:=7) Tryz.runUnderlying74 rfl rfl Tryz.sizeOf22 rfl rfl) (VQ.op (fun wq eq=>R.ld1 Tryz.isAgg22 rfl ((show wq.cell? ⟨x.p,7,none⟩=some (Value.slice (some ⟨x.tb,0,none⟩) st.length st.length) from (h.1.1.blk.ext eq).cell 7))) (VQ.op (fun wq eq=>R.mvI rfl) (VQ.op (fun wq eq=>R.ixS Tryz.runUnderlying22 Tryz.sizeOf3 rfl rfl (by omega) (by omega) (h.1.1.t.sl.some (i:=v.toNat) (by omega))) (VQ.op (fun wq eq=>R.ld1 Tryz.isAgg3 rfl ((((h.1.1.t.sl.ext eq).row (i:=v.toNat) (by omega)).cell (i:=0) rfl))) (VQ.op (fun wq eq=>R.ld1 Tryz.isAgg3 rfl ((show wq.cell? ⟨b2,0,none⟩=some (Value.int .i64 k) from (h.2.ext eq).cell 0))) (VQ.op (fun wq eq=>R.neq rfl rfl) (VQ.op (fun wq eq=>R.asB rfl) (VQ.nil fun w1q e1q=>VL.nil (V.ret (fret1 (v:=.bool _) rfl rfl rfl (⟨?_,e1q⟩)))))))))))))))))))
 refine congrArg Value.bool ?_
 rw [←decide_not]
 exact decide_eq_decide.2 Iff.rfl
theorem are_spec (x:SvX) (st:List Int) (sa:Option Addr) (sc:Nat) (S:List St4) (a:Option Addr) (c:Nat) (l:List Int) (k:Int) (w:World) (h:SvOk x w st sa sc S) (hl:IntSl w a l) (hm:l.length≤1000000) (hr:∀ v∈l,0≤v∧v<(st.length:Int)) :
  RetsP Tryz.prog 75 #[.pointer (some ⟨x.p,0,none⟩),.slice a l.length c,.int .i64 k] w (.bool (areA st l k)):=by
 refine enter (args:=[_,_,_]) Tryz.func75 rfl Tryz.ntmps75 (by kernel_rfl) rfl ?_
 refine V.seq (V.region (VL.box (v:=.pointer _) rfl fun b0_0 w0_0 hb0_0 e0_0 hB0_0=>VL.box (v:=.int _ _) rfl fun b0_1 w0_1 hb0_1 e0_1 hB0_1=>VL.op (R.asB rfl) (VL.nil (V.seq (V.region (VL.op (R.mvS rfl) (VL.op (R.mkFn rfl rfl) (VL.callP Tryz.call34 rfl (containsM29 104 [] [.pointer (some ⟨b0_0,0,none⟩),.pointer (some ⟨b0_1,0,none⟩)] (fun v=>!decide (stA st v=k)) (ArS x st sa sc S b0_0 b0_1 k) a c l _ Tryz.call104 (fun w v h hv=>are1_spec x st sa sc S b0_0 b0_1 k v w h (hr v hv).1 (hr v hv).2) (fun w w' h e=>h.ext e) ⟨⟨h.ext (e0_0.trans e0_1),hB0_0.ext e0_1⟩,hB0_1⟩ (hl.ext (e0_0.trans e0_1)) hm) fun w1_2 e1_2=>VL.op (R.not rfl) (VL.op (R.asB rfl) (VL.nil (V.ret (fret1 (v:=.bool _) rfl rfl rfl (⟨?_,((e0_0.trans e0_1).trans e1_2)⟩)))))))))))))
 refine congrArg Value.bool ?_
 unfold areA
 rw [Bool.eq_iff_iff]
 simp
end Go.Proofs.YtjocoefpnboccaaGreatDoor

/- Solve: an edge that is in. -/
namespace Go.Proofs.YtjocoefpnboccaaGreatDoor
open Go.Vc
set_option maxRecDepth 100000
set_option maxHeartbeats 16000000
def SvX.ctx (x:SvX):PrfC:=⟨x.g.n,vals x.g.edges,x.W.map wyV,x.h,[]⟩
structure SvR (x:SvX) (N:Nat):Prop where
 n:x.g.n=(N:Int)
 N4:N≤4000
 E:∀ e∈vals x.g.edges,∀ v∈e,0≤v∧v<(N:Int)
 El:x.g.edges.length≤20000
 el:∀ e∈vals x.g.edges,e.length≤1000000
 eh:∀ y∈x.g.edges,y.a=none→y.c=0
 W:∀ y∈x.W,(∀ v∈y.p.l,0≤v∧v<(N:Int))∧∀ v∈y.n.l,0≤v∧v<(N:Int)
 Wl:x.W.length≤400
 wl:∀ y∈x.W,WLen y
 zl:x.z.length=N
 z:∀ v:Nat,v<N→(x.z.getD v default).l=adjK (vals x.g.edges) x.g.edges.length ((v:Nat):Int)
theorem SvR.edge {x:SvX} {N:Nat} (h:SvR x N) {i:Nat} (hi:i<x.g.edges.length):(vals x.g.edges).getD i default=(x.g.edges.getD i default).l∧(∀ v∈(x.g.edges.getD i default).l,0≤v∧v<(N:Int))∧(x.g.edges.getD i default).l.length≤1000000:=by
 have hm:(x.g.edges.getD i default).l∈vals x.g.edges:=List.mem_map_of_mem (gmem hi)
 exact ⟨gmap SlI.l x.g.edges default hi,h.E _ hm,h.el _ hm⟩
theorem SvR.adj {x:SvX} {N:Nat} (h:SvR x N) {v:Int} (h0:0≤v) (h1:v<(N:Int)):v.toNat<x.z.length∧(x.z.getD v.toNat default).l=adjK (vals x.g.edges) (vals x.g.edges).length v∧(x.z.getD v.toNat default).l.length≤20000:=by
 have hzl:=h.zl
 have hz:=h.z v.toNat (by omega)
 rw [show ((v.toNat:Nat):Int)=v by omega,show x.g.edges.length=(vals x.g.edges).length from (List.length_map _).symm] at hz
 refine ⟨by omega,hz,?_⟩
 rw [hz]
 have:=adjK_len (vals x.g.edges) (vals x.g.edges).length v
 have hE:=h.El
 rw [List.length_map] at this
 rw [List.length_map]
 omega
theorem SvR.adjat {x:SvX} {N:Nat} (h:SvR x N) {v:Int} (h0:0≤v) (h1:v<(N:Int)) {k:Nat} (hk:k<(x.z.getD v.toNat default).l.length):∃ i:Nat,i<x.g.edges.length∧(x.z.getD v.toNat default).l.getD k default=(i:Int)∧v∈(vals x.g.edges).getD i default:=by
 have hm:=gmem hk
 rw [(h.adj h0 h1).2.1] at hm
 obtain ⟨i,hi,hv,he⟩:=adjK_mem.1 hm
 rw [List.length_map] at hi
 rw [←(h.adj h0 h1).2.1] at he
 exact ⟨i,hi,he,hv⟩
theorem find_at {L:List Int} {p:Int→Bool} {k:Nat} (hk:k<L.length) (h:p (L.getD k default)=true) (hb:∀ j,j<k→p (L.getD j default)=false):L.find? p=some (L.getD k default):=by
 rw [List.find?_eq_some_iff_getElem]
 refine ⟨h,k,hk,(gget hk).symm,fun j hj=>?_⟩
 have:=hb j hj
 rw [gget (by omega)] at this
 rw [this];rfl
theorem find_no {L:List Int} {p:Int→Bool} (hb:∀ j,j<L.length→p (L.getD j default)=false):L.find? p=none:=by
 rw [List.find?_eq_none]
 intro x hx
 obtain ⟨i,hi,rfl⟩:=List.getElem_of_mem hx
 have:=hb i hi
 rw [gget hi] at this
 rw [this];decide
def clV (o:Option St4) (z:St4):Value:=.tuple #[.agg (encS4 z).toArray,.bool o.isSome]
def ClK (o:Option St4) (z:St4):Prop:=∀ y,o=some y→z=y
theorem clash_spec (x:SvX) (N:Nat) (l:Int) (st:List Int) (sa:Option Addr) (sc:Nat) (S:List St4) (w:World) (h:SvOk x w st sa sc S) (hR:SvR x N) (hst:st.length=N) (hl:l<(N:Int)) :
  RetsX Tryz.prog 53 #[.pointer (some ⟨x.p,0,none⟩),.int .i64 l] w (clV (clashS x.ctx st l)) (fun z _=>ClK (clashS x.ctx st l) z):=by
 have hn:=hR.n
 have hN4:=hR.N4
 refine enter (args:=[_,_]) Tryz.func53 rfl Tryz.ntmps53 (by kernel_rfl) rfl ?_
 have hno:(l<0∨stA st l≠1)→clashS x.ctx st l=none:=fun hc=>by unfold clashS;rw [if_pos hc]
 by_cases hl0:l<0
 ·rw [hno (.inl hl0)]
  refine V.seq (V.region (VL.alloc Tryz.zeroValue112 fun b0_0 w0_0 hb0_0 e0_0 hB0_0=>VL.op (R.asB rfl) (VL.nil (V.seq (V.seq (V.region (VL.op (R.mvI rfl) (VL.op (R.lit (R.lss rfl rfl) ((decide_eq_true hl0))) (VL.op (R.mvB rfl) (VL.gF rfl rfl (VL.gF rfl rfl (VL.gF rfl rfl (VL.gF rfl rfl (VL.gF rfl rfl (VL.gF rfl rfl (VL.gF rfl rfl (VL.gF rfl rfl (VL.op (R.pickTB rfl rfl) (VL.nil (V.condT rfl (V.seq (V.region (VL.op (R.build Tryz.zeroValue112 Tryz.runUnderlying112 pl112 rfl) (VL.store (v:=.agg _) Tryz.sizeOf112 rfl rfl rfl rfl hB0_0 rfl rfl fun w2 m2 hs2 hB2=>VL.op (R.asB rfl) (VL.nil (V.ret (fretCT (v:=.bool _) rfl rfl rfl rfl rfl Tryz.isAgg112 Tryz.sizeOf112 rfl (show RowAt _ _ _ (encS4 default) from hB2.rowAt 0 4) rfl (?_))))))))))))))))))))))))))))
  exact ⟨_,rfl,(fun y h=>nomatch h),e0_0.own m2 (Nat.le_of_eq hb0_0.symm)⟩
 ·by_cases hs:stA st l=1
  ·have hcl:clashS x.ctx st l=((adjK (vals x.g.edges) (vals x.g.edges).length l).find? fun i=>areA st ((vals x.g.edges).getD i.toNat default) 1).map fun i=>⟨2,i,0,0⟩:=by
    unfold clashS
    rw [if_neg (by
      rintro (h1 | h1);· exact hl0 h1
      ·exact h1 hs)]
    rfl
   obtain ⟨hzi,hzA,hzL⟩:=hR.adj (v:=l) (by omega) hl
   have hs':st.getD l.toNat default=1:=hs
   refine V.seq (V.region (VL.alloc Tryz.zeroValue112 fun b0_0 w0_0 hb0_0 e0_0 hB0_0=>VL.op (R.asB rfl) (VL.nil (V.seq (V.seq (V.region (VL.op (R.mvI rfl) (VL.op (R.lit (R.lss rfl rfl) ((decide_eq_false hl0))) (VL.op (R.mvB rfl) (VL.gT rfl rfl (VL.op (R.mvP rfl) (VL.gT rfl rfl (VL.op (R.nilCheck rfl) (VL.gT rfl rfl (VL.op (R.fld' (o:=7) Tryz.runUnderlying74 rfl rfl Tryz.sizeOf22 rfl rfl) (VL.gT rfl rfl (VL.op (R.ld1 Tryz.isAgg22 rfl ((show _=some (Value.slice (some ⟨x.tb,0,none⟩) st.length st.length) from (h.blk.ext e0_0).cell 7))) (VL.gT rfl rfl (VL.op (R.mvI rfl) (VL.gT rfl rfl (VL.op (R.ixS Tryz.runUnderlying22 Tryz.sizeOf3 rfl rfl (by omega) (by omega) ((h.t.sl.ext e0_0).some (i:=l.toNat) (by omega))) (VL.gT rfl rfl (VL.op (R.ld1 Tryz.isAgg3 rfl ((((h.t.sl.ext e0_0).row (i:=l.toNat) (by omega)).cell (i:=0) rfl))) (VL.gT rfl rfl (VL.op (R.lit (R.neq rfl rfl) ((decide_eq_false (fun hh=>hh hs')))) (VL.op (R.pickFB rfl rfl) (VL.nil (V.condF rfl (V.skip (V.seq (V.seq (?_))))))))))))))))))))))))))))))))
   have h0:=h.ext e0_0
   refine V.region (VL.op (R.mvP rfl) (VL.op (R.nilCheck rfl) (VL.op (R.fld' (o:=6) Tryz.runUnderlying74 rfl rfl Tryz.sizeOf23 rfl rfl) (VL.op (R.ld1 Tryz.isAgg23 rfl ((show _=some (Value.slice (some ⟨x.zb,0,none⟩) x.z.length x.z.length) from h0.blk.cell 6))) (VL.op (R.mvI rfl) (VL.op (R.ixS Tryz.runUnderlying23 Tryz.sizeOf22 rfl rfl (by omega) (by omega) (h0.z.sl.some (i:=l.toNat) hzi)) (VL.op (R.ld1 Tryz.isAgg22 rfl (((h0.z.sl.row (i:=l.toNat) hzi).cell (i:=0) rfl))) (VL.op (R.lenS Tryz.runUnderlying22 rfl) (VL.op (R.mvI rfl) (VL.nil (V.block (?_))))))))))))
   refine V.loop [0,4,27,28,29] (fun k:Nat=>[.pointer (some ⟨x.p,0,none⟩),.pointer (some ⟨b0_0,0,none⟩),.slice (x.z.getD l.toNat default).a (x.z.getD l.toNat default).l.length (x.z.getD l.toNat default).c,.int .i64 ((x.z.getD l.toNat default).l.length:Nat),.int .i64 (k:Nat)])
    (fun k w'=>k≤(x.z.getD l.toNat default).l.length∧(∀ j,j<k→areA st ((vals x.g.edges).getD ((x.z.getD l.toNat default).l.getD j default).toNat default) 1=false)∧Ext w0_0 w') (fun k=>(x.z.getD l.toNat default).l.length-k) 0 rfl ⟨Nat.zero_le _,fun j hj=>absurd hj (Nat.not_lt_zero j),Vc.Mod.refl _ _⟩ ?_
   rintro ρ k w1 ⟨hk,hf,e⟩
   have h1:=h0.ext e
   have hX:=hB0_0.ext e
   have hxi:IntSl w1 (x.z.getD l.toNat default).a (x.z.getD l.toNat default).l:=h1.z.at hzi
   refine V.seq (V.region (VL.op (R.lss rfl rfl) (VL.nil (V.seq (V.condP rfl (fun c30=>V.skip (V.seq (V.block (V.seq (?_))))) (fun c30=>V.exit (V.seq (?_))))))))
   ·have hkl:k<(x.z.getD l.toNat default).l.length:=by omega
    obtain ⟨i,hi,hid,hiv⟩:=hR.adjat (by omega) hl hkl
    obtain ⟨k1,k2,k3⟩:=hR.edge hi
    have hEl:=hR.El
    refine V.region (VL.op (R.ixS Tryz.runUnderlying22 Tryz.sizeOf3 rfl rfl (by omega) (by omega) ((hxi).some (i:=k) (by omega))) (VL.op (R.ld1 Tryz.isAgg3 rfl (((((hxi).ext (Mod.refl _ _)).row (i:=k) (by omega)).cell (i:=0) rfl))) (VL.op (R.asI rfl) (VL.nil (V.seq (?_))))))
    rw [hid]
    refine V.region (VL.op (R.mvP rfl) (VL.op (R.mvP rfl) (VL.op (R.nilCheck rfl) (VL.op (R.fld' (o:=0) Tryz.runUnderlying74 rfl rfl Tryz.sizeOf25 rfl rfl) (VL.op (R.fld' (o:=2) Tryz.runUnderlying25 rfl rfl Tryz.sizeOf23 rfl rfl) (VL.op (R.ld1 Tryz.isAgg23 rfl ((show _=some (Value.slice x.g.ea x.g.edges.length x.g.ec) from h1.blk.cell 2))) (VL.op (R.mvI rfl) (VL.op (R.ixS Tryz.runUnderlying23 Tryz.sizeOf22 rfl rfl (by omega) (by omega) (h1.g.e.sl.some (i:=i) hi)) (VL.op (R.ld1 Tryz.isAgg22 rfl (((h1.g.e.sl.row (i:=i) hi).cell (i:=0) rfl))) (VL.callP Tryz.call75 rfl (are_spec x st sa sc S (x.g.edges.getD i default).a (x.g.edges.getD i default).c (x.g.edges.getD i default).l 1 _ h1 (h1.g.e.at hi) k3 (by rw [hst];exact k2)) fun w6_9 e6_9=>VL.nil (V.cond rfl (fun c42=>V.seq (V.region (VL.op (R.mvI rfl) (VL.op (R.build Tryz.zeroValue112 Tryz.runUnderlying112 pl112 rfl) (VL.store (v:=.agg _) Tryz.sizeOf112 rfl rfl rfl rfl (hX.ext e6_9) rfl rfl fun w7 m7 hs7 hB7=>VL.op (R.asB rfl) (VL.nil (V.ret (fretCT (v:=.bool _) rfl rfl rfl rfl rfl Tryz.isAgg112 Tryz.sizeOf112 rfl (show RowAt _ _ _ (encS4 ⟨2,((i:Nat):Int),0,0⟩) from hB7.rowAt 0 4) rfl (?_))))))))) (fun c42=>V.skip (V.region (VL.op (R.add rfl rfl (by omega) (by omega)) (VL.op (R.mvI rfl) (VL.nil (⟨k+1,rfl,⟨by omega,fun j hj=>?_,e.trans e6_9⟩,by omega⟩)))))))))))))))))
    ·have:clashS x.ctx st l=some ⟨2,((i:Nat):Int),0,0⟩:=by
      rw [hcl,←hzA,find_at (p:=fun i=>areA st ((vals x.g.edges).getD i.toNat default) 1) hkl (by rw [hid,Int.toNat_natCast,k1];assumption) hf,hid];rfl
     rw [this]
     exact ⟨_,rfl,(fun y h=>by injection h),(e0_0.trans (e.trans e6_9)).own m7 (Nat.le_of_eq hb0_0.symm)⟩
    ·by_cases e2:j=k
     ·subst e2;rw [hid,Int.toNat_natCast,k1];assumption
     ·exact hf j (by omega)
   ·have hke:k=(x.z.getD l.toNat default).l.length:=by omega
    subst hke
    have:clashS x.ctx st l=none:=by
     rw [hcl,←hzA,find_no (p:=fun i=>areA st ((vals x.g.edges).getD i.toNat default) 1) hf];rfl
    rw [this]
    refine V.region (VL.op (R.build Tryz.zeroValue112 Tryz.runUnderlying112 pl112 rfl) (VL.store (v:=.agg _) Tryz.sizeOf112 rfl rfl rfl rfl hX rfl rfl fun w9 m9 hs9 hB9=>VL.op (R.asB rfl) (VL.nil (V.ret (fretCT (v:=.bool _) rfl rfl rfl rfl rfl Tryz.isAgg112 Tryz.sizeOf112 rfl (show RowAt _ _ _ (encS4 default) from hB9.rowAt 0 4) rfl (?_))))))
    exact ⟨_,rfl,(fun y h=>nomatch h),(e0_0.trans e).own m9 (Nat.le_of_eq hb0_0.symm)⟩
  ·rw [hno (.inr hs)]
   have hs':st.getD l.toNat default≠1:=hs
   refine V.seq (V.region (VL.alloc Tryz.zeroValue112 fun b0_0 w0_0 hb0_0 e0_0 hB0_0=>VL.op (R.asB rfl) (VL.nil (V.seq (V.seq (V.region (VL.op (R.mvI rfl) (VL.op (R.lit (R.lss rfl rfl) ((decide_eq_false hl0))) (VL.op (R.mvB rfl) (VL.gT rfl rfl (VL.op (R.mvP rfl) (VL.gT rfl rfl (VL.op (R.nilCheck rfl) (VL.gT rfl rfl (VL.op (R.fld' (o:=7) Tryz.runUnderlying74 rfl rfl Tryz.sizeOf22 rfl rfl) (VL.gT rfl rfl (VL.op (R.ld1 Tryz.isAgg22 rfl ((show _=some (Value.slice (some ⟨x.tb,0,none⟩) st.length st.length) from (h.blk.ext e0_0).cell 7))) (VL.gT rfl rfl (VL.op (R.mvI rfl) (VL.gT rfl rfl (VL.op (R.ixS Tryz.runUnderlying22 Tryz.sizeOf3 rfl rfl (by omega) (by omega) ((h.t.sl.ext e0_0).some (i:=l.toNat) (by omega))) (VL.gT rfl rfl (VL.op (R.ld1 Tryz.isAgg3 rfl ((((h.t.sl.ext e0_0).row (i:=l.toNat) (by omega)).cell (i:=0) rfl))) (VL.gT rfl rfl (VL.op (R.lit (R.neq rfl rfl) ((decide_eq_true hs'))) (VL.op (R.pickFB rfl rfl) (VL.nil (V.condT rfl (V.seq (V.region (VL.op (R.build Tryz.zeroValue112 Tryz.runUnderlying112 pl112 rfl) (VL.store (v:=.agg _) Tryz.sizeOf112 rfl rfl rfl rfl hB0_0 rfl rfl fun w2 m2 hs2 hB2=>VL.op (R.asB rfl) (VL.nil (V.ret (fretCT (v:=.bool _) rfl rfl rfl rfl rfl Tryz.isAgg112 Tryz.sizeOf112 rfl (show RowAt _ _ _ (encS4 default) from hB2.rowAt 0 4) rfl (?_))))))))))))))))))))))))))))))))))))
   exact ⟨_,rfl,(fun y h=>nomatch h),e0_0.own m2 (Nat.le_of_eq hb0_0.symm)⟩
end Go.Proofs.YtjocoefpnboccaaGreatDoor

/- Solve: a vertex that is out although nothing excludes it. -/
namespace Go.Proofs.YtjocoefpnboccaaGreatDoor
open Go.Vc
set_option maxRecDepth 100000
set_option maxHeartbeats 16000000
theorem adjA29 (E:List (List Int)) (v:Int) (F:List Int→Bool):((adjK E E.length v).any fun x=>F (E.getD x.toNat default))=E.any fun e=>decide (v∈e)&&F e:=by
 rw [Bool.eq_iff_iff,List.any_eq_true,List.any_eq_true]
 constructor
 ·rintro ⟨x,hx,h⟩
  obtain ⟨i,hi,hv,rfl⟩:=adjK_mem.1 hx
  rw [Int.toNat_natCast] at h
  exact ⟨_,gmem hi,by rw [decide_eq_true hv,h];rfl⟩
 ·rintro ⟨e,he,h⟩
  rw [Bool.and_eq_true,decide_eq_true_eq] at h
  obtain ⟨i,hi,rfl⟩:=List.getElem_of_mem he
  refine ⟨(i:Int),adjK_mem.2 ⟨i,hi,by rw [gget hi];exact h.1,rfl⟩,?_⟩
  rw [Int.toNat_natCast,gget hi];exact h.2
def excA (E:List (List Int)) (st:List Int) (v:Int) (L:List Int):Bool:=decide (stA st v≠2)||L.any fun i=>!((E.getD i.toNat default).any fun u=>decide (u≠v)&&decide (stA st u=2))
theorem exc_nil (E:List (List Int)) (st:List Int) (v:Int):excA E st v []=decide (stA st v≠2):=by unfold excA;rw [List.any_nil,Bool.or_false]
theorem exc_fr (E:List (List Int)) (st:List Int) (v:Int):(!excA E st v (adjK E E.length v))=(decide (stA st v=2)&&frA E st v):=by
 unfold excA frA
 rw [adjA29 E v fun e=>!(e.any fun u=>decide (u≠v)&&decide (stA st u=2)),Bool.eq_iff_iff]
 simp
 intro _
 exact ⟨fun h y hy=>Classical.or_iff_not_imp_left.2 fun hn=>h y hy (Classical.not_not.1 hn),fun h y hy hv=>(h y hy).resolve_left fun hn=>hn hv⟩
def FrS (x:SvX) (st:List Int) (sa:Option Addr) (sc:Nat) (S:List St4) (b1 b2:Nat) (v:Int) (w:World):Prop:=SvA x st sa sc S b1 w∧NuB w b2 v
theorem FrS.ext {x:SvX} {st:List Int} {sa:Option Addr} {sc:Nat} {S:List St4} {b1 b2:Nat} {v:Int} {w w':World} (h:FrS x st sa sc S b1 b2 v w) (e:Ext w w'):FrS x st sa sc S b1 b2 v w':=⟨h.1.ext e,h.2.ext e⟩
theorem free1_spec (x:SvX) (st:List Int) (sa:Option Addr) (sc:Nat) (S:List St4) (b1 b2:Nat) (v u:Int) (w:World) (h:FrS x st sa sc S b1 b2 v w) (h0:0≤u) (h1:u<(st.length:Int)) :
  RetsP Tryz.prog 76 #[.int .i64 u,.pointer (some ⟨b2,0,none⟩),.pointer (some ⟨b1,0,none⟩)] w (.bool (decide (u≠v)&&decide (stA st u=2))):=by
 refine enter (args:=[_,_,_]) Tryz.func76 rfl Tryz.ntmps76 (by kernel_rfl) rfl ?_
 refine V.seq (V.region (VL.op (R.asB rfl) (VL.nil (V.seq (V.region (VL.op (R.mvI rfl) (VL.op (R.ld1 Tryz.isAgg3 rfl ((show w.cell? ⟨b2,0,none⟩=some (Value.int .i64 v) from h.2.cell 0))) (VL.op (R.neq rfl rfl) (VL.op (R.mvB rfl) (VL.andP rfl rfl (fun g1_3=>VL.op (R.ld1 Tryz.isAgg67 rfl ((show w.cell? ⟨b1,0,none⟩=some (Value.pointer (some ⟨x.p,0,none⟩)) from h.1.2.cell 0))) (VL.gT rfl rfl (VL.op (R.nilCheck rfl) (VL.gT rfl rfl (VL.op (R.fld' (o:=7) Tryz.runUnderlying74 rfl rfl Tryz.sizeOf22 rfl rfl) (VL.gT rfl rfl (VL.op (R.ld1 Tryz.isAgg22 rfl ((show w.cell? ⟨x.p,7,none⟩=some (Value.slice (some ⟨x.tb,0,none⟩) st.length st.length) from h.1.1.blk.cell 7))) (VL.gT rfl rfl (VL.op (R.mvI rfl) (VL.gT rfl rfl (VL.op (R.ixS Tryz.runUnderlying22 Tryz.sizeOf3 rfl rfl (by omega) (by omega) (h.1.1.t.sl.some (i:=u.toNat) (by omega))) (VL.gT rfl rfl (VL.op (R.ld1 Tryz.isAgg3 rfl (((h.1.1.t.sl.row (i:=u.toNat) (by omega)).cell (i:=0) rfl))) (VL.gT rfl rfl (VL.op (R.eql rfl rfl) (VL.op (R.pickTB rfl rfl) (VL.op (R.asB rfl) (VL.nil (V.ret (fret1 (v:=.bool _) rfl rfl rfl (⟨?_,(Mod.refl _ _)⟩))))))))))))))))))))) (fun g1_3=>VL.gF rfl rfl (VL.gF rfl rfl (VL.gF rfl rfl (VL.gF rfl rfl (VL.gF rfl rfl (VL.gF rfl rfl (VL.gF rfl rfl (VL.op (R.pickFB rfl rfl) (VL.op (R.asB rfl) (VL.nil (V.ret (fret1 (v:=.bool _) rfl rfl rfl (⟨?_,(Mod.refl _ _)⟩)))))))))))))))))))))))
 all_goals (refine congrArg Value.bool ?_)
 ·rw [show decide (u≠v)=true from decide_eq_true g1_3,Bool.true_and];rfl
 ·rw [show decide (u≠v)=false from decide_eq_false g1_3,Bool.false_and]
theorem nearS_len {E:List (List Int)} {L:List Int} (hl:∀ e∈E,e.length≤1000000):(L.flatMap fun i=>E.getD i.toNat default).length≤1000000*L.length:=by
 induction L with
 | nil=>simp
 | cons i L ih =>
  rw [List.flatMap_cons,List.length_append,List.length_cons]
  have:(E.getD i.toNat default).length≤1000000:=by
   by_cases h:i.toNat<E.length
   ·exact hl _ (gmem h)
   ·rw [List.getD,List.getElem?_eq_none (by omega)];exact Nat.zero_le _
  omega
theorem sfree_spec (x:SvX) (N:Nat) (l:Int) (st:List Int) (sa:Option Addr) (sc:Nat) (S:List St4) (w:World) (h:SvOk x w st sa sc S) (hR:SvR x N) (hst:st.length=N) (hl:l<(N:Int)) :
  RetsX Tryz.prog 54 #[.pointer (some ⟨x.p,0,none⟩),.int .i64 l] w (clV (freeS x.ctx st l)) (fun z _=>ClK (freeS x.ctx st l) z):=by
 have hn:=hR.n
 have hN4:=hR.N4
 have hzl:=hR.zl
 refine enter (args:=[_,_]) Tryz.func54 rfl Tryz.ntmps54 (by kernel_rfl) rfl ?_
 have hno:(l<0∨stA st l≠2)→freeS x.ctx st l=none:=fun hc=>by unfold freeS;rw [if_pos hc]
 by_cases hl0:l<0
 ·rw [hno (.inl hl0)]
  refine V.seq (V.region (VL.box (v:=.pointer _) rfl fun b0_0 w0_0 hb0_0 e0_0 hB0_0=>VL.alloc Tryz.zeroValue112 fun b0_1 w0_1 hb0_1 e0_1 hB0_1=>VL.op (R.asB rfl) (VL.nil (V.seq (V.seq (V.region (VL.op (R.mvI rfl) (VL.op (R.lit (R.lss rfl rfl) ((decide_eq_true hl0))) (VL.op (R.mvB rfl) (VL.gF rfl rfl (VL.gF rfl rfl (VL.gF rfl rfl (VL.gF rfl rfl (VL.gF rfl rfl (VL.gF rfl rfl (VL.gF rfl rfl (VL.gF rfl rfl (VL.op (R.pickTB rfl rfl) (VL.nil (V.condT rfl (V.seq (V.region (VL.op (R.build Tryz.zeroValue112 Tryz.runUnderlying112 pl112 rfl) (VL.store (v:=.agg _) Tryz.sizeOf112 rfl rfl rfl rfl hB0_1 rfl rfl fun w2 m2 hs2 hB2=>VL.op (R.asB rfl) (VL.nil (V.ret (fretCT (v:=.bool _) rfl rfl rfl rfl rfl Tryz.isAgg112 Tryz.sizeOf112 rfl (show RowAt _ _ _ (encS4 default) from hB2.rowAt 0 4) rfl (?_))))))))))))))))))))))))))))
  exact ⟨_,rfl,(fun y h=>nomatch h),(e0_0.trans e0_1).own m2 (show w.heap.size≤b0_1 by have:=e0_0.size;omega)⟩
 ·by_cases hs:stA st l=2
  ·have hs':st.getD l.toNat default=2:=hs
   refine V.seq (V.region (VL.box (v:=.pointer _) rfl fun b0_0 w0_0 hb0_0 e0_0 hB0_0=>VL.alloc Tryz.zeroValue112 fun b0_1 w0_1 hb0_1 e0_1 hB0_1=>VL.op (R.asB rfl) (VL.nil (V.seq (V.seq (V.region (VL.op (R.mvI rfl) (VL.op (R.lit (R.lss rfl rfl) ((decide_eq_false hl0))) (VL.op (R.mvB rfl) (VL.gT rfl rfl (VL.op (R.ld1 Tryz.isAgg67 rfl (((hB0_0.ext e0_1).cell _))) (VL.gT rfl rfl (VL.op (R.nilCheck rfl) (VL.gT rfl rfl (VL.op (R.fld' (o:=7) Tryz.runUnderlying74 rfl rfl Tryz.sizeOf22 rfl rfl) (VL.gT rfl rfl (VL.op (R.ld1 Tryz.isAgg22 rfl ((show _=some (Value.slice (some ⟨x.tb,0,none⟩) st.length st.length) from (h.blk.ext (e0_0.trans e0_1)).cell 7))) (VL.gT rfl rfl (VL.op (R.mvI rfl) (VL.gT rfl rfl (VL.op (R.ixS Tryz.runUnderlying22 Tryz.sizeOf3 rfl rfl (by omega) (by omega) ((h.t.sl.ext (e0_0.trans e0_1)).some (i:=l.toNat) (by omega))) (VL.gT rfl rfl (VL.op (R.ld1 Tryz.isAgg3 rfl ((((h.t.sl.ext (e0_0.trans e0_1)).row (i:=l.toNat) (by omega)).cell (i:=0) rfl))) (VL.gT rfl rfl (VL.op (R.lit (R.neq rfl rfl) ((decide_eq_false (fun hh=>hh hs')))) (VL.op (R.pickFB rfl rfl) (VL.nil (V.condF rfl (V.skip (V.seq (?_)))))))))))))))))))))))))))))))
   have h0:=h.ext (e0_0.trans e0_1)
   have hb0:PtV w0_1 b0_0 x:=hB0_0.ext e0_1
   have hfr:freeS x.ctx st l=((nearS (vals x.g.edges) l).find? fun v=>decide (stA st v=2)&&frA (vals x.g.edges) st v).map fun v=>⟨3,v,0,0⟩:=by
    unfold freeS
    rw [if_neg (by
      rintro (h1 | h1);· exact hl0 h1
      ·exact h1 hs)]
    rfl
   have hnr:∀ v∈nearS (vals x.g.edges) l,0≤v∧v<(N:Int):=fun v hv=>by
    rcases nearS_mem.1 hv with rfl | ⟨e,he,_,hu⟩
    ·exact ⟨by omega,hl⟩
    ·exact hR.E e he v hu
   obtain ⟨hzi,hzA,hzL⟩:=hR.adj (v:=l) (by omega) hl
   obtain ⟨A,hA⟩:∃ A,A=(x.z.getD l.toNat default).l:=⟨_,rfl⟩
   have hnl:∀ L:List Int,L.length≤20000→(l :: L.flatMap fun i=>(vals x.g.edges).getD i.toNat default).length≤20000000001:=fun L hL=>by
    have:=nearS_len (L:=L) hR.el
    rw [List.length_cons];omega
   refine V.region (VL.op (R.mvI rfl) (VL.buildSl Tryz.runUnderlying22 Tryz.sizeOf3 Tryz.zeroValue3 rfl rfl rfl fun b3_1 w3_1 hb3_1 e3_1 hB3_1=>VL.op (R.asS rfl) (VL.nil (V.seq (V.seq (?_))))))
   have h3:=h0.ext e3_1
   have E3:Ext w w3_1:=(e0_0.trans e0_1).trans e3_1
   have hO3:OwnT Vc.encI 1 3 w0_1.heap.size w3_1 (some ⟨b3_1,0,none⟩) 1 [l]:=OwnT.of1 Vc.encI 1 l hB3_1 (Nat.le_of_eq hb3_1.symm) rfl rfl
   refine V.region (VL.op (R.ld1 Tryz.isAgg67 rfl (((hb0.ext e3_1).cell 0))) (VL.op (R.nilCheck rfl) (VL.op (R.fld' (o:=6) Tryz.runUnderlying74 rfl rfl Tryz.sizeOf23 rfl rfl) (VL.op (R.ld1 Tryz.isAgg23 rfl ((show _=some (Value.slice (some ⟨x.zb,0,none⟩) x.z.length x.z.length) from h3.blk.cell 6))) (VL.op (R.mvI rfl) (VL.op (R.ixS Tryz.runUnderlying23 Tryz.sizeOf22 rfl rfl (by omega) (by omega) (h3.z.sl.some (i:=l.toNat) hzi)) (VL.op (R.ld1 Tryz.isAgg22 rfl (((h3.z.sl.row (i:=l.toNat) hzi).cell (i:=0) rfl))) (VL.op (R.lenS Tryz.runUnderlying22 rfl) (VL.op (R.mvI rfl) (VL.nil (V.block (?_))))))))))))
   have hA':=hA
   rw [←hA] at hzA hzL
   refine V.loop [2,4,6,35,36,37] (fun z:Nat×SlI=>[.pointer (some ⟨b0_0,0,none⟩),.pointer (some ⟨b0_1,0,none⟩),.slice z.2.a z.2.l.length z.2.c,.slice (x.z.getD l.toNat default).a A.length (x.z.getD l.toNat default).c,.int .i64 (A.length:Nat),.int .i64 (z.1:Nat)])
    (fun z w'=>z.1≤A.length∧OwnT Vc.encI 1 3 w0_1.heap.size w' z.2.a z.2.c z.2.l∧z.2.l=l :: (A.take z.1).flatMap (fun i=>(vals x.g.edges).getD i.toNat default)∧Ext w0_1 w') (fun z=>A.length-z.1) (0,⟨some ⟨b3_1,0,none⟩,1,[l]⟩) (by subst hA;rfl) ⟨Nat.zero_le _,hO3,by simp,e3_1⟩ ?_
   rintro ρ ⟨k,y⟩ w1 ⟨hk,ho,hy,e⟩
   dsimp only at hk ho hy e ⊢
   have h1:=h0.ext e
   have hxi:IntSl w1 (x.z.getD l.toNat default).a A:=by rw [hA];exact h1.z.at hzi
   refine V.seq (V.region (VL.op (R.lss rfl rfl) (VL.nil (V.seq (V.condP rfl (fun c38=>V.skip (V.seq (V.block (V.seq (?_))))) (fun c38=>V.exit (V.seq (V.seq (?_)))))))))
   ·have hkl:k<A.length:=by omega
    obtain ⟨i,hi,hid,hiv⟩:=hR.adjat (by omega) hl (hA▸hkl)
    rw [←hA] at hid
    obtain ⟨k1,k2,k3⟩:=hR.edge hi
    have hEl:=hR.El
    have hyl:=hnl (A.take k) (by rw [List.length_take];omega)
    rw [←hy] at hyl
    refine V.region (VL.op (R.ixS Tryz.runUnderlying22 Tryz.sizeOf3 rfl rfl (by omega) (by omega) ((hxi).some (i:=k) (by omega))) (VL.op (R.ld1 Tryz.isAgg3 rfl (((((hxi).ext (Mod.refl _ _)).row (i:=k) (by omega)).cell (i:=0) rfl))) (VL.op (R.asI rfl) (VL.nil (?_)))))
    rw [hid]
    refine V.region (VL.op (R.mvS rfl) (VL.op (R.ld1 Tryz.isAgg67 rfl (((hb0.ext e).cell 0))) (VL.op (R.nilCheck rfl) (VL.op (R.fld' (o:=0) Tryz.runUnderlying74 rfl rfl Tryz.sizeOf25 rfl rfl) (VL.op (R.fld' (o:=2) Tryz.runUnderlying25 rfl rfl Tryz.sizeOf23 rfl rfl) (VL.op (R.ld1 Tryz.isAgg23 rfl ((show _=some (Value.slice x.g.ea x.g.edges.length x.g.ec) from h1.blk.cell 2))) (VL.op (R.mvI rfl) (VL.op (R.ixS Tryz.runUnderlying23 Tryz.sizeOf22 rfl rfl (by omega) (by omega) (h1.g.e.sl.some (i:=i) hi)) (VL.op (R.ld1 Tryz.isAgg22 rfl (((h1.g.e.sl.row (i:=i) hi).cell (i:=0) rfl))) (VL.appendT el22 (fun _=>rfl) rfl (rfl) (ho) rfl (rfl) ((h1.g.e.at hi)) ((hR.eh _ (gmem hi))) (by omega) (by unfold maxLen;omega) (e.size) (show y.l.length+(x.g.edges.getD i default).l.length=(y.l++(x.g.edges.getD i default).l).length by rw [List.length_append]) fun a7 c7 w7 ho7 m7 hf7=>VL.op (R.asS rfl) (VL.nil (V.region (VL.op (R.add rfl rfl (by omega) (by omega)) (VL.op (R.mvI rfl) (VL.nil (?_))))))))))))))))
    refine ⟨(k+1,⟨a7,c7,y.l++(x.g.edges.getD i default).l⟩),rfl,⟨by dsimp only;omega,ho7,?_,e.ownA m7 ho.ge⟩,by dsimp only;omega⟩
    dsimp only
    rw [List.take_succ_eq_append_getElem hkl,List.flatMap_append,←List.cons_append,←hy,List.flatMap_cons,List.flatMap_nil,List.append_nil,←gget hkl,hid,Int.toNat_natCast,k1]
   ·have hke:k=A.length:=by omega
    subst hke
    rw [List.take_length,hzA] at hy
    change y.l=nearS (vals x.g.edges) l at hy
    have hyl:y.l.length≤20000000001:=by rw [hy,nearS,←hzA];exact hnl A hzL
    rw [←hy] at hfr hnr
    refine V.region (VL.op (R.mvS rfl) (VL.op (R.lenS Tryz.runUnderlying22 rfl) (VL.op (R.mvI rfl) (VL.nil (V.block (?_))))))
    refine V.loop [2,4,52,53,54] (fun k:Nat=>[.pointer (some ⟨b0_0,0,none⟩),.pointer (some ⟨b0_1,0,none⟩),.slice y.a y.l.length y.c,.int .i64 (y.l.length:Nat),.int .i64 (k:Nat)])
     (fun k w'=>k≤y.l.length∧(∀ j,j<k→(decide (stA st (y.l.getD j default)=2)&&frA (vals x.g.edges) st (y.l.getD j default))=false)∧Ext w1 w') (fun k=>y.l.length-k) 0 rfl ⟨Nat.zero_le _,fun j hj=>absurd hj (Nat.not_lt_zero j),Vc.Mod.refl _ _⟩ ?_
    rintro ρ k w2 ⟨hk2,hf,e2⟩
    have h2:=h1.ext e2
    have hb2:=(hb0.ext e).ext e2
    have hX2:=(hB0_1.ext e).ext e2
    refine V.seq (V.region (VL.op (R.lss rfl rfl) (VL.nil (V.seq (V.condP rfl (fun c55=>V.skip (V.seq (V.block (V.seq (?_))))) (fun c55=>V.exit (V.seq (?_))))))))
    ·have hkl:k<y.l.length:=by omega
     obtain ⟨hv0,hv1⟩:=hnr _ (gmem hkl)
     obtain ⟨v,hv⟩:∃ v,v=y.l.getD k default:=⟨_,rfl⟩
     rw [←hv] at hv0 hv1
     obtain ⟨hzi',hzA',hzL'⟩:=hR.adj hv0 hv1
     obtain ⟨D,hD⟩:∃ D,D=(x.z.getD v.toNat default).l:=⟨_,rfl⟩
     have hD':=hD
     rw [←hD] at hzA' hzL'
     refine V.region (VL.op (R.ixS Tryz.runUnderlying22 Tryz.sizeOf3 rfl rfl (by omega) (by omega) (((ho.sl.ext e2)).some (i:=k) (by omega))) (VL.op (R.ld1 Tryz.isAgg3 rfl ((((((ho.sl.ext e2)).ext (Mod.refl _ _)).row (i:=k) (by omega)).cell (i:=0) rfl))) (VL.allocSt (v:=.int _ _) Tryz.zeroValue3 Tryz.sizeOf3 rfl rfl rfl rfl rfl fun b11_2 w11_2 hb11_2 e11_2 hB11_2=>VL.nil (V.seq (?_)))))
     rw [←hv]
     have hB11v:NuB w11_2 b11_2 v:=by rw [hv];exact hB11_2
     have h3:=h2.ext e11_2
     have hb3:=hb2.ext e11_2
     refine V.regionQ mixed 9 (by kernel_rfl) rfl (fun w'=>Ext _ w') (Ext.drawn _) (VQ.op (fun wq eq=>R.ld1 Tryz.isAgg67 rfl ((show wq.cell? ⟨b0_0,0,none⟩=some (Value.pointer (some ⟨x.p,0,none⟩)) from (hb3.ext eq).cell 0))) (VQ.op (fun wq eq=>R.nilCheck rfl) (VQ.op (fun wq eq=>R.fld' (o:=7) Tryz.runUnderlying74 rfl rfl Tryz.sizeOf22 rfl rfl) (VQ.op (fun wq eq=>R.ld1 Tryz.isAgg22 rfl ((show wq.cell? ⟨x.p,7,none⟩=some (Value.slice (some ⟨x.tb,0,none⟩) st.length st.length) from (h3.blk.ext eq).cell 7))) (VQ.op (fun wq eq=>R.ld1 Tryz.isAgg3 rfl ((show wq.cell? ⟨b11_2,0,none⟩=some (Value.int .i64 v) from (hB11v.ext eq).cell 0))) (VQ.op (fun wq eq=>R.ixS Tryz.runUnderlying22 Tryz.sizeOf3 rfl rfl (by omega) (by omega) (h3.t.sl.some (i:=v.toNat) (by omega))) (VQ.op (fun wq eq=>R.ld1 Tryz.isAgg3 rfl ((((h3.t.sl.ext eq).row (i:=v.toNat) (by omega)).cell (i:=0) rfl))) (VQ.op (fun wq eq=>R.neq rfl rfl) (VQ.op (fun wq eq=>R.asB rfl) (VQ.nil fun w12q e12q=>VL.nil (V.seq (V.seq (?_)))))))))))))
     refine V.regionQ mixed 9 (by kernel_rfl) rfl (fun w'=>Ext _ w') (Ext.drawn _) (VQ.op (fun wq eq=>R.ld1 Tryz.isAgg67 rfl ((show wq.cell? ⟨b0_0,0,none⟩=some (Value.pointer (some ⟨x.p,0,none⟩)) from ((hb3.ext e12q).ext eq).cell 0))) (VQ.op (fun wq eq=>R.nilCheck rfl) (VQ.op (fun wq eq=>R.fld' (o:=6) Tryz.runUnderlying74 rfl rfl Tryz.sizeOf23 rfl rfl) (VQ.op (fun wq eq=>R.ld1 Tryz.isAgg23 rfl ((show wq.cell? ⟨x.p,6,none⟩=some (Value.slice (some ⟨x.zb,0,none⟩) x.z.length x.z.length) from ((h3.ext e12q).blk.ext eq).cell 6))) (VQ.op (fun wq eq=>R.ld1 Tryz.isAgg3 rfl ((show wq.cell? ⟨b11_2,0,none⟩=some (Value.int .i64 v) from ((hB11v.ext e12q).ext eq).cell 0))) (VQ.op (fun wq eq=>R.ixS Tryz.runUnderlying23 Tryz.sizeOf22 rfl rfl (by omega) (by omega) ((h3.ext e12q).z.sl.some (i:=v.toNat) hzi')) (VQ.op (fun wq eq=>R.ld1 Tryz.isAgg22 rfl (((((h3.ext e12q).z.sl.ext eq).row (i:=v.toNat) hzi').cell (i:=0) rfl))) (VQ.op (fun wq eq=>R.lenS Tryz.runUnderlying22 rfl) (VQ.op (fun wq eq=>R.mvI rfl) (VQ.nil fun w13q e13q=>VL.nil (V.block (?_))))))))))))
     have E13:Ext w2 w13q:=(e11_2.trans e12q).trans e13q
     have h4:=h2.ext E13
     have hb4:=hb2.ext E13
     have hX4:=hX2.ext E13
     have hv4:NuB w13q b11_2 v:=(hB11v.ext e12q).ext e13q
     refine V.loop [2,4,52,53,54,10,11,72,73,74] (fun j:Nat=>[.pointer (some ⟨b0_0,0,none⟩),.pointer (some ⟨b0_1,0,none⟩),.slice y.a y.l.length y.c,.int .i64 (y.l.length:Nat),.int .i64 (k:Nat),.pointer (some ⟨b11_2,0,none⟩),.bool (excA (vals x.g.edges) st v (D.take j)),.slice (x.z.getD v.toNat default).a D.length (x.z.getD v.toNat default).c,.int .i64 (D.length:Nat),.int .i64 (j:Nat)])
      (fun j w'=>j≤D.length∧Ext w13q w') (fun j=>D.length-j) 0 (by dsimp only;rw [List.take_zero,exc_nil];subst hD;rfl) ⟨Nat.zero_le _,Vc.Mod.refl _ _⟩ ?_
     rintro ρ j w5 ⟨hj,e5⟩
     have h5:=h4.ext e5
     have hb5:=hb4.ext e5
     have hX5:=hX4.ext e5
     have hv5:NuB w5 b11_2 v:=hv4.ext e5
     have hDi:IntSl w5 (x.z.getD v.toNat default).a D:=by rw [hD];exact h5.z.at hzi'
     refine V.seq (V.region (VL.op (R.lss rfl rfl) (VL.nil (V.seq (V.condP rfl (fun c75=>V.skip (V.seq (V.block (V.seq (?_))))) (fun c75=>V.exit (V.seq (?_))))))))
     ·have hjl:j<D.length:=by omega
      obtain ⟨i,hi,hid,hiv⟩:=hR.adjat hv0 hv1 (hD▸hjl)
      rw [←hD] at hid
      obtain ⟨k1,k2,k3⟩:=hR.edge hi
      have hEl:=hR.El
      have hnx:excA (vals x.g.edges) st v (D.take (j+1))=(excA (vals x.g.edges) st v (D.take j)||!(((x.g.edges.getD i default).l).any fun u=>decide (u≠v)&&decide (stA st u=2))):=by
       unfold excA
       rw [List.take_succ_eq_append_getElem hjl,List.any_append,List.any_cons,List.any_nil,Bool.or_false,←gget hjl,hid,Int.toNat_natCast,k1,Bool.or_assoc]
      refine V.region (VL.op (R.ixS Tryz.runUnderlying22 Tryz.sizeOf3 rfl rfl (by omega) (by omega) ((hDi).some (i:=j) (by omega))) (VL.op (R.ld1 Tryz.isAgg3 rfl (((((hDi).ext (Mod.refl _ _)).row (i:=j) (by omega)).cell (i:=0) rfl))) (VL.op (R.asI rfl) (VL.nil (?_)))))
      rw [hid]
      refine V.regionCut [11,78,79,80,81,82,83,84,85,86,87,88,89,90,91] 11 (.bool (excA (vals x.g.edges) st v (D.take (j+1)))) (fun w'=>Ext _ w') rfl (VL.op (R.mvB rfl) (VL.op (R.mvB rfl) (VL.or rfl rfl (fun g16_1=>VL.op (R.ld1 Tryz.isAgg67 rfl ((hb5.cell 0))) (VL.gT rfl rfl (VL.op (R.nilCheck rfl) (VL.gT rfl rfl (VL.op (R.fld' (o:=0) Tryz.runUnderlying74 rfl rfl Tryz.sizeOf25 rfl rfl) (VL.gT rfl rfl (VL.op (R.fld' (o:=2) Tryz.runUnderlying25 rfl rfl Tryz.sizeOf23 rfl rfl) (VL.gT rfl rfl (VL.op (R.ld1 Tryz.isAgg23 rfl ((show _=some (Value.slice x.g.ea x.g.edges.length x.g.ec) from h5.blk.cell 2))) (VL.gT rfl rfl (VL.op (R.mvI rfl) (VL.gT rfl rfl (VL.op (R.ixS Tryz.runUnderlying23 Tryz.sizeOf22 rfl rfl (by omega) (by omega) (h5.g.e.sl.some (i:=i) hi)) (VL.gT rfl rfl (VL.op (R.ld1 Tryz.isAgg22 rfl (((h5.g.e.sl.row (i:=i) hi).cell (i:=0) rfl))) (VL.gT rfl rfl (VL.op (R.mkFn rfl rfl) (VL.gT rfl rfl (VL.callP Tryz.call34 rfl (containsM29 76 [] [.pointer (some ⟨b11_2,0,none⟩),.pointer (some ⟨b0_0,0,none⟩)] (fun u=>decide (u≠v)&&decide (stA st u=2)) (FrS x st sa sc S b0_0 b11_2 v) (x.g.edges.getD i default).a (x.g.edges.getD i default).c (x.g.edges.getD i default).l _ Tryz.call76 (fun w u h hu=>free1_spec x st sa sc S b0_0 b11_2 v u w h (k2 u hu).1 (by rw [hst];exact (k2 u hu).2)) (fun w w' h e=>h.ext e) ⟨⟨h5,hb5⟩,hv5⟩ (h5.g.e.at hi) k3) fun w16_11 e16_11=>VL.gT rfl rfl (VL.op (R.not rfl) (VL.op (R.pickFB rfl rfl) (VL.op (R.asB rfl) (VL.nil ⟨rfl,cutB rfl ?_,e16_11⟩))))))))))))))))))))))) (fun g16_1=>VL.gF rfl rfl (VL.gF rfl rfl (VL.gF rfl rfl (VL.gF rfl rfl (VL.gF rfl rfl (VL.gF rfl rfl (VL.gF rfl rfl (VL.gF rfl rfl (VL.gF rfl rfl (VL.gF rfl rfl (VL.op (R.pickTB rfl rfl) (VL.op (R.asB rfl) (VL.nil ⟨rfl,cutB rfl ?_,Mod.refl _ _⟩)))))))))))))))) (fun rg16 w16c e16c=>V.region (VL.op (R.add rfl rfl (by omega) (by omega)) (VL.op (R.mvI rfl) (VL.nil (?_)))))
      ·rw [hnx,g16_1,Bool.false_or]
      ·rw [hnx,g16_1,Bool.true_or]
      ·exact ⟨j+1,rfl,⟨by omega,e5.trans e16c⟩,by omega⟩
     ·have hje:j=D.length:=by omega
      subst hje
      have hex:=exc_fr (vals x.g.edges) st v
      rw [←hzA'] at hex
      rw [List.take_length]
      refine V.region (VL.op (R.mvB rfl) (VL.op (R.not rfl) (VL.nil (V.cond rfl (fun c94=>V.seq (V.region (VL.op (R.ld1 Tryz.isAgg3 rfl ((hv5.cell 0))) (VL.op (R.build Tryz.zeroValue112 Tryz.runUnderlying112 pl112 rfl) (VL.store (v:=.agg _) Tryz.sizeOf112 rfl rfl rfl rfl hX5 rfl rfl fun w9 m9 hs9 hB9=>VL.op (R.asB rfl) (VL.nil (V.ret (fretCT (v:=.bool _) rfl rfl rfl rfl rfl Tryz.isAgg112 Tryz.sizeOf112 rfl (show RowAt _ _ _ (encS4 ⟨3,v,0,0⟩) from hB9.rowAt 0 4) rfl (?_))))))))) (fun c94=>V.skip (V.region (VL.op (R.add rfl rfl (by omega) (by omega)) (VL.op (R.mvI rfl) (VL.nil (?_))))))))))
      ·rw [c94] at hex
       have hfd:freeS x.ctx st l=some ⟨3,v,0,0⟩:=by
        rw [hfr,find_at (p:=fun v=>decide (stA st v=2)&&frA (vals x.g.edges) st v) hkl (by rw [←hv];exact hex.symm) hf,←hv];rfl
       rw [hfd]
       exact ⟨_,rfl,(fun y h=>by injection h),((e0_0.trans e0_1).trans (e.trans (e2.trans (E13.trans e5)))).own m9 (show w.heap.size≤b0_1 by have:=e0_0.size;omega)⟩
      ·refine ⟨k+1,rfl,⟨by omega,fun q hq=>?_,e2.trans (E13.trans e5)⟩,by omega⟩
       by_cases e9:q=k
       ·subst e9
        rw [←hv,←hex];exact c94
       ·exact hf q (by omega)
    ·have hke:k=y.l.length:=by omega
     subst hke
     have:freeS x.ctx st l=none:=by
      rw [hfr,find_no (p:=fun v=>decide (stA st v=2)&&frA (vals x.g.edges) st v) hf];rfl
     rw [this]
     refine V.region (VL.op (R.build Tryz.zeroValue112 Tryz.runUnderlying112 pl112 rfl) (VL.store (v:=.agg _) Tryz.sizeOf112 rfl rfl rfl rfl hX2 rfl rfl fun w9 m9 hs9 hB9=>VL.op (R.asB rfl) (VL.nil (V.ret (fretCT (v:=.bool _) rfl rfl rfl rfl rfl Tryz.isAgg112 Tryz.sizeOf112 rfl (show RowAt _ _ _ (encS4 default) from hB9.rowAt 0 4) rfl (?_))))))
     exact ⟨_,rfl,(fun y h=>nomatch h),((e0_0.trans e0_1).trans (e.trans e2)).own m9 (show w.heap.size≤b0_1 by have:=e0_0.size;omega)⟩
  ·rw [hno (.inr hs)]
   have hs':st.getD l.toNat default≠2:=hs
   refine V.seq (V.region (VL.box (v:=.pointer _) rfl fun b0_0 w0_0 hb0_0 e0_0 hB0_0=>VL.alloc Tryz.zeroValue112 fun b0_1 w0_1 hb0_1 e0_1 hB0_1=>VL.op (R.asB rfl) (VL.nil (V.seq (V.seq (V.region (VL.op (R.mvI rfl) (VL.op (R.lit (R.lss rfl rfl) ((decide_eq_false hl0))) (VL.op (R.mvB rfl) (VL.gT rfl rfl (VL.op (R.ld1 Tryz.isAgg67 rfl (((hB0_0.ext e0_1).cell _))) (VL.gT rfl rfl (VL.op (R.nilCheck rfl) (VL.gT rfl rfl (VL.op (R.fld' (o:=7) Tryz.runUnderlying74 rfl rfl Tryz.sizeOf22 rfl rfl) (VL.gT rfl rfl (VL.op (R.ld1 Tryz.isAgg22 rfl ((show _=some (Value.slice (some ⟨x.tb,0,none⟩) st.length st.length) from (h.blk.ext (e0_0.trans e0_1)).cell 7))) (VL.gT rfl rfl (VL.op (R.mvI rfl) (VL.gT rfl rfl (VL.op (R.ixS Tryz.runUnderlying22 Tryz.sizeOf3 rfl rfl (by omega) (by omega) ((h.t.sl.ext (e0_0.trans e0_1)).some (i:=l.toNat) (by omega))) (VL.gT rfl rfl (VL.op (R.ld1 Tryz.isAgg3 rfl ((((h.t.sl.ext (e0_0.trans e0_1)).row (i:=l.toNat) (by omega)).cell (i:=0) rfl))) (VL.gT rfl rfl (VL.op (R.lit (R.neq rfl rfl) ((decide_eq_true hs'))) (VL.op (R.pickFB rfl rfl) (VL.nil (V.condT rfl (V.seq (V.region (VL.op (R.build Tryz.zeroValue112 Tryz.runUnderlying112 pl112 rfl) (VL.store (v:=.agg _) Tryz.sizeOf112 rfl rfl rfl rfl hB0_1 rfl rfl fun w2 m2 hs2 hB2=>VL.op (R.asB rfl) (VL.nil (V.ret (fretCT (v:=.bool _) rfl rfl rfl rfl rfl Tryz.isAgg112 Tryz.sizeOf112 rfl (show RowAt _ _ _ (encS4 default) from hB2.rowAt 0 4) rfl (?_))))))))))))))))))))))))))))))))))))
   exact ⟨_,rfl,(fun y h=>nomatch h),(e0_0.trans e0_1).own m2 (show w.heap.size≤b0_1 by have:=e0_0.size;omega)⟩
end Go.Proofs.YtjocoefpnboccaaGreatDoor

/- Solve: ways that hold, ways that can hold. -/
namespace Go.Proofs.YtjocoefpnboccaaGreatDoor
open Go.Vc
set_option maxRecDepth 100000
set_option maxHeartbeats 16000000
structure IxW (f:WyI→Bool) (L:List WyI) (i:Int):Prop where
 r:(i=-1∧∀ j,j<L.length→f (L.getD j default)=false)∨∃ k:Nat,i=(k:Int)∧k<L.length∧f (L.getD k default)=true∧∀ j,j<k→f (L.getD j default)=false
theorem indexX_spec (g:FuncId) (Fv Cv:List Value) (f:WyI→Bool) (S:World→Prop) (a:Option Addr) (c:Nat) (L:List WyI) (w:World) (hfn:IsFn Tryz.prog g) (hdo:∀ w x,S w→x∈L→WyOk w x→RetsP Tryz.prog g (Fv++[Value.agg (encWy x).toArray]++Cv).toArray w (.bool (f x)))
  (hSe:∀ w w',S w→Ext w w'→S w') (h0:S w) (hL:WL w a L) (hm:L.length≤1000000) :
  RetsX Tryz.prog 27 #[.slice a L.length c,.func (.func g) Fv.toArray Cv.toArray] w (fun i:Int=>.int .i64 i) (fun i _=>IxW f L i):=by
 refine enter (args:=[_,_]) Tryz.func27 rfl Tryz.ntmps27 (by kernel_rfl) rfl ?_
 refine V.seq (V.region (VL.op (R.asI rfl) (VL.nil (V.seq (V.seq (V.region (VL.op (R.mvS rfl) (VL.op (R.lenS Tryz.runUnderlying26 rfl) (VL.op (R.mvI rfl) (VL.nil (V.block (?_))))))))))))
 refine V.loop [0,1,7,8] (fun k:Nat=>[.slice a L.length c,.func (.func g) Fv.toArray Cv.toArray,.int .i64 L.length,.int .i64 (k:Nat)])
  (fun k w'=>k≤L.length∧Ext w w'∧∀ i,i<k→f (L.getD i default)=false) (fun k=>L.length-k) 0 rfl ⟨Nat.zero_le _,Vc.Mod.refl _ _,fun i h=>absurd h (Nat.not_lt_zero i)⟩ ?_
 rintro ρ k w2 ⟨hk,e,hf⟩
 have hL2:=hL.ext e
 refine V.seq (V.region (VL.op (R.lss rfl rfl) (VL.nil (V.seq (V.condP rfl (fun c9=>V.skip (V.seq (V.block (V.seq (V.region (VL.op (R.mvI rfl) (VL.op (R.asI rfl) (VL.nil (V.seq (?_)))))))))) (fun c9=>V.exit (V.seq (?_))))))))
 ·have hkn:k<L.length:=by omega
  refine V.region (VL.op (R.mvF rfl) (VL.op (R.mvS rfl) (VL.op (R.mvI rfl) (VL.op (R.ixS Tryz.runUnderlying26 Tryz.sizeOf43 rfl rfl (by omega) (by omega) (hL2.sl.some (i:=k) hkn)) (VL.op (R.ldA Tryz.isAgg43 Tryz.sizeOf43 rfl rfl ((show RowAt _ _ _ (encWy (L.getD k default)) from (hL2.sl.row (i:=k) hkn))) rfl) (VL.callCP rfl (hfn) rfl (hdo w2 (L.getD k default) (hSe _ _ h0 e) (gmem hkn) (hL2.at hkn)) fun w4_5 e4_5=>VL.nil (V.cond rfl (fun c16=>V.seq (V.region (VL.op (R.mvI rfl) (VL.op (R.asI rfl) (VL.nil (V.ret (fret1 (v:=.int _ _) rfl rfl rfl (?_)))))))) (fun c16=>V.skip (V.region (VL.op (R.add rfl rfl (by omega) (by omega)) (VL.op (R.mvI rfl) (VL.nil (?_)))))))))))))
  ·exact ⟨(k:Int),rfl,⟨.inr ⟨k,rfl,hkn,by assumption,hf⟩⟩,e.trans e4_5⟩
  ·refine ⟨k+1,rfl,⟨by omega,e.trans e4_5,fun i hi=>?_⟩,by omega⟩
   by_cases h:i=k
   ·subst h;assumption
   ·exact hf i (by omega)
 ·have hkn:k=L.length:=by omega
  subst hkn
  refine V.region (VL.op (R.asI rfl) (VL.nil (V.ret (fret1 (v:=.int _ _) rfl rfl rfl (?_)))))
  exact ⟨-1,rfl,⟨.inl ⟨rfl,hf⟩⟩,e⟩
theorem way1_spec (x:SvX) (N:Nat) (st:List Int) (sa:Option Addr) (sc:Nat) (S:List St4) (b1:Nat) (y:WyI) (w:World) (h:SvA x st sa sc S b1 w) (hR:SvR x N) (hst:st.length=N) (hy:y∈x.W) (hyw:WyOk w y) :
  RetsP Tryz.prog 77 #[.agg (encWy y).toArray,.pointer (some ⟨b1,0,none⟩)] w (.bool (areA st y.p.l 1&&areA st y.n.l 2)):=by
 have hyl:=hR.wl y hy
 have hyr:=hR.W y hy
 refine enter (args:=[_,_]) Tryz.func77 rfl Tryz.ntmps77 (by kernel_rfl) rfl ?_
 refine V.seq (V.region (VL.box (v:=.agg _) rfl fun b0_0 w0_0 hb0_0 e0_0 hB0_0=>VL.op (R.asB rfl) (VL.nil (V.seq (V.region (VL.op (R.ld1 Tryz.isAgg67 rfl ((show _=some (Value.pointer (some ⟨x.p,0,none⟩)) from (h.2.ext e0_0).cell 0))) (VL.op (R.fld' (o:=0) Tryz.runUnderlying43 rfl rfl Tryz.sizeOf22 rfl rfl) (VL.op (R.ld1 Tryz.isAgg22 rfl ((hB0_0.cell 0))) (VL.callP Tryz.call75 rfl (are_spec x st sa sc S y.p.a y.p.c y.p.l 1 _ (h.1.ext e0_0) (hyw.p.ext e0_0) hyl.p (by rw [hst];exact hyr.1)) fun w1_3 e1_3=>VL.op (R.mvB rfl) (VL.and rfl rfl (fun g1_4=>VL.op (R.ld1 Tryz.isAgg67 rfl ((show _=some (Value.pointer (some ⟨x.p,0,none⟩)) from (h.2.ext (e0_0.trans e1_3)).cell 0))) (VL.gT rfl rfl (VL.op (R.fld' (o:=1) Tryz.runUnderlying43 rfl rfl Tryz.sizeOf22 rfl rfl) (VL.gT rfl rfl (VL.op (R.ld1 Tryz.isAgg22 rfl (((hB0_0.ext e1_3).cell 1))) (VL.gT rfl rfl (VL.callP Tryz.call75 rfl (are_spec x st sa sc S y.n.a y.n.c y.n.l 2 _ (h.1.ext (e0_0.trans e1_3)) (hyw.n.ext (e0_0.trans e1_3)) hyl.n (by rw [hst];exact hyr.2)) fun w1_8 e1_8=>VL.op (R.pickTB rfl rfl) (VL.op (R.asB rfl) (VL.nil (V.ret (fret1 (v:=.bool _) rfl rfl rfl (⟨?_,((e0_0.trans e1_3).trans e1_8)⟩)))))))))))) (fun g1_4=>VL.gF rfl rfl (VL.gF rfl rfl (VL.gF rfl rfl (VL.op (R.pickFB rfl rfl) (VL.op (R.asB rfl) (VL.nil (V.ret (fret1 (v:=.bool _) rfl rfl rfl (⟨?_,(e0_0.trans e1_3)⟩)))))))))))))))))))
 ·rw [g1_4,Bool.true_and]
 ·rw [g1_4,Bool.false_and]
theorem wayL (x:SvX) (st:List Int) (hh:x.h=false) {i:Nat} (hi:i<x.W.length):leafA x.ctx st ⟨4,(i:Int),0,0⟩=(areA st (x.W.getD i default).p.l 1&&areA st (x.W.getD i default).n.l 2):=by
 have hg:x.ctx.W.getD i default=wyV (x.W.getD i default):=gmap wyV x.W default hi
 have hl:x.ctx.W.length=x.W.length:=List.length_map _
 unfold leafA
 rw [if_neg (show ¬(4:Int)=2 by decide),if_neg (show ¬(4:Int)=3 by decide),if_pos rfl]
 dsimp only
 rw [show x.ctx.h=false from hh,decide_eq_true (by rw [hl];omega),Int.toNat_natCast,hg]
 rfl
theorem findN_at {n:Nat} {p:Nat→Bool} {k:Nat} (hk:k<n) (h:p k=true) (hb:∀ j,j<k→p j=false):(List.range n).find? p=some k:=by
 rw [List.find?_eq_some_iff_getElem]
 refine ⟨h,k,by simpa using hk,by simp,fun j hj=>?_⟩
 rw [List.getElem_range,hb j hj];rfl
theorem findN_no {n:Nat} {p:Nat→Bool} (hb:∀ j,j<n→p j=false):(List.range n).find? p=none:=by
 rw [List.find?_eq_none]
 intro i hi
 rw [hb i (List.mem_range.1 hi)];decide
theorem way_spec (x:SvX) (N:Nat) (l:Int) (st:List Int) (sa:Option Addr) (sc:Nat) (S:List St4) (w:World) (h:SvOk x w st sa sc S) (hR:SvR x N) (hst:st.length=N) :
  RetsX Tryz.prog 55 #[.pointer (some ⟨x.p,0,none⟩),.int .i64 l] w (clV (wayS x.ctx st)) (fun z _=>ClK (wayS x.ctx st) z):=by
 have hWl:=hR.Wl
 have hcl:x.ctx.W.length=x.W.length:=List.length_map _
 refine enter (args:=[_,_]) Tryz.func55 rfl Tryz.ntmps55 (by kernel_rfl) rfl ?_
 refine V.seq (V.region (VL.box (v:=.pointer _) rfl fun b0_0 w0_0 hb0_0 e0_0 hB0_0=>VL.alloc Tryz.zeroValue112 fun b0_1 w0_1 hb0_1 e0_1 hB0_1=>VL.op (R.asB rfl) (VL.nil (V.seq (V.seq (?_))))))
 have h0:=h.ext (e0_0.trans e0_1)
 have hb0:PtV w0_1 b0_0 x:=hB0_0.ext e0_1
 have hnb:w.heap.size≤b0_1:=by have:=e0_0.size;omega
 cases hh:x.h with
 | true =>
  have hno:wayS x.ctx st=none:=by unfold wayS;rw [if_pos (show x.ctx.h=true from hh)]
  rw [hno]
  refine V.region (VL.op (R.ld1 Tryz.isAgg67 rfl ((hb0.cell 0))) (VL.op (R.nilCheck rfl) (VL.op (R.fld' (o:=4) Tryz.runUnderlying74 rfl rfl Tryz.sizeOf4 rfl rfl) (VL.op (R.ld1 Tryz.isAgg4 rfl ((show w0_1.cell? ⟨x.p,4,none⟩=some (Value.bool true) from by rw [←hh];exact h0.blk.cell 4))) (VL.nil (V.condT rfl (V.seq (V.region (VL.op (R.build Tryz.zeroValue112 Tryz.runUnderlying112 pl112 rfl) (VL.store (v:=.agg _) Tryz.sizeOf112 rfl rfl rfl rfl hB0_1 rfl rfl fun w2 m2 hs2 hB2=>VL.op (R.asB rfl) (VL.nil (V.ret (fretCT (v:=.bool _) rfl rfl rfl rfl rfl Tryz.isAgg112 Tryz.sizeOf112 rfl (show RowAt _ _ _ (encS4 default) from hB2.rowAt 0 4) rfl (?_))))))))))))))
  exact ⟨_,rfl,(fun y h=>nomatch h),(e0_0.trans e0_1).own m2 hnb⟩
 | false =>
  refine V.region (VL.op (R.ld1 Tryz.isAgg67 rfl ((hb0.cell 0))) (VL.op (R.nilCheck rfl) (VL.op (R.fld' (o:=4) Tryz.runUnderlying74 rfl rfl Tryz.sizeOf4 rfl rfl) (VL.op (R.ld1 Tryz.isAgg4 rfl ((show w0_1.cell? ⟨x.p,4,none⟩=some (Value.bool false) from by rw [←hh];exact h0.blk.cell 4))) (VL.nil (V.condF rfl (V.skip (V.seq (V.region (VL.op (R.ld1 Tryz.isAgg67 rfl ((hb0.cell 0))) (VL.op (R.nilCheck rfl) (VL.op (R.fld' (o:=3) Tryz.runUnderlying74 rfl rfl Tryz.sizeOf26 rfl rfl) (VL.op (R.ld1 Tryz.isAgg26 rfl ((show _=some (Value.slice x.wa x.W.length x.wc) from h0.blk.cell 3))) (VL.op (R.mkFn rfl rfl) (VL.callX Tryz.call27 rfl (indexX_spec 77 [] [.pointer (some ⟨b0_0,0,none⟩)] (fun y=>areA st y.p.l 1&&areA st y.n.l 2) (SvA x st sa sc S b0_0) x.wa x.wc x.W _ Tryz.call77 (fun w y h hy hyw=>way1_spec x N st sa sc S b0_0 y w h hR hst hy hyw) (fun w w' h e=>h.ext e) ⟨h0,hb0⟩ h0.W (by omega)) fun i w3 h3 e3=>VL.op (R.asI rfl) (VL.nil (V.seq (?_))))))))))))))))))
  have hwy:wayS x.ctx st=((List.range x.W.length).find? fun i:Nat=>leafA x.ctx st ⟨4,(i:Int),0,0⟩).map fun i:Nat=>⟨4,(i:Int),0,0⟩:=by
   unfold wayS
   rw [if_neg (by rw [show x.ctx.h=false from hh];decide),hcl]
  have hX:=hB0_1.ext e3
  rcases h3.r with ⟨rfl,hf⟩ | ⟨k,rfl,hk,hfk,hf⟩
  ·have:wayS x.ctx st=none:=by
    rw [hwy,findN_no fun j hj=>?_];· rfl
    rw [wayL x st hh hj];exact hf j hj
   rw [this]
   refine V.region (VL.op (R.mvI rfl) (VL.op (R.max rfl rfl) (VL.op (R.build Tryz.zeroValue112 Tryz.runUnderlying112 pl112 rfl) (VL.op (R.mvI rfl) (VL.op (R.lit (R.geq rfl rfl) ((decide_eq_false (by omega)))) (VL.store (v:=.agg _) Tryz.sizeOf112 rfl rfl rfl rfl hX rfl rfl fun w4 m4 hs4 hB4=>VL.op (R.asB rfl) (VL.nil (V.ret (fretCT (v:=.bool _) rfl rfl rfl rfl rfl Tryz.isAgg112 Tryz.sizeOf112 rfl (show RowAt _ _ _ (encS4 ⟨4,0,0,0⟩) from hB4.rowAt 0 4) rfl (?_))))))))))
   exact ⟨_,rfl,(fun y h=>nomatch h),((e0_0.trans e0_1).trans e3).own m4 hnb⟩
  ·have:wayS x.ctx st=some ⟨4,(k:Int),0,0⟩:=by
    rw [hwy,findN_at hk (by rw [wayL x st hh hk];exact hfk) fun j hj=>?_];· rfl
    rw [wayL x st hh (by omega)];exact hf j hj
   rw [this]
   refine V.region (VL.op (R.mvI rfl) (VL.op (R.max rfl rfl) (VL.op (R.build Tryz.zeroValue112 Tryz.runUnderlying112 pl112 rfl) (VL.op (R.mvI rfl) (VL.op (R.lit (R.geq rfl rfl) ((decide_eq_true (by omega)))) (VL.store (v:=.agg _) Tryz.sizeOf112 rfl rfl rfl rfl hX rfl rfl fun w4 m4 hs4 hB4=>VL.op (R.asB rfl) (VL.nil (V.ret (fretCT (v:=.bool _) rfl rfl rfl rfl rfl Tryz.isAgg112 Tryz.sizeOf112 rfl (show RowAt _ _ _ (encS4 ⟨4,max (k:Int) 0,0,0⟩) from hB4.rowAt 0 4) rfl (?_))))))))))
   exact ⟨⟨4,max (k:Int) 0,0,0⟩,rfl,(fun y h=>by injection h with h;subst h;rw [show max (k:Int) 0=(k:Int) by omega]),((e0_0.trans e0_1).trans e3).own m4 hnb⟩
end Go.Proofs.YtjocoefpnboccaaGreatDoor

/- Solve: no way can hold. -/
namespace Go.Proofs.YtjocoefpnboccaaGreatDoor
open Go.Vc
set_option maxRecDepth 100000
set_option maxHeartbeats 16000000
theorem none11_spec (x:SvX) (st:List Int) (sa:Option Addr) (sc:Nat) (S:List St4) (b1:Nat) (v:Int) (w:World) (h:SvA x st sa sc S b1 w) (h0:0≤v) (h1:v<(st.length:Int)) :
  RetsP Tryz.prog 79 #[.int .i64 v,.pointer (some ⟨b1,0,none⟩)] w (.bool (decide (stA st v=2))):=by
 refine enter (args:=[_,_]) Tryz.func79 rfl Tryz.ntmps79 (by kernel_rfl) rfl ?_
 refine V.seq (V.region (VL.op (R.asB rfl) (VL.nil (V.seq (V.region (VL.op (R.ld1 Tryz.isAgg67 rfl ((h.2.cell 0))) (VL.op (R.nilCheck rfl) (VL.op (R.fld' (o:=7) Tryz.runUnderlying74 rfl rfl Tryz.sizeOf22 rfl rfl) (VL.op (R.ld1 Tryz.isAgg22 rfl ((show _=some (Value.slice (some ⟨x.tb,0,none⟩) st.length st.length) from h.1.blk.cell 7))) (VL.op (R.mvI rfl) (VL.op (R.ixS Tryz.runUnderlying22 Tryz.sizeOf3 rfl rfl (by omega) (by omega) (h.1.t.sl.some (i:=v.toNat) (by omega))) (VL.op (R.ld1 Tryz.isAgg3 rfl (((h.1.t.sl.row (i:=v.toNat) (by omega)).cell (i:=0) rfl))) (VL.op (R.eql rfl rfl) (VL.op (R.asB rfl) (VL.nil (V.ret (fret1 (v:=.bool _) rfl rfl rfl (⟨rfl,(Mod.refl _ _)⟩))))))))))))))))))
theorem none12_spec (x:SvX) (st:List Int) (sa:Option Addr) (sc:Nat) (S:List St4) (b1:Nat) (v:Int) (w:World) (h:SvA x st sa sc S b1 w) (h0:0≤v) (h1:v<(st.length:Int)) :
  RetsP Tryz.prog 80 #[.int .i64 v,.pointer (some ⟨b1,0,none⟩)] w (.bool (decide (stA st v=1))):=by
 refine enter (args:=[_,_]) Tryz.func80 rfl Tryz.ntmps80 (by kernel_rfl) rfl ?_
 refine V.seq (V.region (VL.op (R.asB rfl) (VL.nil (V.seq (V.region (VL.op (R.ld1 Tryz.isAgg67 rfl ((h.2.cell 0))) (VL.op (R.nilCheck rfl) (VL.op (R.fld' (o:=7) Tryz.runUnderlying74 rfl rfl Tryz.sizeOf22 rfl rfl) (VL.op (R.ld1 Tryz.isAgg22 rfl ((show _=some (Value.slice (some ⟨x.tb,0,none⟩) st.length st.length) from h.1.blk.cell 7))) (VL.op (R.mvI rfl) (VL.op (R.ixS Tryz.runUnderlying22 Tryz.sizeOf3 rfl rfl (by omega) (by omega) (h.1.t.sl.some (i:=v.toNat) (by omega))) (VL.op (R.ld1 Tryz.isAgg3 rfl (((h.1.t.sl.row (i:=v.toNat) (by omega)).cell (i:=0) rfl))) (VL.op (R.eql rfl rfl) (VL.op (R.asB rfl) (VL.nil (V.ret (fret1 (v:=.bool _) rfl rfl rfl (⟨rfl,(Mod.refl _ _)⟩))))))))))))))))))
theorem none1_spec (x:SvX) (N:Nat) (st:List Int) (sa:Option Addr) (sc:Nat) (S:List St4) (b1:Nat) (y:WyI) (w:World) (h:SvA x st sa sc S b1 w) (hR:SvR x N) (hst:st.length=N) (hy:y∈x.W) (hyw:WyOk w y) :
  RetsP Tryz.prog 78 #[.agg (encWy y).toArray,.pointer (some ⟨b1,0,none⟩)] w (.bool (!somA st y.p.l 2&&!somA st y.n.l 1)):=by
 have hyl:=hR.wl y hy
 have hyr:=hR.W y hy
 refine enter (args:=[_,_]) Tryz.func78 rfl Tryz.ntmps78 (by kernel_rfl) rfl ?_
 refine V.seq (V.region (VL.box (v:=.agg _) rfl fun b0_0 w0_0 hb0_0 e0_0 hB0_0=>VL.op (R.asB rfl) (VL.nil (V.seq (V.region (VL.op (R.fld' (o:=0) Tryz.runUnderlying43 rfl rfl Tryz.sizeOf22 rfl rfl) (VL.op (R.ld1 Tryz.isAgg22 rfl ((hB0_0.cell 0))) (VL.op (R.mkFn rfl rfl) (VL.callP Tryz.call34 rfl (containsM29 79 [] [.pointer (some ⟨b1,0,none⟩)] (fun v=>decide (stA st v=2)) (SvA x st sa sc S b1) y.p.a y.p.c y.p.l _ Tryz.call79 (fun w v h hv=>none11_spec x st sa sc S b1 v w h (hyr.1 v hv).1 (by rw [hst];exact (hyr.1 v hv).2)) (fun w w' h e=>h.ext e) (h.ext e0_0) (hyw.p.ext e0_0) hyl.p) fun w1_3 e1_3=>VL.op (R.not rfl) (VL.op (R.mvB rfl) (VL.and rfl rfl (fun g1_5=>VL.op (R.fld' (o:=1) Tryz.runUnderlying43 rfl rfl Tryz.sizeOf22 rfl rfl) (VL.gT rfl rfl (VL.op (R.ld1 Tryz.isAgg22 rfl (((hB0_0.ext e1_3).cell 1))) (VL.gT rfl rfl (VL.op (R.mkFn rfl rfl) (VL.gT rfl rfl (VL.callP Tryz.call34 rfl (containsM29 80 [] [.pointer (some ⟨b1,0,none⟩)] (fun v=>decide (stA st v=1)) (SvA x st sa sc S b1) y.n.a y.n.c y.n.l _ Tryz.call80 (fun w v h hv=>none12_spec x st sa sc S b1 v w h (hyr.2 v hv).1 (by rw [hst];exact (hyr.2 v hv).2)) (fun w w' h e=>h.ext e) (h.ext (e0_0.trans e1_3)) (hyw.n.ext (e0_0.trans e1_3)) hyl.n) fun w1_9 e1_9=>VL.gT rfl rfl (VL.op (R.not rfl) (VL.op (R.pickTB rfl rfl) (VL.op (R.asB rfl) (VL.nil (V.ret (fret1 (v:=.bool _) rfl rfl rfl (⟨?_,((e0_0.trans e1_3).trans e1_9)⟩)))))))))))))) (fun g1_5=>VL.gF rfl rfl (VL.gF rfl rfl (VL.gF rfl rfl (VL.gF rfl rfl (VL.op (R.pickFB rfl rfl) (VL.op (R.asB rfl) (VL.nil (V.ret (fret1 (v:=.bool _) rfl rfl rfl (⟨?_,(e0_0.trans e1_3)⟩)))))))))))))))))))))
 ·rw [show (!somA st y.p.l 2)=true from g1_5,Bool.true_and];rfl
 ·rw [show (!somA st y.p.l 2)=false from g1_5,Bool.false_and]
theorem noneL (x:SvX) (st:List Int):leafA x.ctx st ⟨5,0,0,0⟩=(x.h&&!(x.W.any fun y=>!somA st y.p.l 2&&!somA st y.n.l 1)):=by
 unfold leafA
 rw [if_neg (show ¬(5:Int)=2 by decide),if_neg (show ¬(5:Int)=3 by decide),if_neg (show ¬(5:Int)=4 by decide),if_pos rfl]
 dsimp only
 rw [decide_eq_true rfl,Bool.true_and]
 refine congrArg (x.h&&·) ?_
 show (x.W.map wyV).all _=_
 rw [List.all_map,Bool.eq_iff_iff,List.all_eq_true,Bool.not_eq_true',List.any_eq_false]
 refine forall_congr' fun y=>imp_congr_right fun _=>?_
 show (somA st y.p.l 2||somA st y.n.l 1)=true↔_
 cases somA st y.p.l 2 <;> cases somA st y.n.l 1 <;> decide
theorem none_spec (x:SvX) (N:Nat) (l:Int) (st:List Int) (sa:Option Addr) (sc:Nat) (S:List St4) (w:World) (h:SvOk x w st sa sc S) (hR:SvR x N) (hst:st.length=N) :
  RetsX Tryz.prog 56 #[.pointer (some ⟨x.p,0,none⟩),.int .i64 l] w (clV (noneS x.ctx st)) (fun z _=>ClK (noneS x.ctx st) z):=by
 have hWl:=hR.Wl
 refine enter (args:=[_,_]) Tryz.func56 rfl Tryz.ntmps56 (by kernel_rfl) rfl ?_
 refine V.seq (V.region (VL.box (v:=.pointer _) rfl fun b0_0 w0_0 hb0_0 e0_0 hB0_0=>VL.alloc Tryz.zeroValue112 fun b0_1 w0_1 hb0_1 e0_1 hB0_1=>VL.op (R.asB rfl) (VL.nil (V.seq (V.region (VL.op (R.mkFn rfl rfl) (VL.op (R.asF rfl) (VL.nil (V.seq (?_))))))))))
 have h0:=h.ext (e0_0.trans e0_1)
 have hb0:PtV w0_1 b0_0 x:=hB0_0.ext e0_1
 have hnb:w.heap.size≤b0_1:=by have:=e0_0.size;omega
 have hns:noneS x.ctx st=if (x.h&&!(x.W.any fun y=>!somA st y.p.l 2&&!somA st y.n.l 1))=true then some ⟨5,0,0,0⟩ else none:=by
  unfold noneS;rw [noneL]
 cases hh:x.h with
 | false =>
  rw [hh] at hns
  rw [hns]
  refine V.region (VL.op (R.build Tryz.zeroValue112 Tryz.runUnderlying112 pl112 rfl) (VL.op (R.ld1 Tryz.isAgg67 rfl ((hb0.cell 0))) (VL.op (R.nilCheck rfl) (VL.op (R.fld' (o:=4) Tryz.runUnderlying74 rfl rfl Tryz.sizeOf4 rfl rfl) (VL.op (R.ld1 Tryz.isAgg4 rfl ((show w0_1.cell? ⟨x.p,4,none⟩=some (Value.bool false) from by rw [←hh];exact h0.blk.cell 4))) (VL.op (R.mvB rfl) (VL.gF rfl rfl (VL.gF rfl rfl (VL.gF rfl rfl (VL.gF rfl rfl (VL.gF rfl rfl (VL.gF rfl rfl (VL.gF rfl rfl (VL.op (R.pickFB rfl rfl) (VL.store (v:=.agg _) Tryz.sizeOf112 rfl rfl rfl rfl hB0_1 rfl rfl fun w2 m2 hs2 hB2=>VL.op (R.asB rfl) (VL.nil (V.ret (fretCT (v:=.bool _) rfl rfl rfl rfl rfl Tryz.isAgg112 Tryz.sizeOf112 rfl (show RowAt _ _ _ (encS4 ⟨5,0,0,0⟩) from hB2.rowAt 0 4) rfl (?_)))))))))))))))))))
  exact ⟨⟨5,0,0,0⟩,rfl,(fun y h=>nomatch h),(e0_0.trans e0_1).own m2 hnb⟩
 | true =>
  rw [hh,Bool.true_and] at hns
  rw [hns]
  refine V.region (VL.op (R.build Tryz.zeroValue112 Tryz.runUnderlying112 pl112 rfl) (VL.op (R.ld1 Tryz.isAgg67 rfl ((hb0.cell 0))) (VL.op (R.nilCheck rfl) (VL.op (R.fld' (o:=4) Tryz.runUnderlying74 rfl rfl Tryz.sizeOf4 rfl rfl) (VL.op (R.ld1 Tryz.isAgg4 rfl ((show w0_1.cell? ⟨x.p,4,none⟩=some (Value.bool true) from by rw [←hh];exact h0.blk.cell 4))) (VL.op (R.mvB rfl) (VL.gT rfl rfl (VL.op (R.ld1 Tryz.isAgg67 rfl ((hb0.cell 0))) (VL.gT rfl rfl (VL.op (R.nilCheck rfl) (VL.gT rfl rfl (VL.op (R.fld' (o:=3) Tryz.runUnderlying74 rfl rfl Tryz.sizeOf26 rfl rfl) (VL.gT rfl rfl (VL.op (R.ld1 Tryz.isAgg26 rfl ((show _=some (Value.slice x.wa x.W.length x.wc) from h0.blk.cell 3))) (VL.gT rfl rfl (VL.op (R.mvF rfl) (VL.gT rfl rfl (VL.callP Tryz.call13 rfl (containsW_spec 78 [] [.pointer (some ⟨b0_0,0,none⟩)] (fun y=>!somA st y.p.l 2&&!somA st y.n.l 1) (SvA x st sa sc S b0_0) x.wa x.wc x.W w0_1 Tryz.call78 (fun w y h hy hyw=>none1_spec x N st sa sc S b0_0 y w h hR hst hy hyw) (fun w w' h e=>h.ext e) ⟨h0,hb0⟩ h0.W (by omega)) fun w2_11 e2_11=>VL.gT rfl rfl (VL.op (R.not rfl) (VL.op (R.pickTB rfl rfl) (VL.store (v:=.agg _) Tryz.sizeOf112 rfl rfl rfl rfl (hB0_1.ext e2_11) rfl rfl fun w2 m2 hs2 hB2=>VL.op (R.asB rfl) (VL.nil (V.ret (fretCT (v:=.bool _) rfl rfl rfl rfl rfl Tryz.isAgg112 Tryz.sizeOf112 rfl (show RowAt _ _ _ (encS4 ⟨5,0,0,0⟩) from hB2.rowAt 0 4) rfl (?_)))))))))))))))))))))))))
  refine ⟨⟨5,0,0,0⟩,?_,?_,((e0_0.trans e0_1).trans e2_11).own m2 hnb⟩
  ·unfold clV
   split <;> rename_i h9
   ·rw [h9];rfl
   ·rw [Bool.eq_false_iff.2 h9];rfl
  ·intro y hy
   split at hy
   ·injection hy
   ·cases hy
end Go.Proofs.YtjocoefpnboccaaGreatDoor
