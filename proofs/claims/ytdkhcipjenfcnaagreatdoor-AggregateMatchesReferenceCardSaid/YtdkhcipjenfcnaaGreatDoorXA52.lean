/- Aggregate: plain values at the head's examples. -/
import Derived.Test.YtdkhcipjenfcnaaGreatDoorXA49
namespace Go.Proofs.YtdkhcipjenfcnaaGreatDoor
set_option maxRecDepth 100000
set_option maxHeartbeats 16000000
open Go.Vc
def gP:Gr:=⟨3,[0,0,0],[[0,1],[1,2]]⟩
theorem srt31 {l:List Int} (h:l.Pairwise (· < ·)):srtF l=l:=List.mergeSort_of_pairwise (h.imp fun hab=>decide_eq_true (Int.le_of_lt hab))
theorem ext31 {ws:List Int} {g:Gr} {l:List Int} (h:((compsG g).map (minC ws g)).flatten=l) (hl:l.Pairwise (· < ·)):extG ws g=l:=by
 unfold extG uniC;rw [h];exact srt31 hl
theorem pC:confI gP.edges 3≤12:=by decide +kernel
theorem pk1:chkF gP [1,1,1] (-1000000000)=0:=by decide +kernel
theorem pk2:chkF gP [1,5,3] (-1000000000)=0:=by decide +kernel
theorem pk3:chkF gP [-1,0,1] (-1000000000)=0:=by decide +kernel
theorem pk4:chkF gP [1] (-1000000000)=1:=by decide +kernel
theorem pk5:chkF gP [3,2,1] 0=0:=by decide +kernel
theorem pl1:extG [1,1,1] gP=[1]:=ext31 (by decide +kernel) (by decide)
theorem ph1:extG (negW [1,1,1]) gP=[0,2]:=ext31 (by decide +kernel) (by decide)
theorem pl2:extG [1,5,3] gP=[0,2]:=ext31 (by decide +kernel) (by decide)
theorem ph2:extG (negW [1,5,3]) gP=[1]:=ext31 (by decide +kernel) (by decide)
theorem pl3:extG [-1,0,1] gP=[0,2]:=ext31 (by decide +kernel) (by decide)
theorem ph3:extG (negW [-1,0,1]) gP=[0,2]:=ext31 (by decide +kernel) (by decide)
theorem pf5:frG [3,2,1] gP=2:=by decide +kernel
theorem pt5:toG [3,2,1] gP=3:=by decide +kernel
end Go.Proofs.YtdkhcipjenfcnaaGreatDoor

/- Aggregate: the laws' path and is. -/
namespace Go.Vc
set_option maxRecDepth 100000
set_option maxHeartbeats 16000000
section
variable {P:Program} {ρ:Env} {w:World} {d:Option Tmp} {ty t:TypeId} {p:String} {af:Array Edge} {gd:Option (Nat×Bool)}
theorem yieldsR_sl {n e s:Nat} {z:Value} {parts:List (Nat×Operand)} {K:Value→World→Prop} (hu:∀ w,(underlying t).run P w=.ok (.slice e) w) (hs:∀ w,(sizeOf e).run P w=.ok s w)
  (hz:∀ w,(zeroValue e).run P w=.ok z w) (hzs:(Nat.beq z.cells.size s&&Nat.blt 0 s)=true) (hn:Nat.ble (n*s) 16777216=true) (hn0:Nat.blt 0 n=true)
  (hf:bldOk (fun i=>some (i*s,s)) (n*s) (parts.map fun p=>(p.1,tm ρ p.2))=true) {cs:Array Value} (hcs:(bld (fun i=>some (i*s,s)) (zrep z.cells.toList n) (parts.map fun p=>(p.1,tm ρ p.2))).toArray=cs)
  (hK:∀ b w',Blk w' b (.cells cs e (0,0))→w.heap.size≤b→Ext w w'→K (.slice (some ⟨b,0,none⟩) n n) w') :
  yieldsR P ρ { dst:=d,op:=.buildSlice t n parts.toArray,type:=ty,pos:=p,after:=af,guard:=gd } w K :=
 yieldsR_op (R.buildSl hu hs hz hzs hn hn0 hf) (by rw [hcs];exact hK _ _ (Blk.alloc _ _) (Nat.le_refl _) (Ext.alloc _ _))
end
end Go.Vc
namespace Go.Proofs.YtdkhcipjenfcnaaGreatDoor
open Go.Proofs.Tryz
set_option maxRecDepth 100000
set_option maxHeartbeats 16000000
open Go.Vc
structure GpR (g:GrW) (w:World):Prop where
 ok:GOk w g
 l:GLen g
 v:grV g=gP
theorem GpR.ext {g:GrW} {w w':World} (h:GpR g w) (e:Ext w w'):GpR g w':=⟨h.ok.ext e,h.l,h.v⟩
theorem path31_spec (w:World):RetsX prog 31 #[] w (fun g:GrW=>.agg (encGr g).toArray) GpR:=by
 refine eN (args:=[]) func31 rfl ntmps31 ?_
 refine Vs<|Vr<|VL.alloc zv25 fun b0_0 w0_0 hb0_0 e0_0 hB0_0=>Vn<|Vs<|Vr<|VL.buildSl ru22 sz3 zv3 rfl rfl rfl fun b1_0 w1_0 hb1_0 e1_0 hB1_0=>VL.buildSl ru22 sz3 zv3 rfl rfl rfl fun b1_1 w1_1 hb1_1 e1_1 hB1_1=>VL.buildSl ru22 sz3 zv3 rfl rfl rfl fun b1_2 w1_2 hb1_2 e1_2 hB1_2=>VL.buildSl ru23 sz22 zv22 rfl rfl rfl fun b1_3 w1_3 hb1_3 e1_3 hB1_3=>Vo (R.build zv25 ru25 pl25 rfl)<|VL.store (v:=.agg _) sz25 rfl rfl rfl rfl (hB0_0.ext (e1_0.trans (e1_1.trans (e1_2.trans e1_3)))) rfl rfl fun w2 m2 hs2 hB2=>Vn<|Vt (fretC rfl rfl rfl ag25 sz25 rfl (hB2.rowAt 0 3) rfl (?_))
 have m2':Vc.Mod (Vc.one b0_0) w1_3 w2:=m2
 have l0:=hB0_0.lt
 have z1:=e1_0.size;have z2:=e1_1.size;have z3:=e1_2.size
 have k0:=hb0_0
 have k1:∀ {b:Nat},w0_0.heap.size≤b→¬Vc.one b0_0 b:=fun h (e:_=b0_0)=>by omega
 refine ⟨⟨3,some ⟨b1_0,0,none⟩,3,[0,0,0],some ⟨b1_3,0,none⟩,2,[⟨some ⟨b1_1,0,none⟩,2,[0,1]⟩,⟨some ⟨b1_2,0,none⟩,2,[1,2]⟩]⟩,rfl,⟨⟨?_,?_⟩,?_,rfl⟩,?_⟩
 ·exact litI (l:=[0,0,0]) ((hB1_0.ext (e1_1.trans (e1_2.trans e1_3))).mod m2' (k1 (by omega))) rfl (by decide)
 ·exact litL ((hB1_3).mod m2' (k1 (by omega))) rfl (litA (litI (l:=[0,1]) ((hB1_1.ext (e1_2.trans e1_3)).mod m2' (k1 (by omega))) rfl (by decide)) (litA (litI (l:=[1,2]) ((hB1_2.ext e1_3).mod m2' (k1 (by omega))) rfl (by decide)) litA0))
 ·exact ⟨Nat.le_of_ble_eq_true rfl,Nat.le_of_ble_eq_true rfl,fun x hx=>⟨(litOk_iff (E:=[⟨some ⟨b1_1,0,none⟩,2,[0,1]⟩,⟨some ⟨b1_2,0,none⟩,2,[1,2]⟩]) rfl x hx).1,(litOk_iff (E:=[⟨some ⟨b1_1,0,none⟩,2,[0,1]⟩,⟨some ⟨b1_2,0,none⟩,2,[1,2]⟩]) rfl x hx).2.1⟩⟩
 ·exact (e0_0.trans (e1_0.trans (e1_1.trans (e1_2.trans e1_3)))).own m2' (by omega)
def GpU (u:Value) (w:World):Prop:=∃ g,u=.agg (encGr g).toArray∧GpR g w
theorem path_u (w:World):Rets prog 31 #[] w fun u w'=>GpU u w'∧Ext w w':=(path31_spec w).mono fun _ _ ⟨g,h1,h2,h3⟩=>⟨⟨g,h1,h2⟩,h3⟩
theorem SpOk.ext {B:Nat} {w w':World} {x:SpX} (h:SpOk B w x) (e:Ext w w'):SpOk B w' x:=⟨h.lo.ext e,h.hi.ext e,h.p.ext e,h.q.ext e⟩
theorem SumR.checked {g:Gr} {ws:List Int} {x:SpX} (h:SumR g ws x 0):checkG g ws x=true:=by
 have h0:chkF g ws (-1000000000)=0:=h.e.symm
 have hk:(validG g&&wtsB g ws (-1000000000))=true:=by
  cases hh:(validG g&&wtsB g ws (-1000000000)) with
  | true=>rfl
  | false=>rw [chk_one.2 hh] at h0;cases h0
 have hv:=(chk_zero h0).1
 have L1:=ext_least hv ws
 have L2:=ext_least hv (negW ws)
 unfold checkG
 rw [hk,h.lo rfl,h.hi rfl,(isB_iff hv).2 L1.rep,(isB_iff hv).2 L2.rep,(h.p rfl).1,(h.q rfl).1,decide_eq_true (by have:=h.fr rfl;rw [h.lo rfl] at this;exact this.symm),decide_eq_true (by have:=h.to rfl;rw [h.hi rfl] at this;exact this.symm)]
 rfl
theorem is31_spec (wa la ha:Option Addr) (wc lc hc:Nat) (ws lo hi:List Int) (fr to:Int) (B:Nat) (w:World) (hW:IntSl w wa ws) (hwl:ws.length≤1000000) (hL:IntSl w la lo) (hH:IntSl w ha hi) (hll:lo.length≤1000000) (hhl:hi.length≤1000000) (hB:B≤w.heap.size) (hT:TabW B w)
  (hk:chkF gP ws (-1000000000)=0) (hlo:extG ws gP=lo) (hhi:extG (negW ws) gP=hi) (hfr:totW ws lo=fr) (hto:totW ws hi=to) :
  RetsP prog 30 #[.slice wa ws.length wc,.int .i64 fr,.int .i64 to,.slice la lo.length lc,.slice ha hi.length hc] w (.bool true):=by
 refine eN (args:=[_,_,_,_,_]) func30 rfl ntmps30 ?_
 refine Vs<|Vr<|oA rfl<|Vn<|Vs<|Vr<|VL.callX call31 rfl (path31_spec _) fun g1 w1 h1 e1=>oS rfl<|VL.callX call13 rfl (sum31_spec g1 wa wc ws B w1 h1.ok h1.l (hW.ext e1) hwl (Nat.le_trans hB e1.size) (hT.ext hB e1) (fun _=>by rw [show g1.n=3 from congrArg Gr.n h1.v,h1.v];exact pC)) fun z w2 h2 e2=>Vo (R.mvT rfl)<|Vo (R.extr rfl rfl)<|Vo (R.extr rfl rfl)<|VL.allocSt (v:=.agg (encSp z.1).toArray) zv32 sz32 rfl rfl rfl rfl rfl fun b1_6 w1_6 hb1_6 e1_6 hB1_6=>oJ rfl<|Vn<|Vs (?_)
 obtain ⟨x,er⟩:=z
 obtain ⟨hx,hR⟩:=h2
 dsimp only at hx hR hB1_6 ⊢
 have her:er=0:=by rw [hR.e,h1.v];exact hk
 subst her
 have hX:Blk w1_6 b1_6 (.cells (encSp x).toArray 32 (0,0)):=hB1_6
 have hxi:=(hx.ext e1_6)
 have E1:Ext w w1_6:=e1.trans (e2.trans e1_6)
 have q1:x.lo.l=lo:=by rw [hR.lo rfl,h1.v,hlo]
 have q2:x.hi.l=hi:=by rw [hR.hi rfl,h1.v,hhi]
 have q3:x.fr=fr:=by rw [hR.fr rfl,q1,hfr]
 have q4:x.to=to:=by rw [hR.to rfl,q2,hto]
 have hn1:∀ y∈[x.lo,x.hi],y.l.length≤9223372036854775807:=fun y hy=>by
  rcases List.mem_cons.1 hy with e | e
  ·rw [e,q1];omega
  ·rw [List.mem_singleton.1 e,q2];omega
 have hn2:∀ y∈([⟨la,lc,lo⟩,⟨ha,hc,hi⟩]:List SlI),y.l.length≤9223372036854775807:=fun y hy=>by
  rcases List.mem_cons.1 hy with e | e
  ·rw [e];exact Nat.le_trans hll (Nat.le_of_ble_eq_true rfl)
  ·rw [List.mem_singleton.1 e];exact Nat.le_trans hhl (Nat.le_of_ble_eq_true rfl)
 have hck:checkG gP ws x=true:=by have:=SumR.checked hR;rwa [h1.v] at this
 refine V.regionD (T:=Ext) mixed 29 (by kernel_rfl) rfl (fun us=>VD.op (fun wq eq=>R.mvI rfl) (VD.op (fun wq eq=>R.lit (R.eql rfl rfl) (decide_eq_true rfl)) (VD.op (fun wq eq=>R.mvB rfl) (VD.gT rfl rfl (VD.op (fun wq eq=>R.fld' (o:=0) ru32 rfl rfl sz3 rfl rfl) (VD.gT rfl rfl (VD.op (fun wq eq=>rla ag3 rfl (show _=some (Value.int .i64 x.fr) from (hX.ext eq).cell 0)) (VD.gT rfl rfl (VD.op (fun wq eq=>R.mvI rfl) (VD.gT rfl rfl (VD.op (fun wq eq=>R.lit (R.eql rfl rfl) (decide_eq_true q3)) (VD.op (fun wq eq=>R.pickTB rfl rfl) (VD.op (fun wq eq=>R.mvB rfl) (VD.gT rfl rfl (VD.op (fun wq eq=>R.fld' (o:=1) ru32 rfl rfl sz3 rfl rfl) (VD.gT rfl rfl (VD.op (fun wq eq=>rla ag3 rfl (show _=some (Value.int .i64 x.to) from (hX.ext eq).cell 1)) (VD.gT rfl rfl (VD.op (fun wq eq=>R.mvI rfl) (VD.gT rfl rfl (VD.op (fun wq eq=>R.lit (R.eql rfl rfl) (decide_eq_true q4)) (VD.op (fun wq eq=>R.pickTB rfl rfl) (VD.op (fun wq eq=>R.mvB rfl) (VD.gT rfl rfl (VD.op (fun wq eq=>R.fld' (o:=2) ru32 rfl rfl sz22 rfl rfl) (VD.gT rfl rfl (VD.op (fun wq eq=>rla ag22 rfl (show _=some (Value.slice x.lo.a x.lo.l.length x.lo.c) from (hX.ext eq).cell 2)) (VD.gT rfl rfl (VD.op (fun wq eq=>R.fld' (o:=3) ru32 rfl rfl sz22 rfl rfl) (VD.gT rfl rfl (VD.op (fun wq eq=>rla ag22 rfl (show _=some (Value.slice x.hi.a x.hi.l.length x.hi.c) from (hX.ext eq).cell 3)) (VD.gT rfl rfl (VD.spec (fun _=>fun u w'=>∃ b,u=.slice (some ⟨b,0,none⟩) 2 2∧LL w' (some ⟨b,0,none⟩) [x.lo,x.hi]) (DepS.const _) (fun u a b _ ⟨b1,k1,k2⟩ eb=>⟨b1,k1,k2.ext eb⟩) rfl (fun wq eq hq=>yieldsR_sl ru23 sz22 zv22 rfl rfl rfl rfl rfl fun b w' hb _ he=>⟨⟨b,rfl,litL hb rfl (litA (c:=x.lo.c) (hxi.lo.sl.ext (eq.trans he)) (litA (c:=x.hi.c) (hxi.hi.sl.ext (eq.trans he)) litA0))⟩,he⟩) (VD.gT rfl rfl (VD.op (fun wq eq=>R.mvS rfl) (VD.gT rfl rfl (VD.op (fun wq eq=>R.mvS rfl) (VD.gT rfl rfl (VD.spec (fun _=>fun u w'=>∃ b,u=.slice (some ⟨b,0,none⟩) 2 2∧LL w' (some ⟨b,0,none⟩) [⟨la,lc,lo⟩,⟨ha,hc,hi⟩]) (DepS.const _) (fun u a b _ ⟨b1,k1,k2⟩ eb=>⟨b1,k1,k2.ext eb⟩) rfl (fun wq eq hq=>yieldsR_sl ru23 sz22 zv22 rfl rfl rfl rfl rfl fun b w' hb _ he=>⟨⟨b,rfl,litL hb rfl (litA (hL.ext (E1.trans (eq.trans he))) (litA (hH.ext (E1.trans (eq.trans he))) litA0))⟩,he⟩) (VD.gT rfl rfl (VD.callX (fun _=>fun u _=>u=.bool true) (DepS.const _) (fun u a b _ h eb=>h) call17 rfl (fun wq eq hq=>by
    obtain ⟨b1,k1,k2⟩:=hq 19 (by kernel_rfl)
    obtain ⟨b2,k3,k4⟩:=hq 22 (by kernel_rfl)
    rw [k1,k3]
    exact sets_is [x.lo,x.hi] [⟨la,lc,lo⟩,⟨ha,hc,hi⟩] _ _ 2 2 wq (by show [x.lo.l,x.hi.l]=[lo,hi];rw [q1,q2]) (Nat.le_of_ble_eq_true rfl) hn1 hn2 k2 k4) (VD.spec (fun _=>fun u _=>u=.bool true) (DepS.const _) (fun u a b _ h eb=>h) rfl (fun wq eq hq=>yieldsR_op (R.pickTB rfl (hq 23 (by kernel_rfl))) ⟨rfl,Turn.refl _⟩) (VD.spec (fun _=>fun u _=>u=.bool true) (DepS.const _) (fun u a b _ h eb=>h) rfl (fun wq eq hq=>yieldsR_op (R.mvB (hq 24 (by kernel_rfl))) ⟨rfl,Turn.refl _⟩) (VD.specG (fun _=>fun u w'=>GpU u w') (DepS.const _) (fun u a b _ ⟨g,k1,k2⟩ eb=>⟨g,k1,k2.ext eb⟩) (fun wq eq hq=>wanted_of rfl (hq 25 (by kernel_rfl))) (fun wq eq hq=>yieldsR_call call31 rfl (path_u wq)) (VD.specG (fun _=>fun u _=>u=.slice wa ws.length wc) (DepS.const _) (fun u a b _ h eb=>h) (fun wq eq hq=>wanted_of rfl (hq 25 (by kernel_rfl))) (fun wq eq hq=>yieldsR_op (R.mv rfl) ⟨rfl,Turn.refl _⟩) (VD.specG (fun _=>fun u _=>u=.agg (encSp x).toArray) (DepS.const _) (fun u a b _ h eb=>h) (fun wq eq hq=>wanted_of rfl (hq 25 (by kernel_rfl))) (fun wq eq hq=>yieldsR_op (R.ldA ag32 sz32 rfl rfl (show RowAt _ _ _ (encSp x) from (hX.ext eq).rowAt 0 6) rfl) ⟨rfl,Turn.refl _⟩) (VD.nil (fun w3 e3 h3=>?_)))))))))))))))))))))))))))))))))))))))))))))))) rfl
 have r25:us 25=.bool true:=h3 25
 obtain ⟨g3,r26,hg3⟩:=h3 26
 have r27:us 27=.slice wa ws.length wc:=h3 27
 have r28:us 28=.agg (encSp x).toArray:=h3 28
 rw [r25,r26,r27,r28]
 have hch:RetsP prog 20 #[.agg (encGr g3).toArray,.slice wa ws.length wc,.agg (encSp x).toArray] w3 (.bool true):=by
  have h:=check20_spec g3 wa wc ws x B w3 hg3.ok hg3.l (hW.ext (E1.trans e3)) hwl (SpOk.in (hxi.ext e3)) (by rw [q1];exact hll) (by rw [q2];exact hhl) (Nat.le_trans hB (E1.trans e3).size) (hT.ext hB (E1.trans e3))
  rwa [hg3.v,hck] at h
 refine lT<|Vp call20 rfl (hch) fun w2_29 e2_29=>oP rfl rfl<|oA rfl<|Vn<|Vt<|tB rfl rfl rfl (⟨rfl,(E1.trans e3).trans e2_29⟩)
theorem head31_spec (B:Nat) (w:World) (hB:B≤w.heap.size) (hT:TabW B w):RetsP prog 11 #[] w (.bool true):=by
 refine eN (args:=[]) func11 rfl ntmps11 ?_
 have his:∀ (b1 b2 b3:Nat) (ws lo hi:List Int) (fr to:Int) (w':World),Ext w w'→IntSl w' (some ⟨b1,0,none⟩) ws→IntSl w' (some ⟨b2,0,none⟩) lo→IntSl w' (some ⟨b3,0,none⟩) hi→ws.length≤10→lo.length≤10→hi.length≤10→chkF gP ws (-1000000000)=0→extG ws gP=lo→extG (negW ws) gP=hi→totW ws lo=fr→totW ws hi=to →
   RetsP prog 30 #[.slice (some ⟨b1,0,none⟩) ws.length ws.length,.int .i64 fr,.int .i64 to,.slice (some ⟨b2,0,none⟩) lo.length lo.length,.slice (some ⟨b3,0,none⟩) hi.length hi.length] w' (.bool true) :=
  fun b1 b2 b3 ws lo hi fr to w' e h1 h2 h3 l1 l2 l3 k1 k2 k3 k4 k5=>is31_spec _ _ _ _ _ _ ws lo hi fr to B w' h1 (by omega) h2 h3 (by omega) (by omega) (Nat.le_trans hB e.size) (hT.ext hB e) k1 k2 k3 k4 k5
 have hsum:∀ (g:GrW) (a:Option Addr) (c:Nat) (ws:List Int) (w':World),Ext w w'→GpR g w'→IntSl w' a ws→ws.length≤10→RetsX prog 13 #[.agg (encGr g).toArray,.slice a ws.length c] w' (fun z:SpX×Int=>.tuple #[.agg (encSp z.1).toArray,.int .i64 z.2]) (fun z w2=>SpOk w'.heap.size w2 z.1∧SumR gP ws z.1 z.2) :=
  fun g a c ws w' e hg hW hl=>(sum31_spec g a c ws B w' hg.ok hg.l hW (by omega) (Nat.le_trans hB e.size) (hT.ext hB e) (fun _=>by rw [show g.n=3 from congrArg Gr.n hg.v,hg.v];exact pC)).mono fun _ _ ⟨z,h1,⟨h2,h3⟩,h4⟩=>⟨z,h1,⟨h2,by rwa [hg.v] at h3⟩,h4⟩
 refine Vs<|Vr<|oA rfl<|Vn<|Vs<|Vr<|VL.buildSl ru22 sz3 zv3 rfl rfl rfl fun b1_0 w1_0 hb1_0 e1_0 hB1_0=>VL.buildSl ru22 sz3 zv3 rfl rfl rfl fun b1_1 w1_1 hb1_1 e1_1 hB1_1=>VL.buildSl ru22 sz3 zv3 rfl rfl rfl fun b1_2 w1_2 hb1_2 e1_2 hB1_2=>Vp call30 rfl (his b1_0 b1_1 b1_2 [1,1,1] [1] [0,2] 1 2 _ ((e1_0.trans e1_1).trans e1_2) ((litI (l:=[1,1,1]) hB1_0 rfl (by decide)).ext (e1_1.trans e1_2)) ((litI (l:=[1]) hB1_1 rfl (by decide)).ext e1_2) (litI (l:=[0,2]) hB1_2 rfl (by decide)) (by decide) (by decide) (by decide) pk1 pl1 ph1 (by decide) (by decide)) fun w1_3 e1_3=>oB rfl<|lT<|VL.buildSl ru22 sz3 zv3 rfl rfl rfl fun b1_5 w1_5 hb1_5 e1_5 hB1_5=>lT<|VL.buildSl ru22 sz3 zv3 rfl rfl rfl fun b1_6 w1_6 hb1_6 e1_6 hB1_6=>lT<|VL.buildSl ru22 sz3 zv3 rfl rfl rfl fun b1_7 w1_7 hb1_7 e1_7 hB1_7=>lT<|Vp call30 rfl (his b1_5 b1_6 b1_7 [1,5,3] [0,2] [1] 4 5 _ ((((((e1_0.trans e1_1).trans e1_2).trans e1_3).trans e1_5).trans e1_6).trans e1_7) ((litI (l:=[1,5,3]) hB1_5 rfl (by decide)).ext (e1_6.trans e1_7)) ((litI (l:=[0,2]) hB1_6 rfl (by decide)).ext e1_7) (litI (l:=[1]) hB1_7 rfl (by decide)) (by decide) (by decide) (by decide) pk2 pl2 ph2 (by decide) (by decide)) fun w1_8 e1_8=>oP rfl rfl<|oB rfl<|lT<|VL.buildSl ru22 sz3 zv3 rfl rfl rfl fun b1_11 w1_11 hb1_11 e1_11 hB1_11=>lT<|VL.buildSl ru22 sz3 zv3 rfl rfl rfl fun b1_12 w1_12 hb1_12 e1_12 hB1_12=>lT<|VL.buildSl ru22 sz3 zv3 rfl rfl rfl fun b1_13 w1_13 hb1_13 e1_13 hB1_13=>lT<|Vp call30 rfl (his b1_11 b1_12 b1_13 [-1,0,1] [0,2] [0,2] 0 0 _ ((((((((((e1_0.trans e1_1).trans e1_2).trans e1_3).trans e1_5).trans e1_6).trans e1_7).trans e1_8).trans e1_11).trans e1_12).trans e1_13) ((litI (l:=[-1,0,1]) hB1_11 rfl (by decide)).ext (e1_12.trans e1_13)) ((litI (l:=[0,2]) hB1_12 rfl (by decide)).ext e1_13) (litI (l:=[0,2]) hB1_13 rfl (by decide)) (by decide) (by decide) (by decide) pk3 pl3 ph3 (by decide) (by decide)) fun w1_14 e1_14=>oP rfl rfl<|oA rfl<|Vn<|Vs (?_)
 have E1:Ext w w1_14:=(e1_0.trans (e1_1.trans (e1_2.trans (e1_3.trans (e1_5.trans (e1_6.trans (e1_7.trans (e1_8.trans (e1_11.trans (e1_12.trans (e1_13.trans e1_14)))))))))))
 have hpeak:∀ (g:GrW) (a:Option Addr) (c:Nat) (ws:List Int) (w':World),Ext w w'→GpR g w'→IntSl w' a ws→ws.length≤10→RetsX prog 15 #[.agg (encGr g).toArray,.slice a ws.length c] w' (fun z:SpX×Int=>.tuple #[.agg (encSp z.1).toArray,.int .i64 z.2]) (fun z w2=>SpOk w'.heap.size w2 z.1∧PeakR gP ws z.1 z.2) :=
  fun g a c ws w' e hg hW hl=>(peak31_spec g a c ws B w' hg.ok hg.l hW (by omega) (Nat.le_trans hB e.size) (hT.ext hB e)).mono fun _ _ ⟨z,h1,⟨h2,h3⟩,h4⟩=>⟨z,h1,⟨h2,by rwa [hg.v] at h3⟩,h4⟩
 refine Vr<|VL.callX call31 rfl (path31_spec _) fun g2 w2a h2a e2a=>VL.buildSl ru22 sz3 zv3 rfl rfl rfl fun b2_1 w2_1 hb2_1 e2_1 hB2_1=>VL.callX call15 rfl (hpeak g2 (some ⟨b2_1,0,none⟩) 3 [3,2,1] w2_1 (E1.trans (e2a.trans e2_1)) (h2a.ext e2_1) (litI (l:=[3,2,1]) hB2_1 rfl (by decide)) (by decide)) fun z2 w2b h2b e2b=>Vo (R.mvT rfl)<|Vo (R.extr rfl rfl)<|Vo (R.extr rfl rfl)<|VL.allocSt (v:=.agg (encSp z2.1).toArray) zv32 sz32 rfl rfl rfl rfl rfl fun b2_6 w2_6 hb2_6 e2_6 hB2_6=>oJ rfl<|Vn<|Vs (?_)
 obtain ⟨x2,r2⟩:=z2
 obtain ⟨k2,j2⟩:=h2b
 dsimp only at k2 j2 hB2_6 ⊢
 have hr2:r2=0:=by rw [j2.e];exact pk5
 subst hr2
 have hX2:Blk w2_6 b2_6 (.cells (encSp x2).toArray 32 (0,0)):=hB2_6
 have E2:=E1.trans (e2a.trans (e2_1.trans (e2b.trans e2_6)))
 have f2:x2.fr=2:=by rw [j2.fr rfl];exact pf5
 have t2:x2.to=3:=by rw [j2.to rfl];exact pt5
 refine Vr<|VL.callX call31 rfl (path31_spec _) fun g3 w3a h3a e3a=>VL.buildSl ru22 sz3 zv3 rfl rfl rfl fun b3_1 w3_1 hb3_1 e3_1 hB3_1=>VL.callX call13 rfl (hsum g3 (some ⟨b3_1,0,none⟩) 3 [1,5,3] w3_1 (E2.trans (e3a.trans e3_1)) (h3a.ext e3_1) (litI (l:=[1,5,3]) hB3_1 rfl (by decide)) (by decide)) fun z3 w3b h3b e3b=>Vo (R.mvT rfl)<|Vo (R.extr rfl rfl)<|Vo (R.extr rfl rfl)<|VL.allocSt (v:=.agg (encSp z3.1).toArray) zv32 sz32 rfl rfl rfl rfl rfl fun b3_6 w3_6 hb3_6 e3_6 hB3_6=>oJ rfl<|Vn<|Vs (?_)
 obtain ⟨x3,r3⟩:=z3
 obtain ⟨k3,j3⟩:=h3b
 dsimp only at k3 j3 hB3_6 ⊢
 have hr3:r3=0:=by rw [j3.e];exact pk2
 subst hr3
 have hX3:Blk w3_6 b3_6 (.cells (encSp x3).toArray 32 (0,0)):=hB3_6
 have F3:=e3a.trans (e3_1.trans (e3b.trans e3_6))
 have E3:=E2.trans F3
 have k3':=k3.ext e3_6
 have hX2':=hX2.ext F3
 have q1:x3.lo.l=[0,2]:=by rw [j3.lo rfl];exact pl2
 have q2:x3.hi.l=[1]:=by rw [j3.hi rfl];exact ph2
 refine Vr<|Vo (R.fld' (o:=1) ru32 rfl rfl sz3 rfl rfl)<|VL.store (v:=.int _ _) sz3 rfl rfl rfl rfl hX3 rfl rfl fun w4 m4 hs4 hB4=>Vn<|Vs (?_)
 have m4':Vc.Mod (Vc.one b3_6) w3_6 w4:=m4
 have kb:=hb3_6
 have E34:Ext w3b w4:=e3_6.own m4' (by omega)
 have z3:=(e3a.trans (e3_1.trans e3b)).size
 have F4:Ext w2_6 w4:=F3.own m4' (by omega)
 have E4:=E2.trans F4
 have hX6:Blk w4 b3_6 (.cells (encSp { x3 with to:=6 }).toArray 32 (0,0)):=hB4
 have hX2'':=hX2.ext F4
 have k4:=k3.ext E34
 clear hX3 hX2' k3'
 refine Vr<|VL.callX call31 rfl (path31_spec _) fun g5 w5a h5a e5a=>VL.buildSl ru22 sz3 zv3 rfl rfl rfl fun b5_1 w5_1 hb5_1 e5_1 hB5_1=>VL.callX call13 rfl (hsum g5 (some ⟨b5_1,0,none⟩) 1 [1] w5_1 (E4.trans (e5a.trans e5_1)) (h5a.ext e5_1) (litI (l:=[1]) hB5_1 rfl (by decide)) (by decide)) fun z5 w5b h5b e5b=>Vo (R.mvT rfl)<|Vo (R.extr rfl rfl)<|Vo (R.extr rfl rfl)<|VL.allocSt (v:=.agg (encSp z5.1).toArray) zv32 sz32 rfl rfl rfl rfl rfl fun b5_6 w5_6 hb5_6 e5_6 hB5_6=>oJ rfl<|Vn<|Vs (?_)
 obtain ⟨x5,r5⟩:=z5
 obtain ⟨k5,j5⟩:=h5b
 dsimp only at k5 j5 hB5_6 ⊢
 have hr5:r5=1:=by rw [j5.e];exact pk4
 subst hr5
 have F5:=e5a.trans (e5_1.trans (e5b.trans e5_6))
 have E5:=E4.trans F5
 have hX6':=hX6.ext F5
 have hX2c:=hX2''.ext F5
 have k5':=k4.ext F5
 refine V.regionD (T:=Ext) mixed 19 (by kernel_rfl) rfl (fun us=>VD.op (fun wq eq=>R.mvB rfl) (VD.op (fun wq eq=>R.mvB rfl) (VD.gT rfl rfl (VD.op (fun wq eq=>R.mvI rfl) (VD.gT rfl rfl (VD.op (fun wq eq=>R.lit (R.eql rfl rfl) (decide_eq_true rfl)) (VD.op (fun wq eq=>R.pickTB rfl rfl) (VD.op (fun wq eq=>R.mvB rfl) (VD.gT rfl rfl (VD.op (fun wq eq=>R.fld' (o:=0) ru32 rfl rfl sz3 rfl rfl) (VD.gT rfl rfl (VD.op (fun wq eq=>rla ag3 rfl (show _=some (Value.int .i64 x2.fr) from (hX2c.ext eq).cell 0)) (VD.gT rfl rfl (VD.op (fun wq eq=>R.lit (R.eql rfl rfl) (decide_eq_true f2)) (VD.op (fun wq eq=>R.pickTB rfl rfl) (VD.op (fun wq eq=>R.mvB rfl) (VD.gT rfl rfl (VD.op (fun wq eq=>R.fld' (o:=1) ru32 rfl rfl sz3 rfl rfl) (VD.gT rfl rfl (VD.op (fun wq eq=>rla ag3 rfl (show _=some (Value.int .i64 x2.to) from (hX2c.ext eq).cell 1)) (VD.gT rfl rfl (VD.op (fun wq eq=>R.lit (R.eql rfl rfl) (decide_eq_true t2)) (VD.op (fun wq eq=>R.pickTB rfl rfl) (VD.op (fun wq eq=>R.mvB rfl) (VD.gT rfl rfl (VD.callX (fun _=>fun u w'=>GpU u w') (DepS.const _) (fun u a b _ ⟨g,k1,k2⟩ eb=>⟨g,k1,k2.ext eb⟩) call31 rfl (fun wq eq hq=>path_u wq) (VD.gT rfl rfl (VD.spec (fun _=>fun u w'=>∃ b,u=.slice (some ⟨b,0,none⟩) 3 3∧IntSl w' (some ⟨b,0,none⟩) [1,5,3]) (DepS.const _) (fun u a b _ ⟨b1,k1,k2⟩ eb=>⟨b1,k1,k2.ext eb⟩) rfl (fun wq eq hq=>yieldsR_sl ru22 sz3 zv3 rfl rfl rfl rfl rfl fun b w' hb _ he=>⟨⟨b,rfl,litI (l:=[1,5,3]) hb rfl (by decide)⟩,he⟩) (VD.gT rfl rfl (VD.op (fun wq eq=>R.ldA ag32 sz32 rfl rfl (show RowAt _ _ _ (encSp { x3 with to:=6 }) from (hX6'.ext eq).rowAt 0 6) rfl) (VD.nil (fun w6 e6 h6=>?_)))))))))))))))))))))))))))))))) rfl
 obtain ⟨g6,r16,hg6⟩:=h6 16
 obtain ⟨b6,r17,hl6⟩:=h6 17
 rw [r16,r17]
 have hch:RetsP prog 20 #[.agg (encGr g6).toArray,.slice (some ⟨b6,0,none⟩) 3 3,.agg (encSp { x3 with to:=6 }).toArray] w6 (.bool false):=by
  have k6:=SpOk.in (k5'.ext e6)
  have h:=check20_spec g6 (some ⟨b6,0,none⟩) 3 [1,5,3] { x3 with to:=6 } B w6 hg6.ok hg6.l hl6 (by decide) ⟨k6.lo,k6.hi,k6.p,k6.q⟩ (by show x3.lo.l.length≤_;rw [q1];decide) (by show x3.hi.l.length≤_;rw [q2];decide) (Nat.le_trans hB (E5.trans e6).size) (hT.ext hB (E5.trans e6))
  have hc:checkG (grV g6) [1,5,3] { x3 with to:=6 }=false:=by
   unfold checkG
   rw [show decide (totW [1,5,3] ({ x3 with to:=6 }:SpX).hi.l=({ x3 with to:=6 }:SpX).to)=false from by show decide (totW [1,5,3] x3.hi.l=6)=false;rw [q2];rfl]
   simp
  rwa [hc] at h
 refine lT<|Vp call20 rfl (hch) fun w6_19 e6_19=>lT<|Vo (R.not rfl)<|oP rfl rfl<|oB rfl<|lT<|oI rfl<|lT<|Vo (R.lit (R.eql rfl rfl) (decide_eq_true rfl))<|oP rfl rfl<|oA rfl<|Vn<|Vt<|tB rfl rfl rfl (⟨rfl,(E5.trans e6).trans e6_19⟩)
end Go.Proofs.YtdkhcipjenfcnaaGreatDoor
