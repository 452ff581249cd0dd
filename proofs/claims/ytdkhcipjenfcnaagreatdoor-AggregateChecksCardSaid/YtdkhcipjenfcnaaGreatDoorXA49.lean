/- Repair: the reference: all. -/
import Derived.Test.YtdkhcipjenfcnaaGreatDoorXA47
namespace Go.Proofs.YtdkhcipjenfcnaaGreatDoor
set_option maxRecDepth 100000
set_option maxHeartbeats 16000000
open Go.Vc Go.Proofs.Tryz
structure AlE (w:World) (x:SlI):Prop where
 s:IntSl w x.a x.l
 t:TyA w x.a 3
 h:x.a=none→x.c=0
theorem AlE.ext {w w':World} {x:SlI} (h:AlE w x) (e:Ext w w'):AlE w' x:=⟨h.s.ext e,h.t.ext e,h.h⟩
theorem AlE.mod {w w':World} {x:SlI} {a:Option Addr} (h:AlE w x) (ht:TyA w a 22) (m:Vc.Mod (aBlk a) w w'):AlE w' x:=by
 have key:∀ k,aBlk x.a k→¬aBlk a k:=fun k hk hk2=>by
  obtain ⟨ad,ha,hb⟩:=hk2
  obtain ⟨c,z,hB⟩:=ht ad ha
  exact h.t.apart (hb▸hB) (by decide) hk
 exact ⟨h.s.mod m fun ad e=>key _ ⟨ad,e,rfl⟩,h.t.mod m key,h.h⟩
structure AlR (B:Nat) (w:World) (y:List SlI×Option Addr×Nat) (L:List (List Int)):Prop where
 o:OwnT encSl 1 22 B w y.2.1 y.2.2 y.1
 e:∀ x∈y.1,AlE w x
 v:vals y.1=L
theorem AlR.ext {B:Nat} {w w':World} {y:List SlI×Option Addr×Nat} {L:List (List Int)} (h:AlR B w y L) (e:Ext w w'):AlR B w' y L:=⟨h.o.ext e,fun x hx=>(h.e x hx).ext e,h.v⟩
theorem AlR.nil (B:Nat) (w:World):AlR B w ([],none,0) []:=⟨OwnT.nil _ _ _ _ _,fun _ h=>(nomatch h),rfl⟩
theorem AlR.len {B:Nat} {w:World} {y:List SlI×Option Addr×Nat} {L:List (List Int)} (h:AlR B w y L):y.1.length=L.length:=by rw [←h.v];exact (List.length_map _).symm
structure PeakR (g:Gr) (ws:List Int) (x:SpX) (er:Int):Prop where
 e:er=chkF g ws 0
 no:er≠0→x=spZ
 lo:er=0→x.lo.l=lowG ws g
 hi:er=0→x.hi.l=highG ws g
 fr:er=0→x.fr=frG ws g
 to:er=0→x.to=toG ws g
 p:x.P=[]
 q:x.Q=[]
theorem run2 (ws:List Int) (x:SpX) (L:List (List Int)):runF (pk2F ws x) () L=((),L.find? (lowP ws x.fr)):=runF_unit (lowP ws x.fr) L
theorem run4 (ws:List Int) (x:SpX) (L:List (List Int)):runF (pk4F ws x) () L=((),L.find? (topP ws x.to)):=runF_unit (topP ws x.to) L
theorem run3 (L:List (List Int)):runF pk3F () L=((),L.find? anyP):=runF_unit anyP L
def catF (F:List Int→List Int) (g:Gr) (k:Nat):List Int:=(((compsG g).take k).map F).flatten
theorem catF_succ {F:List Int→List Int} {g:Gr} {k:Nat} (h:k<(compsG g).length):catF F g (k+1)=catF F g k++F ((compsG g).getD k default):=by
 unfold catF
 rw [List.take_succ_eq_append_getElem h,List.map_append,List.flatten_append,gget h]
 simp
theorem catF_all {F:List Int→List Int} {g:Gr}:srtF (catF F g (compsG g).length)=uniC g F:=by unfold catF uniC;rw [List.take_length]
theorem cndX_len {g:Gr} (hg:validG g=true) (ws:List Int) (t i:Int):∀ k,k≤(compsG g).length→(cndX ws t g i k).length≤(catF id g k).length
 | 0,_=>Nat.zero_le _
 | k+1,h=>by
  have ih:=cndX_len hg ws t i k (by omega)
  have hf:=(fnd_in hg (cndP ws t i (k:Nat)) (c:=(compsG g).getD k default) (gmem (by omega))).1
  rw [cndX_succ,catF_succ (by omega),List.length_append,List.length_append]
  show _≤(catF id g k).length+((compsG g).getD k default).length
  omega
theorem cndX_rng {g:Gr} (hg:validG g=true) (ws:List Int) (t i:Int):∀ k,k≤(compsG g).length→∀ v∈cndX ws t g i k,0≤v∧v<g.n
 | 0,_=>fun v hv=>nomatch hv
 | k+1,h=>fun v hv=>by
  rw [cndX_succ] at hv
  rcases List.mem_append.1 hv with hv | hv
  ·exact cndX_rng hg ws t i k (by omega) v hv
  ·have hm:(compsG g).getD k default∈compsG g:=gmem (by omega)
   exact (setB_iff.1 (comps_set hg hm)).2 v ((fnd_in hg _ hm).2 v hv)
theorem hiK_skip {ws:List Int} {t:Int} {g:Gr} {n:Nat} (h:skpB ws t g ((n:Nat)-1)):hiK ws t g (n+1)=hiK ws t g n:=by
 show hiS ws t (hiK ws t g n) (cndO ws t g ((n:Nat)-1))=_
 unfold cndO
 rw [if_pos h];rfl
theorem hiK_set {ws:List Int} {t:Int} {g:Gr} {n:Nat} (h:¬skpB ws t g ((n:Nat)-1)) {S:List Int} (hS:S=srtF (cndX ws t g ((n:Nat)-1) (compsG g).length)):hiK ws t g (n+1)=if gmx ws S=t∧(hiK ws t g n=none∨lexB S (resW (hiK ws t g n))=true) then some S else hiK ws t g n:=by
 subst hS
 show hiS ws t (hiK ws t g n) (cndO ws t g ((n:Nat)-1))=_
 unfold cndO
 rw [if_neg h];rfl
theorem cf_at {σ:Type} (f:σ→List Int→σ×Bool) (g':FuncId) (Cv:List Value) (J:Nat→σ→World→Prop) (T:Nat→Prop) (y:CmI) (w0 w:World) (hy:CmOk w0 y) (hv:validG (grV y.g)=true) (hn:y.g.n=(y.vs.l.length:Int)) (e:Ext w0 w) (H:HdC f g' Cv y.vs.l J T w.heap.size) (s:σ) (hT0:∀ q,T q→w0.heap.size≤q) (hJ:∀ t w',w.heap.size≤t→Ext w w'→J t s w')
  {G:Gr} (hg:grV y.g=G):RetsY prog 43 #[.agg (encCmI y).toArray,.func (.func g') #[] Cv.toArray] w (fun u:Option Addr×Nat=>.slice u.1 (resW (runF f s (repsW G y.vs.l)).2).length u.2) (fun u w'=>(∃ t,w.heap.size≤t∧J t (runF f s (repsW G y.vs.l)).1 w')∧Vc.Mod T w w'∧OwnT Vc.encI 1 3 w.heap.size w' u.1 u.2 (resW (runF f s (repsW G y.vs.l)).2)):=by
 subst hg
 exact cfirst_spec f g' Cv J T y.g y.vs.a y.vs.c y.vs.l w w0 H s hy.g hy.l hv hn hy.v e hT0 hJ
theorem peak31_spec (g:GrW) (wa:Option Addr) (wc:Nat) (ws:List Int) (B:Nat) (w:World) (hG:GOk w g) (hl:GLen g) (hW:IntSl w wa ws) (hwl:ws.length≤1000000) (hB:B≤w.heap.size) (hT:TabW B w) :
  RetsX prog 15 #[.agg (encGr g).toArray,.slice wa ws.length wc] w (fun z:SpX×Int=>.tuple #[.agg (encSp z.1).toArray,.int .i64 z.2])
   (fun z w'=>SpOk w.heap.size w' z.1∧PeakR (grV g) ws z.1 z.2):=by
 refine eN (args:=[_,_]) func15 rfl ntmps15 ?_
 refine Vs<|Vr<|VL.box (v:=.agg _) rfl fun b0_0 w0_0 hb0_0 e0_0 hB0_0=>VL.box (v:=.slice _ _ _) rfl fun b0_1 w0_1 hb0_1 e0_1 hB0_1=>VL.alloc zv32 fun b0_2 w0_2 hb0_2 e0_2 hB0_2=>oJ rfl<|Vn<|V.scope<|Vs<|Vs<|Vr<|Vo (R.ldA ag25 sz25 rfl rfl (show RowAt _ _ _ (encGr g) from (((hB0_0.ext e0_1).ext e0_2).rowAt 0 3)) rfl)<|Vo (R.ld1 ag22 rfl ((hB0_1.ext e0_2).cell _))<|VL.callP call33 rfl (check31_spec g wa wc ws 0 B _ (hG.ext ((e0_0.trans e0_1).trans e0_2)) hl (hW.ext ((e0_0.trans e0_1).trans e0_2)) hwl (Nat.le_trans hB ((e0_0.trans e0_1).trans e0_2).size) (hT.ext hB ((e0_0.trans e0_1).trans e0_2))) fun w1_2 e1_2=>oJ rfl<|Vn<|Vs<|Vr<|oI rfl<|Vo (R.neq rfl rfl)<|Vn<|V.condP rfl (fun c27=>Vs<|Vr<|Vo (R.build zv32 ru32 pl32 rfl)<|oI rfl<|VL.store (v:=.agg _) sz32 rfl rfl rfl rfl (hB0_2.ext e1_2) rfl rfl fun w3_2 m3_2 hs3_2 hB3_2=>oJ rfl<|Vn<|V.ret (fretCT (v:=.int _ _) rfl rfl rfl rfl rfl ag32 sz32 rfl (hB3_2.rowAt 0 6) rfl (?_))) (fun c27=>V.skip<|Vs (?_))
 ·have z0:=e0_0.size
  have z01:=e0_1.size
  exact ⟨(spZ,chkF (grV g) ws 0),rfl,⟨SpOk.zero _ _,⟨rfl,fun _=>rfl,fun h=>absurd h c27,fun h=>absurd h c27,fun h=>absurd h c27,fun h=>absurd h c27,rfl,rfl⟩⟩,(((e0_0.trans e0_1).trans e0_2).trans e1_2).own m3_2 (by dsimp only;omega)⟩
 have h0:chkF (grV g) ws 0=0:=by omega
 obtain ⟨hv,hwn,hwb,hff⟩:=chk_zero h0
 have hcn:=costB_iff.1 (validG_iff.1 hv).1
 have hgn:(grV g).n=g.n:=rfl
 have hn4:g.n≤4000:=hcn.2.1
 obtain ⟨hcl,hce⟩:=compsL31 hv
 have hG1:GrB w1_2 b0_0 g:=((hB0_0.ext e0_1).ext e0_2).ext e1_2
 have hV1:Blk w1_2 b0_1 (.cells #[.slice wa ws.length wc] 22 (0,0)):=(hB0_1.ext e0_2).ext e1_2
 have hS1:Blk w1_2 b0_2 (.cells (encSp spZ).toArray 32 (0,0)):=hB0_2.ext e1_2
 have E1:Ext w w1_2:=((e0_0.trans e0_1).trans e0_2).trans e1_2
 refine Vr<|Vo (R.ldA ag25 sz25 rfl rfl (show RowAt _ _ _ (encGr g) from hG1.rowAt 0 3) rfl)<|VL.callX call42 rfl (comps31_spec g B _ (hG.ext E1) hl hv (Nat.le_trans hB E1.size) (hT.ext hB E1)) fun z w4 hz e4=>oT rfl<|Vn<|Vs (?_)
 obtain ⟨za,zc,L⟩:=z
 obtain ⟨hL,hLv⟩:=hz
 dsimp only at hL hLv ⊢
 have E4:Ext w w4:=E1.trans e4
 have z1:=E1.size;have z4:=e4.size
 have l0:=hB0_0.lt;have l1:=hV1.lt;have l2:=hS1.lt
 have hLl:L.length=(compsG (grV g)).length:=by have:=congrArg List.length hLv;simpa using this
 have hat:∀ k,k<L.length→(L.getD k default).vs.l=(compsG (grV g)).getD k default∧(compsG (grV g)).getD k default∈compsG (grV g)∧grV (L.getD k default).g=partG (grV g) (L.getD k default).vs.l∧validG (grV (L.getD k default).g)=true∧(L.getD k default).g.n=((L.getD k default).vs.l.length:Int)∧CmOk w4 (L.getD k default)∧(∀ v∈(L.getD k default).vs.l,0≤v∧v<(ws.length:Int))∧(L.getD k default).vs.l.length≤4000:=fun k hk=>by
  have h1:(L.map cmV).getD k default=cmV (L.getD k default):=gmap cmV L default hk
  rw [hLv] at h1
  have h2:((compsG (grV g)).map fun c=>(partG (grV g) c,c)).getD k default=(partG (grV g) ((compsG (grV g)).getD k default),(compsG (grV g)).getD k default):=gmap (fun c=>(partG (grV g) c,c)) (compsG (grV g)) default (by omega)
  have h3:=h2.symm.trans h1
  have hvl:(L.getD k default).vs.l=(compsG (grV g)).getD k default:=(congrArg Prod.snd h3).symm
  have hgv:grV (L.getD k default).g=partG (grV g) (L.getD k default).vs.l:=by rw [hvl];exact (congrArg Prod.fst h3).symm
  have hcm:(compsG (grV g)).getD k default∈compsG (grV g):=gmem (by omega)
  have hset:=comps_set hv hcm
  have h4:=hce _ hcm
  refine ⟨hvl,hcm,hgv,by rw [hgv,hvl];exact part_valid hv hset,?_,hL.each _ (gmem hk),fun v hv'=>?_,by rw [hvl];exact h4⟩
  ·have h1:(grV (L.getD k default).g).n=(partG (grV g) (L.getD k default).vs.l).n:=by rw [hgv]
   exact h1
  ·rw [hvl] at hv'
   have:=(setB_iff.1 hset).2 v hv'
   omega
 have hwa:∀ q,0<ws.length→aBlk wa q→q<w.heap.size:=fun q hp ⟨ad,ha,hq⟩=>by
  have:=TSl.lt hW hp
  rw [ha] at this
  rw [←hq];exact this
 have hws:ws.length≤4000:=by omega
 obtain ⟨F,hF⟩:∃ F,F=frG ws (grV g):=⟨_,rfl⟩
 obtain ⟨T,hTo⟩:∃ T,T=toG ws (grV g):=⟨_,rfl⟩
 have hcatk:∀ k,((catF (fndC (lowP ws F) (grV g)) (grV g) k).length:Int)≤(grV g).n:=fun k=>cat_len hv (F:=fndC (lowP ws F) (grV g)) (fun c hc=>(fnd_in hv _ hc).1) k
 refine Vr<|VL.alloc zv32 fun b5_0 w5_0 hb5_0 e5_0 hB5_0=>Vn<|V.cut [3,4,7,8] (fun _:Unit=>[.pointer (some ⟨b0_1,0,none⟩),.pointer (some ⟨b0_2,0,none⟩),.slice za L.length zc,.pointer (some ⟨b5_0,0,none⟩)]) (fun _ w'=>Ext w4 w'∧PkW b0_1 b5_0 wa wc ws { spZ with fr:=F,to:=T } w') (Vs<|Vr<|oS rfl<|Vo (R.lenS ru69 rfl)<|oI rfl<|Vn<|V.block (?_)) (fun rgB0 xB0 wBB0 hBB0=>V.cut [3,4,7,8] (fun _:Option Addr×Nat=>[.pointer (some ⟨b0_1,0,none⟩),.pointer (some ⟨b0_2,0,none⟩),.slice za L.length zc,.pointer (some ⟨b5_0,0,none⟩)]) (fun x w'=>Ext w4 w'∧PkW b0_1 b5_0 wa wc ws { spZ with fr:=F,to:=T,lo:=⟨x.1,x.2,catF (fndC (lowP ws F) (grV g)) (grV g) L.length⟩ } w'∧OwnT Vc.encI 1 3 wBB0.heap.size w' x.1 x.2 (catF (fndC (lowP ws F) (grV g)) (grV g) L.length)) (Vs<|Vr<|oS rfl<|Vo (R.lenS ru69 rfl)<|oI rfl<|Vn<|V.block (?_)) (fun rgB2 xB2 wBB2 hBB2=>Vs<|Vr<|Vo (R.fld' (o:=2) ru32 rfl rfl sz22 rfl rfl)<|Vo (R.ld1 ag22 rfl (show _=some (Value.slice xB2.1 (catF (fndC (lowP ws F) (grV g)) (grV g) L.length).length xB2.2) from hBB2.2.1.sp.cell 2))<|VL.callK call47 rfl (sortI_spec xB2.1 xB2.2 wBB0.heap.size (catF (fndC (lowP ws F) (grV g)) (grV g) L.length) _ hBB2.2.2 (by have:=hcatk L.length;omega)) fun w9 h9=>Vn<|Vs<|Vr<|oT rfl<|Vn<|V.cut [3,4,7,8,14] (fun x:List SlI×Option Addr×Nat=>[.pointer (some ⟨b0_1,0,none⟩),.pointer (some ⟨b0_2,0,none⟩),.slice za L.length zc,.pointer (some ⟨b5_0,0,none⟩),.slice x.2.1 x.1.length x.2.2]) (fun x w'=>Ext w9 w'∧AlR w9.heap.size w' x ((compsG (grV g)).map (fndC anyP (grV g)))) (Vs<|Vr<|oS rfl<|Vo (R.lenS ru69 rfl)<|oI rfl<|Vn<|V.block (?_)) (fun rgB4 xB4 wBB4 hBB4=>Vs (?_))))
 ·have hS5:Blk w5_0 b5_0 (.cells (encSp spZ).toArray 32 (0,0)):=hB5_0
  have z5:w4.heap.size≤b5_0:=Nat.le_of_eq hb5_0.symm
  have e50:Ext w4 w5_0:=e5_0
  refine V.loop [3,4,7,8,32,33,34] (fun k:Nat=>[.pointer (some ⟨b0_1,0,none⟩),.pointer (some ⟨b0_2,0,none⟩),.slice za L.length zc,.pointer (some ⟨b5_0,0,none⟩),.slice za L.length zc,.int .i64 (L.length:Nat),.int .i64 (k:Nat)])
   (fun k w'=>k≤L.length∧Ext w4 w'∧PkW b0_1 b5_0 wa wc ws { spZ with fr:=frL ws (grV g) ((compsG (grV g)).take k),to:=toL ws (grV g) ((compsG (grV g)).take k) } w') (fun k=>L.length-k) 0 rfl ⟨Nat.zero_le _,e50,(hV1.ext e4).ext e50,TSl.ext hW (E4.trans e50),hS5⟩ ?_
  rintro ρ k w6 ⟨hk,e6,hP⟩
  refine Vs<|Vr<|oL rfl rfl<|Vn<|Vs<|V.condP rfl (fun c35=>V.skip<|Vs<|V.block<|Vs (?_)) (fun c35=>V.exit (?_))
  ·have hkl:k<L.length:=by omega
   obtain ⟨a1,a2,a3,a4,a5,a6,a7,a8⟩:=hat k hkl
   have hL6:=hL.ext e6
   refine Vr<|Vo (iX ru69 sz72 rfl rfl (hL6.own.sl.some (i:=k) hkl))<|Vo (R.ldA ag72 sz72 rfl rfl (show RowAt _ _ _ (encCmI (L.getD k default)) from (hL6.own.sl.row (i:=k) hkl)) rfl)<|VL.allocSt (v:=.agg (encCmI (L.getD k default)).toArray) zv72 sz72 rfl rfl rfl rfl rfl fun b8_2 w8_2 hb8_2 e8_2 hB8_2=>Vn<|Vs<|Vr<|VL.allocSt (v:=.int _ _) zv3 sz3 rfl rfl rfl rfl rfl fun b9_0 w9_0 hb9_0 e9_0 hB9_0=>Vn<|Vs (?_)
   obtain ⟨y,hy⟩:∃ y,y=L.getD k default:=⟨_,rfl⟩
   rw [←hy] at hB8_2 a1 a3 a4 a5 a6 a7 a8 ⊢
   have hcb:Blk w9_0 b8_2 (.cells (Value.agg (encCmI y).toArray).cells 72 (0,0)):=hB8_2.ext e9_0
   have hnb:Blk w9_0 b9_0 (.cells #[.int .i64 (-1)] 3 (0,0)):=hB9_0
   have e69:Ext w6 w9_0:=e8_2.trans e9_0
   have hP9:=hP.ext e69
   have l9:=hnb.lt;have l5:=hP9.sp.lt;have lw:=hP9.wb.lt
   have z9:=e69.size;have z6:=e6.size;have z82:=e8_2.size
   have lp:=hP.sp.lt;have lv:=hP.wb.lt
   have hb9:b9_0=w8_2.heap.size:=hb9_0
   have hHd:=pk1_hd (bw:=b0_1) (bn:=b9_0) (bs:=b5_0) (wa:=wa) (wc:=wc) (ws:=ws) (vs:=y.vs.l) (B:=w9_0.heap.size) hws (by omega) (by omega) (by omega) (fun q hp hq=>by have:=hwa q hp hq;omega) a8 a7
   have hf:=cf_at (pk1F ws) _ _ _ _ y w4 w9_0 a6 a4 a5 (e6.trans e69) hHd ((-1:Int),({ spZ with fr:=frL ws (grV g) ((compsG (grV g)).take k),to:=toL ws (grV g) ((compsG (grV g)).take k) }:SpX)) (fun q hq=>by rcases hq with hq | hq <;> omega) (fun t w' ht e=>⟨hP9.ext e,hnb.ext e,by omega,by omega,by omega,fun q hp hq=>by have:=hwa q hp hq;omega⟩) a3
   rw [run_pk1] at hf
   refine Vr<|Vo (R.ldA ag72 sz72 rfl rfl (show RowAt _ _ _ (encCmI y) from hcb.rowAt 0 4) rfl)<|Vo (R.mkFn rfl rfl)<|VL.callY call43 rfl (hf) fun u w10 h10=>Vn (?_)
   obtain ⟨⟨t,ht,hJ⟩,m10,_⟩:=h10
   dsimp only at hJ
   refine Vr<|Vo (R.fld' (o:=0) ru32 rfl rfl sz3 rfl rfl)<|Vo (R.ld1 ag3 rfl (show _=some (Value.int .i64 (frL ws (grV g) ((compsG (grV g)).take k))) from hJ.k.sp.cell 0))<|Vo (R.ld1 ag3 rfl (show _=some (Value.int .i64 (lsF ws (repsW (partG (grV g) y.vs.l) y.vs.l) (-1))) from hJ.n.cell 0))<|Vo (R.max rfl rfl)<|Vo (R.fld' (o:=0) ru32 rfl rfl sz3 rfl rfl)<|VL.store (v:=.int _ _) sz3 rfl rfl rfl rfl hJ.k.sp rfl rfl fun w11 m11 hs11 hB11=>Vn<|Vr<|oD rfl rfl<|oI rfl<|Vn (?_)
   have m11':Vc.Mod (Vc.one b5_0) w10 w11:=m11
   have hn:(compsG (grV g)).take (k+1)=(compsG (grV g)).take k++[y.vs.l]:=by
    rw [List.take_succ_eq_append_getElem (by omega),a1,gget (by omega)]
   refine ⟨k+1,rfl,⟨by omega,?_,?_⟩,by omega⟩
   ·have hE:Ext w4 w10:=((e6.trans e69).weaken fun _ _ h=>h.elim).then m10 fun q hq h=>by
     rcases h with h | h <;> omega
    exact hE.own m11' z5
   ·rw [hn,frL_snoc,toL_snoc]
    refine ⟨hJ.k.wb.mod m11' fun (e:b0_1=_)=>by omega,modP hJ.k.v m11' fun q hp hq (e:q=_)=>by have:=hwa q hp hq;omega,hB11⟩
  ·have hke:k=L.length:=by omega
   refine ⟨(),rfl,e6,?_⟩
   rw [hke,hLl,List.take_length] at hP
   rw [hF,hTo]
   exact hP
 ·obtain ⟨e6,hP6⟩:=hBB0
  have lb5:=hP6.sp.lt
  have z56:=e6.size
  have z5:w4.heap.size≤b5_0:=Nat.le_of_eq hb5_0.symm
  have hx0:PkW b0_1 b5_0 wa wc ws { spZ with fr:=F,to:=T,lo:=⟨none,0,catF (fndC (lowP ws F) (grV g)) (grV g) 0⟩ } wBB0:=hP6
  refine V.loop [3,4,7,8,47,48,49] (fun x:Nat×Option Addr×Nat=>[.pointer (some ⟨b0_1,0,none⟩),.pointer (some ⟨b0_2,0,none⟩),.slice za L.length zc,.pointer (some ⟨b5_0,0,none⟩),.slice za L.length zc,.int .i64 (L.length:Nat),.int .i64 (x.1:Nat)])
   (fun x w'=>x.1≤L.length∧Ext w4 w'∧PkW b0_1 b5_0 wa wc ws { spZ with fr:=F,to:=T,lo:=⟨x.2.1,x.2.2,catF (fndC (lowP ws F) (grV g)) (grV g) x.1⟩ } w'∧OwnT Vc.encI 1 3 wBB0.heap.size w' x.2.1 x.2.2 (catF (fndC (lowP ws F) (grV g)) (grV g) x.1)∧wBB0.heap.size≤w'.heap.size) (fun x=>L.length-x.1) (0,none,0) rfl ⟨Nat.zero_le _,e6,hx0,OwnT.nil _ _ _ _ _,Nat.le_refl _⟩ ?_
  rintro ρ ⟨k,la,lc⟩ w7 ⟨hk,e7,hP7,ho7,z67⟩
  dsimp only at hk e7 hP7 ho7 ⊢
  have hcat:=cat_len hv (F:=fndC (lowP ws F) (grV g)) (fun c hc=>(fnd_in hv _ hc).1) k
  have hcat:((catF (fndC (lowP ws F) (grV g)) (grV g) k).length:Int)≤(grV g).n:=hcat
  refine Vs<|Vr<|oL rfl rfl<|Vn<|Vs<|V.condP rfl (fun c50=>V.skip<|Vs<|V.block<|Vs (?_)) (fun c50=>V.exit (?_))
  ·have hkl:k<L.length:=by omega
   obtain ⟨a1,a2,a3,a4,a5,a6,a7,a8⟩:=hat k hkl
   have hL7:=hL.ext e7
   refine Vr<|Vo (iX ru69 sz72 rfl rfl (hL7.own.sl.some (i:=k) hkl))<|Vo (R.ldA ag72 sz72 rfl rfl (show RowAt _ _ _ (encCmI (L.getD k default)) from (hL7.own.sl.row (i:=k) hkl)) rfl)<|VL.allocSt (v:=.agg (encCmI (L.getD k default)).toArray) zv72 sz72 rfl rfl rfl rfl rfl fun b15_2 w15_2 hb15_2 e15_2 hB15_2=>Vn (?_)
   obtain ⟨y,hy⟩:∃ y,y=L.getD k default:=⟨_,rfl⟩
   rw [←hy] at hB15_2 a1 a3 a4 a5 a6 a7 a8 ⊢
   have hcb:Blk w15_2 b15_2 (.cells (Value.agg (encCmI y).toArray).cells 72 (0,0)):=hB15_2
   have hP15:=hP7.ext e15_2
   have E15:=e7.trans e15_2
   have z15:=E15.size
   have lp:=hP15.sp.lt;have lv:=hP15.wb.lt
   have hfd:=fnd_in hv (lowP ws F) a2
   rw [←a1] at hfd
   refine V.regionS mixed 5 (by kernel_rfl) rfl (fun us=>VS.op (fun wq eq=>R.fld' (o:=2) ru32 rfl rfl sz22 rfl rfl) (VS.op (fun wq eq=>R.ld1 ag22 rfl (show _=some (Value.slice la (catF (fndC (lowP ws F) (grV g)) (grV g) k).length lc) from (hP15.ext eq).sp.cell 2)) (VS.op (fun wq eq=>R.ldA ag72 sz72 rfl rfl (show RowAt _ _ _ (encCmI y) from (hcb.ext eq).rowAt 0 4) rfl) (VS.op (fun wq eq=>R.mkFn rfl rfl) (VS.callX (fun u w'=>∃ z:Option Addr×Nat,u=.slice z.1 (fndC (lowP ws F) (grV g) y.vs.l).length z.2∧OwnT Vc.encI 1 3 w15_2.heap.size w' z.1 z.2 (fndC (lowP ws F) (grV g) y.vs.l)) (fun u a b _ ⟨z,h1,h2⟩ eb=>⟨z,h1,h2.ext eb⟩) call43 rfl (fun wq eq hq=>by
     have zq:=eq.size
     have hHd:=pk2_hd (bw:=b0_1) (bs:=b5_0) (wa:=wa) (wc:=wc) (ws:=ws) (vs:=y.vs.l) (x:={ spZ with fr:=F,to:=T,lo:=⟨la,lc,catF (fndC (lowP ws F) (grV g)) (grV g) k⟩ }) (B:=wq.heap.size) hws (by omega) (by omega) (fun q hp hq=>by have:=hwa q hp hq;omega) a8 a7
     have hf:=cf_at _ _ _ _ _ y w4 wq a6 a4 a5 (E15.trans eq) hHd () (fun q hq=>hq.elim) (fun t w' ht e=>(hP15.ext eq).ext e) a3
     rw [run2] at hf
     exact Rets.mono hf fun u w' ⟨z,h1,_,h3,h4⟩=>⟨⟨z,h1,h4.weaken zq⟩,h3.weaken fun _ _ h=>h.elim⟩) (VS.nil (fun w16 e16 h16=>?_))))))) rfl
   obtain ⟨u16,hu16,ho16⟩:=h16 4
   rw [hu16]
   have hP16:=hP15.ext e16
   have ho7':=ho7.ext (e15_2.trans e16)
   have z16:=e16.size;have z152:=e15_2.size
   refine VL.appendT el22 (fun _=>rfl) rfl (rfl) (ho7') rfl (rfl) (OwnT.sl ho16) (OwnT.hax ho16) (by omega) (by unfold maxLen;omega) (show wBB0.heap.size≤w16.heap.size by omega) rfl fun a9 c9 w9 ho9 m9 hf9=>Vo (R.fld' (o:=2) ru32 rfl rfl sz22 rfl rfl)<|VL.store (v:=.slice _ _ _) sz22 rfl rfl rfl rfl (hP16.sp.mod m9 fun h=>by have:=ho7'.ge _ h;omega) rfl rfl fun w17 m17 hs17 hB17=>Vn<|Vr<|oD rfl rfl<|oI rfl<|Vn (?_)
   have m17':Vc.Mod (Vc.one b5_0) w9 w17:=m17
   have hs:catF (fndC (lowP ws F) (grV g)) (grV g) (k+1)=catF (fndC (lowP ws F) (grV g)) (grV g) k++fndC (lowP ws F) (grV g) y.vs.l:=by rw [catF_succ (by omega),a1]
   have E9:Ext w4 w9:=(E15.trans e16).ownA m9 fun q hq=>by have:=ho7'.ge q hq;omega
   refine ⟨(k+1,a9,c9),rfl,⟨by dsimp only;omega,E9.own m17' z5,?_,?_,?_⟩,by dsimp only;omega⟩
   ·dsimp only
    rw [hs]
    refine ⟨(hP16.wb.mod m9 fun h=>by have:=ho7'.ge _ h;omega).mod m17' fun (e:b0_1=_)=>by omega,modP (modP hP16.v m9 fun q hp hq h=>by have:=hwa q hp hq;have:=ho7'.ge _ h;omega) m17' fun q hp hq (e:q=_)=>by have:=hwa q hp hq;omega,?_⟩
    rw [encSp,List.length_append]
    exact hB17
   ·dsimp only
    rw [hs]
    exact ho9.mod m17' fun q hq (e:q=_)=>by have:=ho9.ge q hq;omega
   ·have:=m9.size;have:=m17'.size;omega
  ·have hke:k=L.length:=by omega
   subst hke
   exact ⟨(la,lc),rfl,e7,hP7,ho7⟩
 ·have lb5:=hBB0.2.sp.lt
  have z56:=hBB0.1.size
  have z5:w4.heap.size≤b5_0:=Nat.le_of_eq hb5_0.symm
  obtain ⟨la,lc⟩:=xB2
  obtain ⟨e8,hP8,ho8⟩:=hBB2
  dsimp only at hP8 ho8
  have hcat8:((catF (fndC (lowP ws F) (grV g)) (grV g) L.length).length:Int)≤(grV g).n:=cat_len hv (F:=fndC (lowP ws F) (grV g)) (fun c hc=>(fnd_in hv _ hc).1) L.length
  have hlow:srtF (catF (fndC (lowP ws F) (grV g)) (grV g) L.length)=lowG ws (grV g):=by rw [hLl,catF_all,hF];rfl
  obtain ⟨m9,ho9⟩:=h9
  have hll:(catF (fndC (lowP ws F) (grV g)) (grV g) L.length).length=(lowG ws (grV g)).length:=by rw [←hlow,srtF_len]
  rw [hlow] at ho9
  have E9:Ext w4 w9:=e8.ownA m9 fun q hq=>by have:=ho8.ge q hq;omega
  have hP9:PkW b0_1 b5_0 wa wc ws { spZ with fr:=F,to:=T,lo:=⟨la,lc,lowG ws (grV g)⟩ } w9:=by
   refine ⟨hP8.wb.mod m9 fun h=>by have:=ho8.ge _ h;omega,modP hP8.v m9 fun q hp hq h=>by have:=hwa q hp hq;have:=ho8.ge _ h;omega,?_⟩
   have h1:=hP8.sp.mod m9 fun h=>by have:=ho8.ge _ h;omega
   have h2:encSp { spZ with fr:=F,to:=T,lo:=⟨la,lc,catF (fndC (lowP ws F) (grV g)) (grV g) L.length⟩ }=encSp { spZ with fr:=F,to:=T,lo:=⟨la,lc,lowG ws (grV g)⟩ }:=by
    unfold encSp
    dsimp only
    rw [hll]
   rw [←h2];exact h1
  clear hP8 ho8 m9
  have z9:=E9.size
  have lb9:=hP9.sp.lt;have lv9:=hP9.wb.lt
  refine V.loop [3,4,7,8,14,64,65,66] (fun x:Nat×List SlI×Option Addr×Nat=>[.pointer (some ⟨b0_1,0,none⟩),.pointer (some ⟨b0_2,0,none⟩),.slice za L.length zc,.pointer (some ⟨b5_0,0,none⟩),.slice x.2.2.1 x.2.1.length x.2.2.2,.slice za L.length zc,.int .i64 (L.length:Nat),.int .i64 (x.1:Nat)])
   (fun x w'=>x.1≤L.length∧Ext w9 w'∧AlR w9.heap.size w' x.2 (((compsG (grV g)).take x.1).map (fndC anyP (grV g)))) (fun x=>L.length-x.1) (0,[],none,0) rfl ⟨Nat.zero_le _,Vc.Mod.refl _ _,AlR.nil _ _⟩ ?_
  rintro ρ ⟨k,P,pa,pc⟩ w7 ⟨hk,e7,hA7⟩
  dsimp only at hk e7 hA7 ⊢
  have hPl:=hA7.len
  rw [List.length_map,List.length_take] at hPl
  dsimp only at hPl
  refine Vs<|Vr<|oL rfl rfl<|Vn<|Vs<|V.condP rfl (fun c67=>V.skip<|Vs<|V.block<|Vs (?_)) (fun c67=>V.exit (?_))
  ·have hkl:k<L.length:=by omega
   obtain ⟨a1,a2,a3,a4,a5,a6,a7,a8⟩:=hat k hkl
   have hL7:=hL.ext (E9.trans e7)
   refine Vr<|Vo (iX ru69 sz72 rfl rfl (hL7.own.sl.some (i:=k) hkl))<|Vo (R.ldA ag72 sz72 rfl rfl (show RowAt _ _ _ (encCmI (L.getD k default)) from (hL7.own.sl.row (i:=k) hkl)) rfl)<|VL.allocSt (v:=.agg (encCmI (L.getD k default)).toArray) zv72 sz72 rfl rfl rfl rfl rfl fun b22_2 w22_2 hb22_2 e22_2 hB22_2=>Vn (?_)
   obtain ⟨y,hy⟩:∃ y,y=L.getD k default:=⟨_,rfl⟩
   rw [←hy] at hB22_2 a1 a3 a4 a5 a6 a7 a8 ⊢
   have hcb:Blk w22_2 b22_2 (.cells (Value.agg (encCmI y).toArray).cells 72 (0,0)):=hB22_2
   have E22:=E9.trans (e7.trans e22_2)
   have z22:=e22_2.size;have z7:=e7.size
   have hHd:=pk3_hd (vs:=y.vs.l) (B:=w22_2.heap.size) (J:=fun _=>True) (fun _ _ _ _=>trivial) (fun _ _ _ _ _ _=>trivial)
   have hf:=cf_at _ _ _ _ _ y w4 w22_2 a6 a4 a5 E22 hHd () (fun q hq=>hq.elim) (fun t w' ht e=>trivial) a3
   rw [run3] at hf
   refine Vr<|oS rfl<|Vo (R.ldA ag72 sz72 rfl rfl (show RowAt _ _ _ (encCmI y) from hcb.rowAt 0 4) rfl)<|VL.callY call43 rfl (hf) fun u w10 h10=>VL.append1 el23 ru23 sz22 zv22 rfl (⟨u.1,u.2,fndC anyP (grV g) y.vs.l⟩:SlI) rfl rfl rfl (hA7.o.ext (e22_2.trans (h10.2.1.weaken fun _ _ h=>h.elim))) rfl rfl rfl (by omega) (by unfold maxLen;omega) (show w9.heap.size≤w10.heap.size by have:=h10.2.1.size;omega) fun a11 c11 w11 vt11 ho11 m11 hf11=>oT rfl<|Vn<|Vr<|oD rfl rfl<|oI rfl<|Vn (?_)
   have e10:Ext w22_2 w10:=h10.2.1.weaken fun _ _ h=>h.elim
   have ho10:=h10.2.2
   have hA10:=hA7.ext (e22_2.trans e10)
   have ht:=OwnT.tyA hA10.o
   refine ⟨(k+1,P++[⟨u.1,u.2,fndC anyP (grV g) y.vs.l⟩],a11,c11),by dsimp only;rw [List.length_append];rfl,⟨by dsimp only;omega,(e7.trans (e22_2.trans e10)).ownA m11 fun q hq=>hA10.o.ge q hq,⟨ho11,fun x hx=>?_,?_⟩⟩,by dsimp only;omega⟩
   ·dsimp only at hx
    rcases List.mem_append.1 hx with h | h
    ·exact (hA10.e x h).mod ht m11
    ·rw [List.mem_singleton.1 h]
     exact (AlE.mk (OwnT.sl ho10) (OwnT.tyA ho10) (OwnT.hax ho10):AlE w10 ⟨u.1,u.2,fndC anyP (grV g) y.vs.l⟩).mod ht m11
   ·dsimp only
    have hv7:=hA7.v
    dsimp only at hv7
    unfold vals at hv7 ⊢
    rw [List.take_succ_eq_append_getElem (by omega),List.map_append,List.map_append,hv7,←gget (show k<(compsG (grV g)).length by omega),←a1];rfl
  ·have hke:k=L.length:=by omega
   rw [hke,hLl,List.take_length] at hA7
   exact ⟨(P,pa,pc),rfl,e7,hA7⟩
 have lb5:=hBB0.2.sp.lt
 have z56:=hBB0.1.size
 have z5:w4.heap.size≤b5_0:=Nat.le_of_eq hb5_0.symm
 obtain ⟨la,lc⟩:=xB2
 obtain ⟨e8,hP8,ho8⟩:=hBB2
 dsimp only at hP8 ho8
 have hcat8:((catF (fndC (lowP ws F) (grV g)) (grV g) L.length).length:Int)≤(grV g).n:=cat_len hv (F:=fndC (lowP ws F) (grV g)) (fun c hc=>(fnd_in hv _ hc).1) L.length
 have hlow:srtF (catF (fndC (lowP ws F) (grV g)) (grV g) L.length)=lowG ws (grV g):=by rw [hLl,catF_all,hF];rfl
 obtain ⟨m9,ho9⟩:=h9
 have hll:(catF (fndC (lowP ws F) (grV g)) (grV g) L.length).length=(lowG ws (grV g)).length:=by rw [←hlow,srtF_len]
 rw [hlow] at ho9
 have E9:Ext w4 w9:=e8.ownA m9 fun q hq=>by have:=ho8.ge q hq;omega
 have hP9:PkW b0_1 b5_0 wa wc ws { spZ with fr:=F,to:=T,lo:=⟨la,lc,lowG ws (grV g)⟩ } w9:=by
  refine ⟨hP8.wb.mod m9 fun h=>by have:=ho8.ge _ h;omega,modP hP8.v m9 fun q hp hq h=>by have:=hwa q hp hq;have:=ho8.ge _ h;omega,?_⟩
  have h1:=hP8.sp.mod m9 fun h=>by have:=ho8.ge _ h;omega
  have h2:encSp { spZ with fr:=F,to:=T,lo:=⟨la,lc,catF (fndC (lowP ws F) (grV g)) (grV g) L.length⟩ }=encSp { spZ with fr:=F,to:=T,lo:=⟨la,lc,lowG ws (grV g)⟩ }:=by
   unfold encSp
   dsimp only
   rw [hll]
  rw [←h2];exact h1
 clear hP8 ho8 m9
 have z9:=E9.size
 have lb9:=hP9.sp.lt;have lv9:=hP9.wb.lt
 obtain ⟨P,pa,pc⟩:=xB4
 obtain ⟨e11,hA⟩:=hBB4
 dsimp only at hA ⊢
 have hPl:=hA.len
 rw [List.length_map] at hPl
 dsimp only at hPl
 have E11:=E9.trans e11
 have z11:=e11.size
 obtain ⟨X,hX⟩:∃ X:SpX,X={ spZ with fr:=F,to:=T,lo:=⟨la,lc,lowG ws (grV g)⟩ }:=⟨_,rfl⟩
 have hXt:X.to=T:=by rw [hX]
 rw [←hX] at hP9
 have hP11:=hP9.ext e11
 have hlo11:=ho9.ext e11
 have hPj:∀ j,j<L.length→(P.getD j default).l=fndC anyP (grV g) ((compsG (grV g)).getD j default):=fun j hj=>by
  have h1:(vals P).getD j default=(P.getD j default).l:=gmap SlI.l P default (by omega)
  have hAv:vals P=(compsG (grV g)).map (fndC anyP (grV g)):=hA.v
  rw [←h1,hAv]
  exact gmap (fndC anyP (grV g)) (compsG (grV g)) default (by omega)
 have hAm:∀ w',Vc.Mod (Vc.one b5_0) wBB4 w'→AlR w9.heap.size w' (P,pa,pc) ((compsG (grV g)).map (fndC anyP (grV g))):=fun w' m=>by
  refine ⟨hA.o.mod m fun q hq (e:q=_)=>by have:=hA.o.ge q hq;omega,fun x hx=>?_,hA.v⟩
  have h:=hA.e x hx
  have key:∀ k,aBlk x.a k→¬Vc.one b5_0 k:=fun k hk (e:k=_)=>by
   subst e
   exact h.t.apart hP11.sp (by decide) hk
  exact ⟨h.s.mod m fun ad e=>key _ ⟨ad,e,rfl⟩,h.t.mod m key,h.h⟩
 clear hPl
 have hPl:P.length=L.length:=by have:=hA.len;rw [List.length_map] at this;dsimp only at this;omega
 refine Vr<|oA rfl<|Vn<|Vs<|V.label<|Vs<|Vs<|Vr<|oJ rfl<|Vn<|V.block (?_)
 refine V.loop [3,4,7,8,14,17,18] (fun x:Nat×Option Addr×Nat=>[.pointer (some ⟨b0_1,0,none⟩),.pointer (some ⟨b0_2,0,none⟩),.slice za L.length zc,.pointer (some ⟨b5_0,0,none⟩),.slice pa P.length pc,.bool (hiK ws T (grV g) x.1).isSome,.int .i64 ((x.1:Nat)-1)])
  (fun x w'=>x.1≤L.length+1∧Vc.Mod (Vc.one b5_0) wBB4 w'∧PkW b0_1 b5_0 wa wc ws { X with hi:=⟨x.2.1,x.2.2,resW (hiK ws T (grV g) x.1)⟩ } w'∧OwnT Vc.encI 1 3 wBB4.heap.size w' x.2.1 x.2.2 (resW (hiK ws T (grV g) x.1))) (fun x=>L.length+1-x.1) (0,none,0) rfl ⟨Nat.zero_le _,Vc.Mod.refl _ _,by rw [hX] at hP11 ⊢;exact hP11,OwnT.nil _ _ _ _ _⟩ ?_
 rintro ρ ⟨n,ha,hc⟩ w6 ⟨hn,m6,hP6,ho6⟩
 dsimp only at hn hP6 ho6 ⊢
 have E6:Ext w4 w6:=E11.own m6 z5
 have z6:=m6.size
 have hA6:=hAm w6 m6
 have l56:=hP6.sp.lt;have l16:=hP6.wb.lt
 refine Vs<|Vs<|Vr<|oI rfl<|oS rfl<|Vo (R.lenS ru69 rfl)<|oL rfl rfl<|Vn<|V.condP rfl (fun c79=>V.skip<|V.cut [3,4,7,8,14,17,18] (fun x:Option Addr×Nat=>[.pointer (some ⟨b0_1,0,none⟩),.pointer (some ⟨b0_2,0,none⟩),.slice za L.length zc,.pointer (some ⟨b5_0,0,none⟩),.slice pa P.length pc,.bool (hiK ws T (grV g) (n+1)).isSome,.int .i64 ((n:Nat)-1)]) (fun x w'=>Vc.Mod (Vc.one b5_0) w6 w'∧PkW b0_1 b5_0 wa wc ws { X with hi:=⟨x.1,x.2,resW (hiK ws T (grV g) (n+1))⟩ } w'∧OwnT Vc.encI 1 3 wBB4.heap.size w' x.1 x.2 (resW (hiK ws T (grV g) (n+1)))) (V.block<|Vs (?_)) (fun rgB7 xB7 wBB7 hBB7=>?_)) (fun c79=>V.exit<|Vs (?_))
 ·obtain ⟨ii,hii⟩:∃ ii:Int,ii=(n:Nat)-1:=⟨_,rfl⟩
  rw [←hii]
  refine Vr<|oT rfl<|Vn<|Vs<|Vs<|Vr<|oS rfl<|Vo (R.lenS ru69 rfl)<|oI rfl<|Vn<|V.block (?_)
  refine V.loop [3,4,7,8,14,17,18,19,82,83,84] (fun x:Nat×Option Addr×Nat=>[.pointer (some ⟨b0_1,0,none⟩),.pointer (some ⟨b0_2,0,none⟩),.slice za L.length zc,.pointer (some ⟨b5_0,0,none⟩),.slice pa P.length pc,.bool (hiK ws T (grV g) n).isSome,.int .i64 ii,.slice x.2.1 (cndX ws T (grV g) ii x.1).length x.2.2,.slice za L.length zc,.int .i64 (L.length:Nat),.int .i64 (x.1:Nat)])
   (fun x w'=>x.1≤L.length∧Ext w6 w'∧OwnT Vc.encI 1 3 w6.heap.size w' x.2.1 x.2.2 (cndX ws T (grV g) ii x.1)∧∀ j,j<x.1→(j:Int)=ii→¬skpB ws T (grV g) ii) (fun x=>L.length-x.1) (0,none,0) rfl ⟨Nat.zero_le _,Vc.Mod.refl _ _,OwnT.nil _ _ _ _ _,fun j h=>absurd h (Nat.not_lt_zero _)⟩ ?_
  rintro ρ ⟨j,sa,sc⟩ w7 ⟨hj,e7,ho7,hsk⟩
  dsimp only at hj e7 ho7 hsk ⊢
  have hcx:=cndX_len hv ws T ii j (by omega)
  have hcy:=cat_len hv (F:=id) (fun c _=>Nat.le_refl _) j
  have hcy:((catF id (grV g) j).length:Int)≤(grV g).n:=hcy
  have hP7:=hP6.ext e7
  have z7:=e7.size
  refine Vs<|Vr<|oL rfl rfl<|Vn<|Vs<|V.condP rfl (fun c85=>V.skip<|Vs<|V.block<|Vs (?_)) (fun c85=>V.exit<|Vs (?_))
  ·have hjl:j<L.length:=by omega
   obtain ⟨a1,a2,a3,a4,a5,a6,a7,a8⟩:=hat j hjl
   have hL7:=hL.ext (E6.trans e7)
   have hA7:AlR w9.heap.size w7 (P,pa,pc) ((compsG (grV g)).map (fndC anyP (grV g))):=hA6.ext e7
   have hjP:j<P.length:=by omega
   have hpj:=hPj j hjl
   refine Vr<|oI rfl<|Vo (iX ru69 sz72 rfl rfl (hL7.own.sl.some (i:=j) hjl))<|Vo (R.ldA ag72 sz72 rfl rfl (show RowAt _ _ _ (encCmI (L.getD j default)) from (hL7.own.sl.row (i:=j) hjl)) rfl)<|VL.allocSt1 (v:=.agg _) (v2:=.int _ _) zv72 sz72 rfl rfl rfl rfl rfl rfl rfl rfl rfl fun b32_3 w32_3 hb32_3 e32_3 hB32_3=>Vn<|Vs (?_)
   obtain ⟨y,hy⟩:∃ y,y=L.getD j default:=⟨_,rfl⟩
   rw [←hy] at hB32_3 a1 a3 a4 a5 a6 a7 a8 ⊢
   obtain ⟨w8,hw8⟩:∃ w8,w8=w32_3:=⟨_,rfl⟩
   have hcb:Blk w32_3 b32_3 (.cells (Value.agg (encCmI y).toArray).cells 72 (0,0)):=hB32_3
   have hA8:=hA7.ext e32_3
   have hpl:(P.getD j default).l.length≤4000:=by
    rw [hpj]
    have:=(fnd_in hv anyP a2).1
    have:=hce _ a2
    omega
   refine Vr<|oS rfl<|oI rfl<|Vo (iX ru23 sz22 rfl rfl (hA8.o.sl.some (i:=j) hjP))<|Vo (R.ld1 ag22 rfl ((hA8.o.sl.row (i:=j) hjP).c0a rfl))<|oT rfl<|Vn<|V.cut [3,4,7,8,14,17,18,19,82,83,84,22] (fun u:SlI=>[.pointer (some ⟨b0_1,0,none⟩),.pointer (some ⟨b0_2,0,none⟩),.slice za L.length zc,.pointer (some ⟨b5_0,0,none⟩),.slice pa P.length pc,.bool (hiK ws T (grV g) n).isSome,.int .i64 ii,.slice sa (cndX ws T (grV g) ii j).length sc,.slice za L.length zc,.int .i64 (L.length:Nat),.int .i64 (j:Nat),.slice u.a u.l.length u.c]) (fun u w'=>Ext w7 w'∧IntSl w' u.a u.l∧(u.a=none→u.c=0)∧u.l=fndC (cndP ws T ii (j:Nat)) (grV g) ((compsG (grV g)).getD j default)∧((j:Int)=ii→¬skpB ws T (grV g) ii)) (Vs<|Vr<|oI rfl<|oI rfl<|Vo (R.eql rfl rfl)<|Vn<|V.condP rfl (fun c95=>Vs (?_)) (fun c95=>V.skip (?_))) (fun rgC95 xC95 wBC95 hBC95=>?_)
   ·have hji:(j:Int)=ii:=by omega
    have hP8:=hP7.ext e32_3
    have z8:=e32_3.size
    have hHd:=pk4_hd (bw:=b0_1) (bs:=b5_0) (wa:=wa) (wc:=wc) (ws:=ws) (vs:=y.vs.l) (x:={ X with hi:=⟨ha,hc,resW (hiK ws T (grV g) n)⟩ }) (B:=w32_3.heap.size) hws (by omega) (by omega) (fun q hp hq=>by have:=hwa q hp hq;omega) a8 a7
    have hf:=cf_at _ _ _ _ _ y w4 w32_3 a6 a4 a5 (E6.trans (e7.trans e32_3)) hHd () (fun q hq=>hq.elim) (fun t w' ht e=>hP8.ext e) a3
    rw [run4] at hf
    refine Vr<|Vo (R.ldA ag72 sz72 rfl rfl (show RowAt _ _ _ (encCmI y) from hcb.rowAt 0 4) rfl)<|Vo (R.mkFn rfl rfl)<|VL.callY call43 rfl (hf) fun u w10 h10=>oT rfl<|Vn<|Vs (?_)
    obtain ⟨_,m10,ho10⟩:=h10
    have e10:Ext w32_3 w10:=m10.weaken fun _ _ h=>h.elim
    have hfc:resW ((repsW (partG (grV g) y.vs.l) y.vs.l).find? (topP ws ({ X with hi:=⟨ha,hc,resW (hiK ws T (grV g) n)⟩ }:SpX).to))=fndC (topP ws T) (grV g) y.vs.l:=by
     rw [←hXt];rfl
    dsimp only at ho10 ⊢
    rw [hfc] at ho10 ⊢
    have hsx:skpB ws T (grV g) ii↔fndC (topP ws T) (grV g) y.vs.l=[]∧0<T:=by
     unfold skpB
     rw [show ii.toNat=j by omega,←a1]
     exact ⟨fun h=>h.2.2,fun h=>⟨by omega,by omega,h⟩⟩
    have hlen0:(fndC (topP ws T) (grV g) y.vs.l).length=0→fndC (topP ws T) (grV g) y.vs.l=[]:=fun h=>List.length_eq_zero_iff.1 h
    refine Vr<|oS rfl<|Vo (R.lenS ru22 rfl)<|Vo (R.eql rfl rfl)<|oB rfl<|VL.andP rfl rfl (fun g36_3=>Vo (R.fld' (o:=1) ru32 rfl rfl sz3 rfl rfl)<|lT<|Vo (R.ld1 ag3 rfl (show _=some (Value.int .i64 X.to) from (hP8.ext e10).sp.cell 1))<|lT<|Vo (R.gtr rfl rfl)<|oP rfl rfl<|Vn<|V.condP rfl (fun c106=>V.exit (?_)) (fun c106=>V.skip (?_))) (fun g36_3=>lF<|lF<|oQ rfl rfl<|Vn<|V.condF rfl<|V.skip (?_))
    ·have hskip:hiK ws T (grV g) (n+1)=hiK ws T (grV g) n:=hiK_skip (by rw [←hii];exact hsx.2 ⟨hlen0 (by omega),by omega⟩)
     rw [hskip]
     exact ⟨(ha,hc),rfl,((e7.trans (e32_3.trans e10)).weaken fun _ _ h=>h.elim),hP8.ext e10,ho6.ext (e7.trans (e32_3.trans e10))⟩
    ·exact ⟨⟨u.1,u.2,fndC (topP ws T) (grV g) y.vs.l⟩,rfl,e32_3.trans e10,ho10.sl,OwnT.hax ho10,by unfold cndP;rw [if_pos hji,←a1],fun _ h=>by have:=(hsx.1 h).2;omega⟩
    ·exact ⟨⟨u.1,u.2,fndC (topP ws T) (grV g) y.vs.l⟩,rfl,e32_3.trans e10,ho10.sl,OwnT.hax ho10,by unfold cndP;rw [if_pos hji,←a1],fun _ h=>g36_3 (by rw [(hsx.1 h).1];rfl)⟩
   ·exact ⟨P.getD j default,rfl,e32_3,(hA8.e _ (gmem hjP)).s,(hA8.e _ (gmem hjP)).h,by rw [hpj];unfold cndP;rw [if_neg c95],fun e=>absurd e c95⟩
   ·obtain ⟨eC,hS,hax,hlC,hsk2⟩:=hBC95
    have hxl:xC95.l.length≤4000:=by
     rw [hlC]
     have:=(fnd_in hv (cndP ws T ii (j:Nat)) a2).1
     have:=hce _ a2
     omega
    have zC:=eC.size
    refine Vr<|oS rfl<|oS rfl<|VL.appendT el22 (fun _=>rfl) rfl (rfl) (ho7.ext eC) rfl (rfl) (hS) (hax) (by omega) (by unfold maxLen;omega) (show w6.heap.size≤wBC95.heap.size by omega) rfl fun a37 c37 w37 ho37 m37 hf37=>oT rfl<|Vn<|Vr<|oD rfl rfl<|oI rfl<|Vn (?_)
    refine ⟨(j+1,a37,c37),by dsimp only;rw [cndX_succ,←hlC,List.length_append];rfl,⟨by dsimp only;omega,(e7.trans eC).ownA m37 fun q hq=>ho7.ge q hq,by dsimp only;rw [cndX_succ,←hlC];exact ho37,fun j' hj' e=>?_⟩,by dsimp only;omega⟩
    dsimp only at hj'
    by_cases h:j'=j
    ·exact hsk2 (by omega)
    ·exact hsk j' (by omega) e
  ·have hjL:j=L.length:=by omega
   have hns:¬skpB ws T (grV g) ii:=fun h=>hsk ii.toNat (by have:=h.1;have:=h.2.1;omega) (by have:=h.1;omega) h
   refine Vr<|oS rfl<|VL.callK call47 rfl (sortI_spec sa sc w6.heap.size (cndX ws T (grV g) ii j) _ ho7 (by omega)) fun w39 h39=>Vn<|Vs (?_)
   obtain ⟨m39,ho39⟩:=h39
   obtain ⟨S,hS⟩:∃ S,S=srtF (cndX ws T (grV g) ii j):=⟨_,rfl⟩
   have hSl:(cndX ws T (grV g) ii j).length=S.length:=by rw [hS,srtF_len]
   have hSr:∀ v∈S,0≤v∧v<(ws.length:Int):=fun v hv'=>by
    rw [hS,srtF_mem] at hv'
    have:=cndX_rng hv ws T ii j (by omega) v hv'
    omega
   have hset:=hiK_set (ws:=ws) (t:=T) (g:=grV g) (n:=n) (by rw [←hii];exact hns) (S:=S) (by rw [hS,←hii,hjL,hLl])
   rw [←hS] at ho39
   rw [hSl]
   have E39:Ext w6 w39:=e7.ownA m39 fun q hq=>ho7.ge q hq
   have hP39:=hP6.ext E39
   have ho6':=ho6.ext E39
   have hSn:S.length≤4000:=by omega
   have hrl:(resW (hiK ws T (grV g) n)).length≤1000000:=by
    cases hk:hiK ws T (grV g) n with
    | none=>exact Nat.zero_le _
    | some Q =>
     have h1:=setB_iff.1 ((hi_inv hv ws n (by omega)).1 Q (by rw [←hTo];exact hk)).1.set
     have h2:=set_len h1.1 h1.2 (by omega)
     show Q.length≤1000000
     omega
   have hyes:∀ {w40 w41:World},Ext w39 w40→Vc.Mod (Vc.one b5_0) w40 w41→Blk w41 b5_0 (.cells (encSp { X with hi:=⟨sa,sc,S⟩ }).toArray 32 (0,0))→Vc.Mod (Vc.one b5_0) w6 w41∧PkW b0_1 b5_0 wa wc ws { X with hi:=⟨sa,sc,S⟩ } w41∧OwnT Vc.encI 1 3 wBB4.heap.size w41 sa sc S:=fun e m hb=>by
    have hP40:=hP39.ext e
    refine ⟨((E39.trans e).weaken fun _ _ h=>h.elim).then m fun _ _ h=>h,⟨hP40.wb.mod m fun (e:b0_1=_)=>by omega,modP hP40.v m fun q hp hq (e:q=_)=>by have:=hwa q hp hq;omega,hb⟩,?_⟩
    exact ((ho39.ext e).mod m fun q hq (e2:q=_)=>by have:=(ho39.ext e).ge q hq;omega).weaken z6
   have hno:∀ {w40:World},Ext w39 w40→Vc.Mod (Vc.one b5_0) w6 w40∧PkW b0_1 b5_0 wa wc ws { X with hi:=⟨ha,hc,resW (hiK ws T (grV g) n)⟩ } w40∧OwnT Vc.encI 1 3 wBB4.heap.size w40 ha hc (resW (hiK ws T (grV g) n)):=fun e =>
    ⟨(E39.trans e).weaken fun _ _ h=>h.elim,hP39.ext e,ho6'.ext e⟩
   refine V.regionQ mixed 13 (by kernel_rfl) rfl (fun w'=>Ext _ w') (Ext.drawn _)<|VQ.op (fun wq eq=>R.ld1 ag22 rfl (show _=some (Value.slice wa ws.length wc) from (hP39.wb.ext eq).cell 0))<|qS rfl<|VQ.callP (fun _ _ h k=>Mod.trans h k) call45 rfl (fun wq eq=>greatest31_spec wa wc ws sa sc S wq (hP39.v.ext eq) hwl (ho39.sl.ext eq) (by omega) hSr)<|VQ.op (fun wq eq=>R.fld' (o:=1) ru32 rfl rfl sz3 rfl rfl)<|VQ.op (fun wq eq=>R.ld1 ag3 rfl (show _=some (Value.int .i64 X.to) from (hP39.sp.ext eq).cell 1))<|VQ.op (fun wq eq=>R.eql rfl rfl)<|qB rfl<|VQ.andP rfl rfl (fun g40_6=>qB rfl<|qT<|VQ.op (fun wq eq=>R.not rfl)<|qT<|qB rfl<|VQ.or rfl rfl (fun g40_9=>qS rfl<|qT<|VQ.op (fun wq eq=>R.fld' (o:=3) ru32 rfl rfl sz22 rfl rfl)<|qT<|VQ.op (fun wq eq=>R.ld1 ag22 rfl (show _=some (Value.slice ha (resW (hiK ws T (grV g) n)).length hc) from (hP39.sp.ext eq).cell 3))<|VQ.nil fun w40q e40q=>lT<|VL.callP call50 rfl (cmpL_spec sa ha sc hc S (resW (hiK ws T (grV g) n)) _ (by omega) (by omega) (ho39.sl.ext ((Vc.Mod.refl Vc.nob w39).trans e40q)) (ho6'.sl.ext ((Vc.Mod.refl Vc.nob w39).trans e40q))) fun w40_13 e40_13=>lT<|oL rfl rfl<|lT<|oQ rfl rfl<|oP rfl rfl<|Vn<|V.condP rfl (fun c129=>Vr<|oS rfl<|Vo (R.fld' (o:=3) ru32 rfl rfl sz22 rfl rfl)<|VL.store (v:=.slice _ _ _) sz22 rfl rfl rfl rfl (hP39.sp.ext (((Vc.Mod.refl Vc.nob w39).trans e40q).trans e40_13)) rfl rfl fun w41 m41 hs41 hB41=>oA rfl<|Vn (?_)) (fun c129=>V.skip (?_))) (fun g40_9=>qF<|qF<|VQ.nil fun w40q e40q=>lF<|lF<|lT<|oP rfl rfl<|oP rfl rfl<|Vn<|V.condT rfl<|Vr<|oS rfl<|Vo (R.fld' (o:=3) ru32 rfl rfl sz22 rfl rfl)<|VL.store (v:=.slice _ _ _) sz22 rfl rfl rfl rfl (hP39.sp.ext ((Vc.Mod.refl Vc.nob w39).trans e40q)) rfl rfl fun w41 m41 hs41 hB41=>oA rfl<|Vn (?_))) (fun g40_6=>qF<|qF<|VQ.gU rfl rfl<|VQ.gU rfl rfl<|VQ.gU rfl rfl<|VQ.nil fun w40q e40q=>VL.gU rfl rfl<|VL.gU rfl rfl<|lF<|oQ rfl rfl<|Vn<|V.condF rfl<|V.skip (?_))
   ·have hlt:lexB S (resW (hiK ws T (grV g) n))=true:=by
     cases hb:lexB S (resW (hiK ws T (grV g) n)) with
     | true=>rfl
     | false =>
      exfalso
      unfold cmpL at c129
      rw [hb,if_neg (by decide)] at c129
      split at c129 <;> omega
    have hk:hiK ws T (grV g) (n+1)=some S:=by rw [hset,if_pos ⟨by omega,.inr hlt⟩]
    rw [hk]
    exact ⟨(sa,sc),rfl,hyes (e40q.trans e40_13) m41 hB41⟩
   ·have hlt:lexB S (resW (hiK ws T (grV g) n))=false:=by
     cases hb:lexB S (resW (hiK ws T (grV g) n)) with
     | false=>rfl
     | true =>
      exfalso
      unfold cmpL at c129
      rw [hb,if_pos rfl] at c129
      omega
    have hk:hiK ws T (grV g) (n+1)=hiK ws T (grV g) n:=by
     rw [hset,if_neg fun h=>?_]
     rcases h.2 with h | h
     ·rw [h] at g40_9;cases g40_9
     ·rw [hlt] at h;cases h
    rw [hk]
    have hsm:(hiK ws T (grV g) n).isSome=true:=by simpa using g40_9
    exact ⟨(ha,hc),rfl,hno (e40q.trans e40_13)⟩
   ·have hn0:hiK ws T (grV g) n=none:=by
     cases hh:hiK ws T (grV g) n with
     | none=>rfl
     | some Q=>rw [hh] at g40_9;cases g40_9
    have hk:hiK ws T (grV g) (n+1)=some S:=by rw [hset,if_pos ⟨by omega,.inl hn0⟩]
    rw [hk]
    exact ⟨(sa,sc),rfl,hyes e40q m41 hB41⟩
   ·have hk:hiK ws T (grV g) (n+1)=hiK ws T (grV g) n:=by rw [hset,if_neg fun h=>g40_6 (by omega)]
    rw [hk]
    exact ⟨(ha,hc),rfl,hno e40q⟩
 ·obtain ⟨m7,hP7,ho7⟩:=hBB7
  refine Vr<|oI rfl<|oD rfl rfl<|oJ rfl<|Vn (?_)
  refine ⟨(n+1,xB7.1,xB7.2),?_,⟨by dsimp only;omega,m6.trans m7,hP7,ho7⟩,by dsimp only;omega⟩
  dsimp only
  rw [show (((n+1:Nat):Int)-1)=(n:Nat)-1+1 by omega]
  rfl
 ·have hne:n=L.length+1:=by omega
  have hS6:=(hS1.ext e4).ext E6
  refine Vr<|Vo (R.ldA ag32 sz32 rfl rfl (show RowAt _ _ _ (encSp { X with hi:=⟨ha,hc,resW (hiK ws T (grV g) n)⟩ }) from hP6.sp.rowAt 0 6) rfl)<|VL.store (v:=.agg _) sz32 rfl rfl rfl rfl hS6 rfl rfl fun w42 m42 hs42 hB42=>oJ rfl<|Vn<|V.ret (fretCT (v:=.int _ _) rfl rfl rfl rfl rfl ag32 sz32 rfl (hB42.rowAt 0 6) rfl (?_))
  have m42':Vc.Mod (Vc.one b0_2) w6 w42:=m42
  have hzb:w.heap.size≤wBB0.heap.size:=by omega
  have k0:=hb0_2
  have z01:=(e0_0.trans e0_1).size
  have hX1:X.P=[]:=by rw [hX];rfl
  have hX2:X.Q=[]:=by rw [hX];rfl
  have hX3:X.pa=none:=by rw [hX];rfl
  have hX4:X.pc=0:=by rw [hX];rfl
  have hX5:X.qa=none:=by rw [hX];rfl
  have hX6:X.qc=0:=by rw [hX];rfl
  have hX7:X.lo=⟨la,lc,lowG ws (grV g)⟩:=by rw [hX]
  have hX8:X.fr=F:=by rw [hX]
  refine ⟨({ X with hi:=⟨ha,hc,resW (hiK ws T (grV g) n)⟩ },0),rfl,⟨⟨?_,?_,?_,?_⟩,⟨h0.symm,fun h=>absurd rfl h,fun _=>?_,fun _=>?_,fun _=>?_,fun _=>?_,hX1,hX2⟩⟩,?_⟩
  ·rw [hX7]
   exact ((hlo11.mod m6 fun q hq (e:q=_)=>by have:=hlo11.ge q hq;omega).mod m42' fun q hq (e:q=_)=>by have:=hlo11.ge q hq;omega).weaken hzb
  ·exact (ho6.mod m42' fun q hq (e:q=_)=>by have:=ho6.ge q hq;omega).weaken (by omega)
  ·show OwnT encS4 4 100 _ _ X.pa X.pc X.P
   rw [hX1,hX3,hX4];exact OwnT.nil _ _ _ _ _
  ·show OwnT encS4 4 100 _ _ X.qa X.qc X.Q
   rw [hX2,hX5,hX6];exact OwnT.nil _ _ _ _ _
  ·show X.lo.l=_
   rw [hX7]
  ·show resW (hiK ws T (grV g) n)=highG ws (grV g)
   rw [hne,hLl,hTo];rfl
  ·show X.fr=_
   rw [hX8,hF]
  ·show X.to=_
   rw [hXt,hTo]
  ·exact (E4.trans E6).own m42' (by omega)
end Go.Proofs.YtdkhcipjenfcnaaGreatDoor
