/- Hyper: graphs; is one valid? -/
import Derived.Test.YtdkhcipjenfcnaaGreatDoorXH13
namespace Go.Proofs.YtdkhcipjenfcnaaGreatDoor
set_option maxRecDepth 100000
set_option maxHeartbeats 16000000
open Go.Vc Go.Proofs.Tryz
structure GrW where
 n:Int
 ca:Option Addr
 cc:Nat
 cost:List Int
 ea:Option Addr
 ec:Nat
 edges:List SlI
instance:Inhabited GrW:=⟨⟨0,none,0,[],none,0,[]⟩⟩
def encGr (g:GrW):List Value:=[.int .i64 g.n,.slice g.ca g.cost.length g.cc,.slice g.ea g.edges.length g.ec]
structure GOk (w:World) (g:GrW):Prop where
 c:IntSl w g.ca g.cost
 e:LL w g.ea g.edges
theorem GOk.ext {w w':World} {g:GrW} (h:GOk w g) (e:Ext w w'):GOk w' g:=⟨h.c.ext e,h.e.ext e⟩
def grV (g:GrW):Gr:=⟨g.n,g.cost,vals g.edges⟩
structure GLen (g:GrW):Prop where
 c:g.cost.length≤9223372036854775807
 e:g.edges.length≤9223372036854775807
 each:∀ x∈g.edges,x.l.length≤1000000∧(x.a=none→x.c=0)
theorem valid_spec (g:GrW) (B:Nat) (w:World) (hG:GOk w g) (hl:GLen g) (hB:B≤w.heap.size) (hT:TabW B w) :
  RetsP prog 56 #[.agg (encGr g).toArray] w (.bool (validG (grV g))):=by
 have hc:=hl.c
 have he:=hl.e
 refine eN (args:=[_]) func56 rfl ntmps56 ?_
 refine Vs<|Vr<|VL.box (v:=.agg _) rfl fun b0_0 w0_0 hb0_0 e0_0 hB0_0=>oA rfl<|Vn<|Vs<|Vs<|Vr<|Vo (R.fld' (o:=0) ru25 rfl rfl sz3 rfl rfl)<|Vo (rla ag3 rfl (hB0_0.cell _))<|Vo (R.fld' (o:=1) ru25 rfl rfl sz22 rfl rfl)<|Vo (rla ag22 rfl (hB0_0.cell _))<|Vp call96 rfl (weighed_spec g.n g.ca g.cc g.cost _ (hG.c.ext e0_0) hc) fun w1_4 e1_4=>Vo (R.not rfl)<|oB rfl<|VL.or rfl rfl (fun g1_6=>Vo (R.fld' (o:=2) ru25 rfl rfl sz23 rfl rfl)<|lT<|Vo (rla ag23 rfl ((hB0_0.ext e1_4).cell _))<|lT<|Vo (R.lenS ru23 rfl)<|lT<|Vo (R.gtr rfl rfl)<|oQ rfl rfl<|Vn<|Vd rfl (fun c16=>Vs<|Vr<|oA rfl<|Vn<|Vt<|tB rfl rfl rfl (⟨?_,(e0_0.trans e1_4)⟩)) (fun c16=>Vk<|Vs<|Vs<|Vr<|Vo (R.fld' (o:=2) ru25 rfl rfl sz23 rfl rfl)<|Vo (rla ag23 rfl ((hB0_0.ext e1_4).cell _))<|Vo (R.lenS ru23 rfl)<|oI rfl<|Vn<|Vb (?_))) (fun g1_6=>lF<|lF<|lF<|oP rfl rfl<|Vn<|Vg rfl<|Vs<|Vr<|oA rfl<|Vn<|Vt<|tB rfl rfl rfl (⟨?_,(e0_0.trans e1_4)⟩))
 ·have:¬validG (grV g)=true:=fun h=>by
   have:=(validG_iff.1 h).2.1
   simp [grV] at this;omega
  simp [this]
 ·have hw1:=e0_0.trans e1_4
  have hc1:costB g.n g.cost=true:=by simpa using g1_6
  have hn:=costB_iff.1 hc1
  have hBx:=hB0_0.ext e1_4
  have hG1:=hG.ext hw1
  refine Vl [1,18,19,20] (fun k:Nat=>[pA b0_0,.slice g.ea g.edges.length g.ec,.int .i64 (g.edges.length:Nat),.int .i64 (k:Nat)]) (fun k w'=>k≤g.edges.length∧(∀ i,i<k→edgeB g.n (g.edges.getD i default).l=true)∧Ext w1_4 w') (fun k=>g.edges.length-k) 0 rfl ⟨Nat.zero_le _,fun i h=>absurd h (Nat.not_lt_zero i),Vc.Mod.refl _ _⟩ ?_
  rintro ρ k w2 ⟨hk,hi,e⟩
  have hG2:=hG1.ext e
  have hB2:=hBx.ext e
  refine Vs<|Vr<|oL rfl rfl<|Vn<|Vs<|Vd rfl (fun c21=>Vk<|Vs<|Vb<|Vs<|Vr<|Vo (iX ru23 sz22 rfl rfl ((hG2.e.sl).some (i:=k) (by omega)))<|Vo (rla ag22 rfl ((((hG2.e.sl).ext (Mod.refl _ _)).row (i:=k) (by omega)).c0a rfl))<|oT rfl<|Vn<|Vs (?_)) (fun c21=>Ve<|Vs (?_))
  ·have hkl:k<g.edges.length:=by omega
   refine Vr<|oS rfl<|Vo (R.lenS ru22 rfl)<|Vo (R.eql rfl rfl)<|oB rfl<|VL.orP rfl rfl (fun g6_3=>oS rfl<|lT<|Vo (R.fld' (o:=0) ru25 rfl rfl sz3 rfl rfl)<|lT<|Vo (rla ag3 rfl (show _=some (.int .i64 g.n) from hB2.cell 0))<|lT<|Vp call58 rfl (isSet_spec (g.edges.getD k default).a (g.edges.getD k default).c (g.edges.getD k default).l g.n _ (by have:=(hl.each _ (gmem hkl)).1;omega) ((hG2.e.at hkl).ext (Mod.refl _ _))) fun w6_7 e6_7=>lT<|Vo (R.not rfl)<|oQ rfl rfl<|Vn<|Vh rfl (fun c33=>Vs<|Vr<|oA rfl<|Vn<|Vt<|tB rfl rfl rfl (⟨?_,(hw1.trans e).trans e6_7⟩)) (fun c33=>Vk<|Vr<|oD rfl rfl<|oI rfl<|Vn (⟨k+1,rfl,⟨by omega,fun i h=>?_,e.trans e6_7⟩,by omega⟩))) (fun g6_3=>lF<|lF<|lF<|lF<|oP rfl rfl<|Vn<|Vg rfl<|Vs<|Vr<|oA rfl<|Vn<|Vt<|tB rfl rfl rfl (⟨?_,(hw1.trans e).trans (Mod.refl _ _)⟩))
   ·have hf:¬validG (grV g)=true:=fun h=>by
     have:=(validG_iff.1 h).2.2.1 _ (List.mem_map_of_mem (gmem hkl))
     have hs:=setB_iff.2 this.2
     rw [show (grV g).n=g.n from rfl] at hs
     rw [hs] at c33;cases c33
    simp [hf]
   ·by_cases h2:i=k
    ·subst h2
     have hne:(g.edges.getD i default).l≠[]:=fun h=>by rw [h] at g6_3;simp at g6_3
     unfold edgeB
     rw [decide_eq_true hne,Bool.true_and]
     simpa using c33
    ·exact hi i (by omega)
   ·have hf:¬validG (grV g)=true:=fun h=>by
     have:=(validG_iff.1 h).2.2.1 _ (List.mem_map_of_mem (gmem hkl))
     exact this.1 (List.eq_nil_of_length_eq_zero (by omega))
    simp [hf]
  ·have hke:k=g.edges.length:=by omega
   subst hke
   have hw2:=hw1.trans e
   have hall:∀ x∈g.edges,x.l≠[]∧Inc x.l∧∀ y∈x.l,0≤y∧y<g.n:=fun x hx=>by
    obtain ⟨i,hil,rfl⟩:=List.getElem_of_mem hx
    have:=edgeB_iff.1 (hi i hil)
    rwa [gget hil] at this
   refine V.regionS mixed 5 (by kernel_rfl) rfl (fun us=>VS.op (fun wq eq=>R.fld' (o:=2) ru25 rfl rfl sz23 rfl rfl) (VS.op (fun wq eq=>rla ag23 rfl (show wq.cell? ⟨b0_0,2,none⟩=some (Value.slice g.ea g.edges.length g.ec) from (hB2.ext eq).cell 2)) (VS.callX (fun u w'=>∃ z:List SlI×Option Addr×Nat,u=.slice z.2.1 z.1.length z.2.2∧vals z.1=minF (vals g.edges)∧LL w' z.2.1 z.1∧z.1.length≤g.edges.length∧∀ x∈z.1,x.l.length≤1000000) (fun u a b _ ⟨z,h1,h2,h3,h4⟩ eb=>⟨z,h1,h2,h3.ext eb,h4⟩) call98 rfl (fun wq eq hq=>Rets.mono (minimal_spec g.ea g.ec B g.edges wq (by omega) (hG2.e.ext eq) (fun x hx=>⟨(hl.each x hx).1,(hl.each x hx).2,fun y hy=>by have:=(hall x hx).2.2 y hy;omega⟩) (Nat.le_trans hB (hw2.trans eq).size) (hT.ext hB (hw2.trans eq))) fun u w' ⟨z,hu,⟨h1,h2,_,_,h5,_⟩,he⟩=>⟨⟨z,hu,h1,h2,h5⟩,he⟩) (VS.op (fun wq eq=>R.fld' (o:=2) ru25 rfl rfl sz23 rfl rfl) (VS.op (fun wq eq=>rla ag23 rfl (show wq.cell? ⟨b0_0,2,none⟩=some (Value.slice g.ea g.edges.length g.ec) from (hB2.ext eq).cell 2)) (VS.nil (fun w9 e9 h9=>?_))))))) rfl
   obtain ⟨z,hz,hzm,hzL,hzn,hzl⟩:=h9 2
   rw [hz]
   refine Vp call97 rfl (equalF_spec z.1 g.edges z.2.1 g.ea z.2.2 g.ec _ (by omega) (by omega) (fun x hx=>Nat.le_trans (hzl x hx) (by decide)) (fun x hx=>Nat.le_trans (hl.each x hx).1 (by decide)) hzL (hG2.e.ext e9)) fun w9_5 e9_5=>oA rfl<|Vn<|Vt<|tB rfl rfl rfl (⟨?_,(hw2.trans e9).trans e9_5⟩)
   rw [hzm]
   refine congrArg Value.bool ?_
   have h1:(grV g).edges.all (edgeB (grV g).n)=true:=by
    rw [List.all_eq_true]
    intro y hy
    obtain ⟨x,hx,rfl⟩:=List.mem_map.1 hy
    exact edgeB_iff.2 (hall x hx)
   have h2:(grV g).edges.length≤20000:=by
    show (vals g.edges).length≤20000
    rw [List.length_map];omega
   unfold validG
   rw [h1,decide_eq_true h2,show costB (grV g).n (grV g).cost=true from hc1]
   simp only [Bool.true_and]
   exact decide_eq_decide.2 Iff.rfl
 ·have:¬validG (grV g)=true:=fun h=>by
   have:=(validG_iff.1 h).1
   have g1_6:costB g.n g.cost=false:=by simpa using g1_6
   rw [show (grV g).n=g.n from rfl,show (grV g).cost=g.cost from rfl,g1_6] at this
   cases this
  simp [this]
structure GNew (w:World) (w':World) (g:GrW):Prop where
 ok:GOk w' g
 cc:g.cost.length≤g.cc∧(g.ca=none→g.cc=0)
 each:∀ x∈g.edges,x.l.length≤x.c∧x.l.length≤1000000
theorem GNew.zero (w w':World):GNew w w' default:=⟨⟨TSl.nil _ _ _ _,TSl.nil _ _ _ _,fun _x hx=>nomatch hx⟩,⟨Nat.le_refl _,fun _=>rfl⟩,fun _x hx=>nomatch hx⟩
theorem find_spec (Bn:Nat) (a:Option Addr) (cap B:Nat) (c:List Int) (i:Nat) (w:World) (hb:Blk w Bn (.cells #[.slice a c.length cap] 22 (0,0))) (hbn:¬aBlk a Bn) (ho:OwnT Vc.encI 1 3 B w a cap c) (hc:Cls c) (hi:i<c.length) (_hm:c.length≤1000000) :
  RetsY prog 57 #[.int .i64 i,pA Bn] w (fun _:List Int=>.int .i64 (rootF c i:Nat)) (fun c' w'=>OwnT Vc.encI 1 3 B w' a cap c'∧Vc.Alike c c'∧Vc.Mod (aBlk a) w w'):=by
 refine eN (args:=[_,_]) func57 rfl ntmps57 ?_
 refine Vs<|Vr<|oJ rfl<|Vn<|Vs<|Vb (?_)
 refine Vl [0,1] (fun x:List Int×Nat=>[.int .i64 (x.2:Nat),pA Bn]) (fun x w'=>x.2<c.length∧OwnT Vc.encI 1 3 B w' a cap x.1∧Vc.Alike c x.1∧rootF c x.2=rootF c i∧Vc.Mod (aBlk a) w w') (fun x=>x.2) (c,i) rfl ⟨hi,ho,Vc.Alike.refl hc,rfl,Vc.Mod.refl _ _⟩ ?_
 rintro ρ ⟨d,j⟩ w1 ⟨hj,hd,hA,hr,m1⟩
 dsimp only at hj hd hA hr m1 ⊢
 have hjd:j<d.length:=by rw [hA.len];exact hj
 have hp:=hA.cls.par hjd
 have hp2:=hA.cls.par (i:=par d j) (by omega)
 have hlen:=hA.len
 have hb1:Blk w1 Bn (.cells #[.slice a c.length cap] 22 (0,0)):=hb.mod m1 hbn
 have hg:(d.getD j default).toNat=par d j:=rfl
 refine Vs<|Vs<|Vr<|Vo (rla ag22 rfl (hb1.cell _))<|oI rfl<|Vo (iX ru22 sz3 rfl rfl ((hd.sl).some (i:=j) (by omega)))<|Vo (rla ag3 rfl ((((hd.sl).ext (Mod.refl _ _)).row (i:=j) (by omega)).c0a rfl))<|oI rfl<|Vo (R.neq rfl rfl)<|Vn<|Vd rfl (fun c9=>Vk<|Vb<|Vs<|rQ 9 (Vq (fun wq eq=>rla ag22 rfl (show wq.cell? ⟨Bn,0,none⟩=some (Value.slice a c.length cap) from (hb1.ext eq).cell 0))<|qI rfl<|Vq (fun wq eq=>rla ag22 rfl (show wq.cell? ⟨Bn,0,none⟩=some (Value.slice a c.length cap) from (hb1.ext eq).cell 0))<|Vq (fun wq eq=>rla ag22 rfl (show wq.cell? ⟨Bn,0,none⟩=some (Value.slice a c.length cap) from (hb1.ext eq).cell 0))<|qI rfl<|Vq (fun wq eq=>iX ru22 sz3 rfl rfl ((hd.sl).some (i:=j) (by omega)))<|Vq (fun wq eq=>rla ag3 rfl ((((hd.sl).ext eq).row (i:=j) (by omega)).c0a rfl))<|Vq (fun wq eq=>iX ru22 sz3 rfl rfl ((hd.sl).some (i:=par d j) (by omega)))<|Vq (fun wq eq=>rla ag3 rfl ((((hd.sl).ext eq).row (i:=par d j) (by omega)).c0a rfl))<|Vj fun w2q e2q=>Vo (iX ru22 sz3 rfl rfl ((hd.sl).some (i:=j) (by omega)))<|VL.ownSt eltI (v:=.int _ _) sz3 (hd.ext e2q) j 0 (d.getD (par d j) default) rfl rfl (by omega) rfl rfl rfl rfl rfl fun w2 hd2 m2 hs2=>Vn (?_))) (fun c9=>Ve<|Vs<|Vr<|oI rfl<|oJ rfl<|Vn<|Vt (fret1 (v:=.int _ _) rfl rfl rfl (?_)))
 ·have hnew:d.set j (d.getD (par d j) default)=d.set j ((par d (par d j):Nat):Int):=by rw [hp2.1]
  rw [hnew] at hd2
  have hb2:Blk w2 Bn (.cells #[.slice a c.length cap] 22 (0,0)):=(hb1.ext e2q).mod m2 hbn
  have hA2:=Vc.Alike.halve hA.cls hjd
  have hv:(d.set j ((par d (par d j):Nat):Int)).getD j default=((par d (par d j):Nat):Int):=by simp [List.getD,hjd]
  have hne:par d j≠j:=fun e=>c9 (by rw [hp.1,e])
  have hlen2:(d.set j ((par d (par d j):Nat):Int)).length=c.length:=by simp [hlen]
  refine Vr<|Vo (rla ag22 rfl (hb2.cell _))<|oI rfl<|Vo (iX ru22 sz3 rfl rfl ((hd2.sl).some (i:=j) (by omega)))<|Vo (rla ag3 rfl ((((hd2.sl).ext (Mod.refl _ _)).row (i:=j) (by omega)).c0a rfl))<|oJ rfl<|Vn (?_)
  refine ⟨(d.set j ((par d (par d j):Nat):Int),par d (par d j)),?_,⟨by dsimp only;omega,hd2,hA.trans hA2,?_,(m1.ext e2q).then m2 fun _ _ h=>h⟩,by dsimp only;omega⟩
  ·exact congrArg (fun z:Int=>[Value.int .i64 z,pA Bn]) hv
  ·dsimp only
   rw [←hr,←hA.root j hj,←hA.root _ (by omega),rootF_eq hA.cls hjd,if_neg hne,rootF_eq hA.cls (i:=par d j) (by omega)]
   by_cases e:par d (par d j)=par d j
   ·rw [if_pos e,e];exact rootF_self hA.cls (by omega) e
   ·rw [if_neg e]
 ·have he:par d j=j:=by
   have h1:d.getD j default=(j:Int):=Classical.not_not.1 c9
   unfold par;rw [h1];rfl
  have hrj:rootF c i=j:=by rw [←hr,←hA.root j hj];exact rootF_self hA.cls hjd he
  exact ⟨d,by rw [hrj],hd,hA,m1⟩
def kI (x:Int):Value:=.int .i64 x
theorem key3:KeyT prog 3 kI where
 td:=⟨_,underlying3,fun a b=>by right;simp only [Instr.sameNow,kI];exact congrArg some (Bool.eq_iff_iff.2 (by simp))⟩
 eq:=by
  intro a b w
  show (Op.equalIn (9999+1) 3 _ _).run prog w=_
  unfold Op.equalIn
  simp [go_sem,kI]
  exact Bool.eq_iff_iff.2 (by simp)
 chk:=fun e a w=>chkI (P:=prog) (T:=3) (n:=9999) (e:=e) (k:=.i64) (x:=a) ru3 w
 stay:=by
  intro a
  show Instr.sameBits (9999+1) _ _=true
  simp [kI,Instr.sameBits]
theorem eltSl:Elt encSl 1:=⟨fun _=>rfl,fun _=>rfl,by decide⟩
def vN (n:Nat):Value:=.int .i64 (n:Nat)
structure GLs (B:Nat) (w:World) (a:Option Addr) (c:Nat) (z:List SlI):Prop where
 own:OwnT encSl 1 22 B w a c z
 each:∀ i,OwnT Vc.encI 1 3 B w (z.getD i default).a (z.getD i default).c (z.getD i default).l
 out:∀ i,Sep a (z.getD i default).a
 sep:∀ i j,i≠j→Sep (z.getD i default).a (z.getD j default).a
theorem GLs.ext {B:Nat} {w w':World} {a:Option Addr} {c:Nat} {z:List SlI} (h:GLs B w a c z) (e:Ext w w'):GLs B w' a c z :=
 ⟨h.own.ext e,fun i=>(h.each i).ext e,h.out,h.sep⟩
theorem GLs.mod {B:Nat} {w w':World} {a:Option Addr} {c:Nat} {z:List SlI} {S:Nat→Prop} (h:GLs B w a c z) (m:Vc.Mod S w w') (hS:∀ k,S k→k<B):GLs B w' a c z :=
 ⟨h.own.mod m fun k h1 h2=>by have:=h.own.ge k h1;have:=hS k h2;omega,fun i=>(h.each i).mod m fun k h1 h2=>by have:=(h.each i).ge k h1;have:=hS k h2;omega,h.out,h.sep⟩
theorem GLs.nil (B:Nat) (w:World):GLs B w none 0 [] :=
 ⟨OwnT.nil _ _ _ _ _,fun _=>OwnT.nil _ _ _ _ _,fun _=>Sep.nil _,fun _ _ _=>Sep.nil _⟩
theorem getD_snoc (z:List SlI) (i:Nat):(z++[default]).getD i default=z.getD i default:=by
 rcases Nat.lt_trichotomy i z.length with h | h | h
 ·simp [List.getD,List.getElem?_append_left h]
 ·subst h;simp [List.getD]
 ·simp [List.getD,List.getElem?_eq_none (show z.length≤i by omega),List.getElem?_eq_none (show (z++[default]).length≤i by simp;omega)]
theorem GLs.add {B:Nat} {w w':World} {a a':Option Addr} {c c':Nat} {z:List SlI} (h:GLs B w a c z) (ho:OwnT encSl 1 22 B w' a' c' (z++[default])) (m:Vc.Mod (aBlk a) w w') (hf:∀ k,aBlk a' k→aBlk a k∨w.heap.size≤k):GLs B w' a' c' (z++[default]) :=
 ⟨ho,fun i=>by rw [getD_snoc];exact (h.each i).mod m fun k h1 h2=>h.out i k h2 h1,fun i=>by rw [getD_snoc];exact (h.out i).grown hf (h.each i).lt,fun i j hij=>by rw [getD_snoc,getD_snoc];exact h.sep i j hij⟩
theorem GLs.app {B:Nat} {w w1 w2:World} {a a':Option Addr} {c c':Nat} {z:List SlI} {k:Nat} {l:List Int} (h:GLs B w a c z) (hk:k<z.length) (ho:OwnT Vc.encI 1 3 B w1 a' c' l) (m:Vc.Mod (aBlk (z.getD k default).a) w w1) (hf:∀ x,aBlk a' x→aBlk (z.getD k default).a x∨w.heap.size≤x)
  (ho2:OwnT encSl 1 22 B w2 a c (z.set k ⟨a',c',l⟩)) (m2:Vc.Mod (aBlk a) w1 w2):GLs B w2 a c (z.set k ⟨a',c',l⟩):=by
 have hg:∀ i,(z.set k (⟨a',c',l⟩:SlI)).getD i default=if i=k then ⟨a',c',l⟩ else z.getD i default:=fun i=>by
  by_cases e:i=k
  ·subst e;simp [List.getD,hk]
  ·rw [if_neg e];simp [List.getD,List.getElem?_set_ne (Ne.symm e)]
 have hs1:Sep a' a:=((h.out k).symm).grown hf h.own.lt
 have hs2:∀ i,i≠k→Sep a' (z.getD i default).a:=fun i hi=>(h.sep k i (Ne.symm hi)).grown hf (h.each i).lt
 refine ⟨ho2,fun i=>?_,fun i=>?_,fun i j hij=>?_⟩
 ·rw [hg]
  split
  ·exact ho.mod m2 fun k h1 h2=>hs1 k h1 h2
  ·rename_i e
   exact ((h.each i).mod m fun x h1 h2=>h.sep i k e x h1 h2).mod m2 fun x h1 h2=>h.out i x h2 h1
 ·rw [hg]
  split
  ·exact hs1.symm
  ·exact h.out i
 ·rw [hg,hg]
  split
  ·split
   ·omega
   ·rename_i e;exact hs2 _ e
  ·split
   ·rename_i e _;exact (hs2 _ e).symm
   ·exact h.sep i j hij
theorem GLs.LL {B:Nat} {w:World} {a:Option Addr} {c:Nat} {z:List SlI} (h:GLs B w a c z):LL w a z :=
 ⟨h.own.sl,fun x hx=>by
  obtain ⟨i,hi,rfl⟩:=List.getElem_of_mem hx
  have:=(h.each i).sl
  rwa [gget hi] at this⟩
end Go.Proofs.YtdkhcipjenfcnaaGreatDoor
