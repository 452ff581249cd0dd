/- Hyper: the components. -/
import Derived.Test.YtdkhcipjenfcnaaGreatDoorXHG
namespace Go.Proofs.YtdkhcipjenfcnaaGreatDoor
set_option maxRecDepth 100000
set_option maxHeartbeats 16000000
open Go.Vc Go.Proofs.Tryz
structure FoJ (w0:World) (Bn:Nat) (a:Option Addr) (cap N:Nat) (d:List Int) (w:World):Prop where
 b:Blk w Bn (.cells #[.slice a N cap] 22 (0,0))
 n:¬aBlk a Bn
 o:OwnT Vc.encI 1 3 w0.heap.size w a cap d
 len:d.length=N
 e:Ext w0 w
theorem FoJ.out {w0 w w':World} {Bn cap N r:Nat} {a:Option Addr} {d:List Int} {S:Nat→Prop} (h:FoJ w0 Bn a cap N d w) (m:Vc.Mod S w w') (hS:∀ k,S k→r≤k) (hr:Bn<r∧(∀ k,aBlk a k→k<r)∧w0.heap.size≤r):FoJ w0 Bn a cap N d w' :=
 ⟨h.b.mod m fun hk=>by have:=hS _ hk;omega,h.n,h.o.mod m fun k h1 h2=>by have:=hS _ h2;have:=hr.2.1 k h1;omega,h.len,h.e.ownA m fun k hk=>by have:=hS k hk;omega⟩
theorem GLs.weaken {B B':Nat} {w:World} {a:Option Addr} {c:Nat} {z:List SlI} (h:GLs B w a c z) (hB:B'≤B):GLs B' w a c z:=⟨h.own.weaken hB,fun i=>(h.each i).weaken hB,h.out,h.sep⟩
theorem comps_specG (g:GrW) (B:Nat) (w:World) (hG:GOk w g) (hl:GLen g) (hB:B≤w.heap.size) (hT:TabW B w) :
  RetsX prog 24 #[.agg (encGr g).toArray] w (fun z:List SlI×Option Addr×Nat=>.slice z.2.1 z.1.length z.2.2) (fun z w'=>vals z.1=compsG (grV g)∧GLs w.heap.size w' z.2.1 z.2.2 z.1):=by
 refine eN (args:=[_]) func24 rfl ntmps24 ?_
 refine Vs<|Vr<|VL.box (v:=.agg _) rfl fun b0_0 w0_0 hb0_0 e0_0 hB0_0=>oT rfl<|Vn<|Vs<|Vs<|Vr<|Vo (R.ldA ag25 sz25 rfl rfl (show RowAt _ _ _ (encGr g) from (hB0_0.rowAt 0 3)) rfl)<|Vp call56 rfl (valid_spec g B _ (hG.ext e0_0) hl (Nat.le_trans hB (e0_0).size) (hT.ext hB e0_0)) fun w1_1 e1_1=>Vo (R.not rfl)<|Vn<|Vh rfl (fun c19=>Vs<|Vr<|oT rfl<|Vn<|Vt (fret1 (v:=.slice _ _ _) rfl rfl rfl (?_))) (fun c19=>Vk<|Vs (?_))
 ·have hc:compsG (grV g)=[]:=by unfold compsG;rw [if_neg];intro h;rw [h] at c19;cases c19
  exact ⟨([],none,0),rfl,⟨hc.symm,GLs.nil _ _⟩,e0_0.trans e1_1⟩
 ·have hv:validG (grV g)=true:=by simpa using c19
  have hn:=costB_iff.1 (validG_iff.1 hv).1
  obtain ⟨N,hN⟩:∃ N:Nat,g.n=(N:Int):=⟨g.n.toNat,by have h0:0≤g.n:=hn.1;omega⟩
  have hN4:N≤4000:=by have h0:g.n≤4000:=hn.2.1;omega
  have hB1:=hB0_0.ext e1_1
  have hw1:=e0_0.trans e1_1
  refine Vr<|Vo (R.fld' (o:=0) ru25 rfl rfl sz3 rfl rfl)<|Vo (rla ag3 rfl (show w1_1.cell? ⟨b0_0,0,none⟩=some (Value.int .i64 ((N:Nat):Int)) from by rw [←hN];exact hB1.cell 0))<|VL.makeSl (enc:=Vc.encI ) el22 ( (0:Int)) rfl rfl rfl (by omega) (by unfold maxLen;omega) (Nat.le_refl _) fun b3 w3 hb3 e3 ho3=>VL.allocSt (v:=.slice _ _ _) zv22 sz22 rfl rfl rfl rfl rfl fun b3_3 w3_3 hb3_3 e3_3 hB3_3=>Vn<|V.cut [1,3] (fun d:List Int=>[pA b0_0,pA b3_3]) (fun d w'=>FoJ w1_1 b3_3 (some ⟨b3,0,none⟩) N N d w'∧∀ j,j<N→d.getD j default=(j:Int)) (Vs<|Vr<|Vo (rla ag22 rfl (hB3_3.cell _))<|Vo (R.lenS ru22 rfl)<|oI rfl<|Vn<|Vb (?_)) (fun rgB0 xB0 wBB0 hBB0=>Vs (?_))
  ·refine Vl [1,3,23,24,25] (fun x:Nat×List Int=>[pA b0_0,pA b3_3,.slice (some ⟨b3,0,none⟩) N N,.int .i64 (N:Nat),.int .i64 (x.1:Nat)])
    (fun x w'=>x.1≤N∧FoJ w1_1 b3_3 (some ⟨b3,0,none⟩) N N x.2 w'∧∀ j,j<x.1→x.2.getD j default=(j:Int)) (fun x=>N-x.1) (0,List.replicate N 0) rfl ⟨Nat.zero_le _,⟨hB3_3,?_,ho3.ext e3_3,by simp,e3.trans e3_3⟩,fun j h=>absurd h (Nat.not_lt_zero j)⟩ ?_
   ·rintro ⟨ad,h,hk⟩
    injection h with h
    subst h
    have hk:b3=b3_3:=hk
    have:=ho3.lt b3 ⟨_,rfl,rfl⟩
    omega
   rintro ρ ⟨k,d⟩ w4 ⟨hk,hJ,hd⟩
   dsimp only at hk hJ hd ⊢
   have hlen:=hJ.len
   refine Vs<|Vr<|oL rfl rfl<|Vn<|Vs<|Vd rfl (fun c26=>Vk<|Vs<|Vb<|Vs<|Vr<|oI rfl<|oJ rfl<|Vn<|Vr<|Vo (rla ag22 rfl (hJ.b.cell _))<|oI rfl<|oI rfl<|Vo (iX ru22 sz3 rfl rfl ((hJ.o.sl).some (i:=k) (by omega)))<|VL.ownSt eltI (v:=.int _ _) sz3 (hJ.o) k 0 ((k:Nat):Int) rfl rfl (by omega) rfl rfl rfl rfl rfl fun w7 ho7 m7 hs7=>Vn<|Vr<|oD rfl rfl<|oI rfl<|Vn (?_)) (fun c26=>Ve (?_))
   ·refine ⟨(k+1,d.set k (k:Int)),rfl,⟨by dsimp only;omega,⟨hJ.b.mod m7 hJ.n,hJ.n,ho7,by simp [hlen],hJ.e.ownA m7 fun q hq=>hJ.o.ge q hq⟩,fun j hj=>?_⟩,by dsimp only;omega⟩
    dsimp only at hj ⊢
    by_cases h:j=k
    ·subst h;simp [List.getD,show j<d.length by omega]
    ·have:=hd j (by omega)
     rw [←this]
     simp [List.getD,List.getElem?_set_ne (Ne.symm h)]
   ·have hkN:k=N:=by omega
    subst hkN
    exact ⟨d,rfl,hJ,hd⟩
  ·obtain ⟨hJ0,hd0⟩:=hBB0
   have hlen0:=hJ0.len
   have hcls0:Cls xB0:=fun i hi=>by rw [hd0 i (by omega)];omega
   have hroot0:∀ j,j<N→rootF xB0 j=j:=fun j hj=>rootF_self hcls0 (by omega) (by unfold par;rw [hd0 j hj];rfl)
   have hE0:Blk wBB0 b0_0 (.cells (Value.agg (encGr g).toArray).cells 25 (0,0)):=hB1.ext hJ0.e
   refine Vr<|Vo (R.mkFn rfl rfl)<|Vo (R.asF rfl)<|Vn<|V.cut [1,3,5] (fun d:List Int=>[pA b0_0,pA b3_3,.func (.func 57) #[] #[pA b3_3]]) (fun d w'=>FoJ w1_1 b3_3 (some ⟨b3,0,none⟩) N N d w'∧Cls d∧∀ j,j<N→rootF d j=compE (vals g.edges) j) (Vs<|Vr<|Vo (R.fld' (o:=2) ru25 rfl rfl sz23 rfl rfl)<|Vo (rla ag23 rfl (show wBB0.cell? ⟨b0_0,2,none⟩=some (Value.slice g.ea g.edges.length g.ec) from hE0.cell 2))<|Vo (R.lenS ru23 rfl)<|oI rfl<|Vn<|Vb (?_)) (fun rgB2 xB2 wBB2 hBB2=>Vs (?_))
   ·refine Vl [1,3,5,35,36,37] (fun x:Nat×List Int=>[pA b0_0,pA b3_3,.func (.func 57) #[] #[pA b3_3],.slice g.ea g.edges.length g.ec,.int .i64 (g.edges.length:Nat),.int .i64 (x.1:Nat)])
     (fun x w'=>x.1≤g.edges.length∧FoJ w1_1 b3_3 (some ⟨b3,0,none⟩) N N x.2 w'∧Cls x.2∧∀ j,j<N→rootF x.2 j=compR (prsE (vals (g.edges.take x.1))) j) (fun x=>g.edges.length-x.1) (0,xB0) rfl ⟨Nat.zero_le _,hJ0,hcls0,fun j hj=>hroot0 j hj⟩ ?_
    rintro ρ ⟨k,d⟩ w5 ⟨hk,hJ,hC,hR⟩
    dsimp only at hk hJ hC hR ⊢
    have hE5:=(hG.ext hw1).ext hJ.e
    refine Vs<|Vr<|oL rfl rfl<|Vn<|Vs<|Vd rfl (fun c38=>Vk<|Vs<|Vb<|Vs<|Vr<|Vo (iX ru23 sz22 rfl rfl ((hE5.e.sl).some (i:=k) (by omega)))<|Vo (rla ag22 rfl ((((hE5.e.sl).ext (Mod.refl _ _)).row (i:=k) (by omega)).c0a rfl))<|oT rfl<|Vn<|Vs<|Vr<|oS rfl<|Vo (R.lenS ru22 rfl)<|oI rfl<|Vn<|Vb (?_)) (fun c38=>Ve (?_))
    ·have hkl:k<g.edges.length:=by omega
     have hxs:=(validG_iff.1 hv).2.2.1 _ (List.mem_map_of_mem (gmem hkl))
     have hxv:∀ y∈(g.edges.getD k default).l,0≤y∧y<(N:Int):=fun y hy=>by have:=hxs.2.2 y hy;rw [show (grV g).n=g.n from rfl,hN] at this;exact this
     have hxp:0<(g.edges.getD k default).l.length:=List.length_pos_iff.2 hxs.1
     have hvt:prsE (vals (g.edges.take (k+1)))=prsE (vals (g.edges.take k))++prE (g.edges.getD k default).l:=by
      rw [List.take_succ_eq_append_getElem hkl,gget hkl];unfold vals prsE;rw [List.map_append,List.flatMap_append];simp only [List.map_cons,List.map_nil,List.flatMap_cons,List.flatMap_nil,List.append_nil]
     have hxl:=(hl.each _ (gmem hkl)).1
     have hle:=hl.e
     refine Vl [1,3,5,7,35,36,37,41,42,43] (fun x:Nat×List Int=>[pA b0_0,pA b3_3,.func (.func 57) #[] #[pA b3_3],.slice (g.edges.getD k default).a (g.edges.getD k default).l.length (g.edges.getD k default).c,.slice g.ea g.edges.length g.ec,.int .i64 (g.edges.length:Nat),.int .i64 (k:Nat),.slice (g.edges.getD k default).a (g.edges.getD k default).l.length (g.edges.getD k default).c,.int .i64 ((g.edges.getD k default).l.length:Nat),.int .i64 (x.1:Nat)])
      (fun x w'=>x.1≤(g.edges.getD k default).l.length∧FoJ w1_1 b3_3 (some ⟨b3,0,none⟩) N N x.2 w'∧Cls x.2∧∀ j,j<N→rootF x.2 j=compR (prsE (vals (g.edges.take k))++(prE (g.edges.getD k default).l).take x.1) j) (fun x=>(g.edges.getD k default).l.length-x.1) (0,d) rfl ⟨Nat.zero_le _,hJ,hC,fun j hj=>by rw [List.take_zero,List.append_nil];exact hR j hj⟩ ?_
     rintro ρ ⟨i,d2⟩ w6 ⟨hi,hJ2,hC2,hR2⟩
     dsimp only at hi hJ2 hC2 hR2 ⊢
     have hx6:IntSl w6 (g.edges.getD k default).a (g.edges.getD k default).l:=((hG.ext hw1).ext hJ2.e).e.at hkl
     have hfind:∀ (u:Int) (d:List Int) (w':World),0≤u→u<(N:Int)→FoJ w1_1 b3_3 (some ⟨b3,0,none⟩) N N d w'→Cls d→RetsY prog 57 ([]++[Value.int .i64 u]++[Value.pointer (some ⟨b3_3,0,none⟩)]).toArray w' (fun _:List Int=>.int .i64 (rootF d u.toNat:Nat)) (fun c' w2=>FoJ w1_1 b3_3 (some ⟨b3,0,none⟩) N N c' w2∧Vc.Alike d c'):=fun u d w' h0 h1 hJ hC=>by
      have hu:u=((u.toNat:Nat):Int):=by omega
      have hd:=hJ.len
      have:=find_spec b3_3 (some ⟨b3,0,none⟩) N w1_1.heap.size d u.toNat w' (by rw [hd];exact hJ.b) hJ.n hJ.o hC (by omega) (by omega)
      rw [←hu] at this
      exact Rets.mono this fun v w2 ⟨c',hv,h1,h2,h3⟩=>⟨c',hv,⟨hJ.b.mod h3 hJ.n,hJ.n,h1,by rw [h2.len,hd],hJ.e.ownA h3 fun q hq=>hJ.o.ge q hq⟩,h2⟩
     refine Vs<|Vr<|oL rfl rfl<|Vn<|Vs<|Vd rfl (fun c44=>Vk<|Vs<|Vb<|Vs (?_)) (fun c44=>Ve<|Vr<|oD rfl rfl<|oI rfl<|Vn (?_))
     ·have hil:i<(g.edges.getD k default).l.length:=by omega
      have hf:=hxv _ (gmem hxp)
      have hvv:=hxv _ (gmem hil)
      refine Vr<|Vo (iX ru22 sz3 rfl rfl ((hx6).some (i:=i) (by omega)))<|Vo (rla ag3 rfl ((((hx6).ext (Mod.refl _ _)).row (i:=i) (by omega)).c0a rfl))<|oJ rfl<|Vn<|Vs<|Vr<|Vo (R.mvF rfl)<|oS rfl<|Vo (iX ru22 sz3 rfl rfl (hx6.some (i:=0) hxp))<|Vo (rla ag3 rfl ((hx6.row (i:=0) hxp).c0a rfl))<|VL.callCY rfl (call57) rfl (hfind ((g.edges.getD k default).l.getD 0 default) d2 w6 hf.1 hf.2 hJ2 hC2) fun d3 w7 ⟨hJ3,hA3⟩=>Vo (R.mvF rfl)<|oI rfl<|VL.callCY rfl (call57) rfl (hfind ((g.edges.getD k default).l.getD i default) d3 w7 hvv.1 hvv.2 hJ3 hA3.cls) fun d4 w8 ⟨hJ4,hA4⟩=>oJ rfl<|oJ rfl<|Vn (?_)
      have hl2:=hJ2.len
      have hl4:=hJ4.len
      have hA:=hA3.trans hA4
      obtain ⟨F,hF⟩:∃ F,F=((g.edges.getD k default).l.getD 0 default).toNat:=⟨_,rfl⟩
      obtain ⟨U,hU⟩:∃ U,U=((g.edges.getD k default).l.getD i default).toNat:=⟨_,rfl⟩
      have hFN:F<N:=by omega
      have hUN:U<N:=by omega
      have er:rootF d3 U=rootF d2 U:=hA3.root U (by omega)
      rw [←hF,←hU,er]
      have ri:=rootF_le hC2 F (by omega)
      have rj:=rootF_le hC2 U (by omega)
      obtain ⟨x,hx⟩:∃ x,x=rootF d2 F:=⟨_,rfl⟩
      obtain ⟨y,hy⟩:∃ y,y=rootF d2 U:=⟨_,rfl⟩
      rw [←hx,←hy]
      have hmx:(max (x:Int) (y:Int)).toNat=max x y:=by omega
      have hmn:min (x:Int) (y:Int)=((min x y:Nat):Int):=by omega
      refine Vr<|Vo (rla ag22 rfl (hJ4.b.cell _))<|oI rfl<|oI rfl<|Vo (R.max rfl rfl)<|oI rfl<|oI rfl<|Vo (R.min rfl rfl)<|Vo (iX ru22 sz3 rfl rfl (hJ4.o.sl.some (i:=(max (x:Int) (y:Int)).toNat) (by omega)))<|VL.ownSt eltI (v:=.int _ _) sz3 (hJ4.o) (max (x:Int) (y:Int)).toNat 0 (min (x:Int) (y:Int)) rfl rfl (by omega) rfl rfl rfl rfl rfl fun w9 h9 m9 s9=>Vn<|Vr<|oD rfl rfl<|oI rfl<|Vn (?_)
      rw [hmx,hmn] at h9
      have px:par d4 x=x:=by
       have h0:rootF d4 x=x:=by rw [hA.root x (by omega),hx];exact rootF_idem hC2 (by omega)
       have:=rootF_par hA.cls x (by omega)
       rw [h0] at this;exact this
      have py:par d4 y=y:=by
       have h0:rootF d4 y=y:=by rw [hA.root y (by omega),hy];exact rootF_idem hC2 (by omega)
       have:=rootF_par hA.cls y (by omega)
       rw [h0] at this;exact this
      have pmx:par d4 (max x y)=max x y:=by
       by_cases h:x≤y
       ·rw [Nat.max_eq_right h];exact py
       ·rw [Nat.max_eq_left (by omega)];exact px
      have pmn:par d4 (min x y)=min x y:=by
       by_cases h:x≤y
       ·rw [Nat.min_eq_left h];exact px
       ·rw [Nat.min_eq_right (by omega)];exact py
      obtain ⟨hcl,hrt⟩:=root_join hA.cls (m:=min x y) (n:=max x y) (by omega) (by omega) pmn pmx
      refine ⟨(i+1,d4.set (max x y) ((min x y:Nat):Int)),rfl,⟨by dsimp only;omega,⟨hJ4.b.mod m9 hJ4.n,hJ4.n,h9,by simp [hl4],hJ4.e.ownA m9 fun q hq=>hJ4.o.ge q hq⟩,hcl,fun j hj=>?_⟩,by dsimp only;omega⟩
      have htk:(prE (g.edges.getD k default).l).take (i+1)=(prE (g.edges.getD k default).l).take i++[(F,U)]:=by
       rw [List.take_succ_eq_append_getElem (by unfold prE;rw [List.length_map];exact hil)]
       congr 1
       rw [hF,hU,gget hil]
       simp [prE]
      dsimp only
      rw [htk,←List.append_assoc,compR_snoc,hrt j (by omega),hA.root j (by omega),hx,hy,hR2 j hj,hR2 F hFN,hR2 U hUN]
      rfl
     ·have hie:i=(g.edges.getD k default).l.length:=by omega
      subst hie
      refine ⟨(k+1,d2),rfl,⟨by dsimp only;omega,hJ2,hC2,fun j hj=>?_⟩,by dsimp only;omega⟩
      dsimp only
      rw [hvt,hR2 j hj,List.take_of_length_le (l:=prE (g.edges.getD k default).l) (by unfold prE;rw [List.length_map];exact Nat.le_refl _)]
    ·have hke:k=g.edges.length:=by omega
     subst hke
     refine ⟨d,rfl,hJ,hC,fun j hj=>?_⟩
     rw [hR j hj,List.take_length];rfl
   ·obtain ⟨hJb,hCb,hRb⟩:=hBB2
    have hEb:Blk wBB2 b0_0 (.cells (Value.agg (encGr g).toArray).cells 25 (0,0)):=hB1.ext hJb.e
    obtain ⟨Cm,hRdef⟩:∃ Cm,Cm=compE (vals g.edges):=⟨_,rfl⟩
    rw [←hRdef] at hRb
    have hI:IsComp N (prsE (vals g.edges)) Cm:=by have:=validG_comp hv;rw [hRdef];rw [show (grV g).n=g.n from rfl,hN] at this;exact this
    have hcG:compsG (grV g)=grpsK Cm N:=by unfold compsG;rw [if_pos hv,hRdef,show (grV g).n=g.n from rfl,hN];rfl
    have hb3r:b3_3<wBB2.heap.size:=hJb.b.lt
    have hbr:∀ k,aBlk (some ⟨b3,0,none⟩) k→k<wBB2.heap.size:=hJb.o.lt
    have hsz1:=hJb.e.size
    have hfind2:∀ (j:Nat) (d:List Int) (w':World),j<N→FoJ w1_1 b3_3 (some ⟨b3,0,none⟩) N N d w'→Cls d→RetsY prog 57 ([]++[Value.int .i64 (j:Nat)]++[Value.pointer (some ⟨b3_3,0,none⟩)]).toArray w' (fun _:List Int=>.int .i64 (rootF d j:Nat)) (fun c' w2=>FoJ w1_1 b3_3 (some ⟨b3,0,none⟩) N N c' w2∧Vc.Alike d c'∧Vc.Mod (aBlk (some ⟨b3,0,none⟩)) w' w2):=fun j d w' h0 hJ hC=>by
     have hd:=hJ.len
     have:=find_spec b3_3 (some ⟨b3,0,none⟩) N w1_1.heap.size d j w' (by rw [hd];exact hJ.b) hJ.n hJ.o hC (by omega) (by omega)
     exact Rets.mono this fun v w2 ⟨c',hv,h1,h2,h3⟩=>⟨c',hv,⟨hJ.b.mod h3 hJ.n,hJ.n,h1,by rw [h2.len,hd],hJ.e.ownA h3 fun q hq=>hJ.o.ge q hq⟩,h2,h3⟩
    refine Vr<|oT rfl<|Vn<|Vs<|Vr<|VL.makeMap fun r21_0 w21_0 hr21_0 e21_0 hM21_0=>Vo (R.asM rfl)<|Vn<|Vs<|Vs<|Vr<|Vo (R.fld' (o:=0) ru25 rfl rfl sz3 rfl rfl)<|Vo (rla ag3 rfl (show w21_0.cell? ⟨b0_0,0,none⟩=some (Value.int .i64 ((N:Nat):Int)) from by rw [←hN];exact (hEb.ext e21_0).cell 0))<|oI rfl<|Vn<|Vb (?_)
    have hJ0:FoJ w1_1 b3_3 (some ⟨b3,0,none⟩) N N xB2 w21_0:=⟨hJb.b.ext e21_0,hJb.n,hJb.o.ext e21_0,hJb.len,hJb.e.trans e21_0⟩
    have hrl:=hM21_0.lt
    have hRR:b3_3<r21_0∧(∀ k,aBlk (some ⟨b3,0,none⟩) k→k<r21_0)∧w1_1.heap.size≤r21_0:=⟨by omega,fun k hk=>by have:=hbr k hk;omega,by omega⟩
    refine Vl [5,12,13,67,68] (fun x:Nat×List Int×(List SlI×Option Addr×Nat)×List (Int×Nat)=>[.func (.func 57) #[] #[pA b3_3],.slice x.2.2.1.2.1 x.2.2.1.1.length x.2.2.1.2.2,.map (some r21_0),.int .i64 ((N:Nat):Int),.int .i64 (x.1:Nat)])
     (fun x w'=>x.1≤N∧FoJ w1_1 b3_3 (some ⟨b3,0,none⟩) N N x.2.1 w'∧Cls x.2.1∧(∀ j,j<N→rootF x.2.1 j=Cm j)∧GLs (r21_0+1) w' x.2.2.1.2.1 x.2.2.1.2.2 x.2.2.1.1∧vals x.2.2.1.1=grpsK Cm x.1∧MapIs w' r21_0 kI (tenc vN x.2.2.2)∧PlaceM Cm x.1 x.2.2.2∧r21_0+1≤w'.heap.size)
     (fun x=>N-x.1) (0,xB2,([],none,0),[]) rfl ⟨Nat.zero_le _,hJ0,hCb,hRb,GLs.nil _ _,rfl,MapIs.empty hM21_0,PlaceM.zero Cm,by omega⟩ ?_
    rintro ρ ⟨k,d,⟨z,a12,c12⟩,m⟩ w5 ⟨hk,hJ,hC,hR,hG,hz,hM,hP,hs5⟩
    dsimp only at hk hJ hC hR hG hz hM hP hs5 ⊢
    refine Vs<|Vr<|oL rfl rfl<|Vn<|Vs<|Vd rfl (fun c69=>Vk<|Vs<|Vb<|Vs (?_)) (fun c69=>Ve<|Vs<|Vr<|oS rfl<|oT rfl<|Vn<|Vt (fret1 (v:=.slice _ _ _) rfl rfl rfl (?_)))
    ·have hkN:k<N:=by omega
     have hle:∀ i,i<k→Cm i≤i:=fun i hi=>hI.le i (by omega)
     have hzl:z.length=(hdsK Cm k).length:=by rw [←grpsK_len,←hz,List.length_map]
     have hhl:=hdsK_len Cm k
     have hMf:∀ w',Vc.Mod (aBlk (some ⟨b3,0,none⟩)) w5 w'→MapIs w' r21_0 kI (tenc vN m):=fun w' hm=>hM.mod hm fun h=>by have:=hRR.2.1 _ h;omega
     have hget:mget (tenc vN m) ((rootF d k:Nat):Int)=(if Cm k∈hdsK Cm k then some (((hdsK Cm k).idxOf (Cm k):Nat):Int) else none).map fun i:Int=>Value.int .i64 i:=by
      rw [hR k hkN,tget_enc,hP]
      split <;> rfl
     refine Vr<|oI rfl<|oJ rfl<|Vn<|Vs<|Vr<|Vo (R.mvM rfl)<|Vo (R.mvF rfl)<|oI rfl<|VL.callCY rfl (call57) rfl (hfind2 k d w5 hkN hJ hC) fun d3 w3 ⟨hJ3,hA3,hm3⟩=>Vo (R.lookupOkI key3 runUnderlying80 zv3 (hMf _ hm3) (if Cm k∈hdsK Cm k then some (((hdsK Cm k).idxOf (Cm k):Nat):Int) else none) (hget) rfl rfl)<|Vo (R.mvT rfl)<|Vo (R.extr rfl rfl)<|Vo (R.extr rfl rfl)<|oJ rfl<|oA rfl<|Vn<|V.cut [5,12,13,14,15,67,68] (fun x:Nat×(List SlI×Option Addr×Nat)×List (Int×Nat)=>[.func (.func 57) #[] #[pA b3_3],.slice x.2.1.2.1 x.2.1.1.length x.2.1.2.2,.map (some r21_0),.int .i64 (k:Nat),.int .i64 (x.1:Nat),.int .i64 ((N:Nat):Int),.int .i64 (k:Nat)]) (fun x w'=>x.1<x.2.1.1.length∧x.2.1.1.length≤k+1∧(x.2.1.1.getD x.1 default).l.length≤k∧(vals x.2.1.1).set x.1 ((x.2.1.1.getD x.1 default).l++[(k:Int)])=grpsK Cm (k+1)∧FoJ w1_1 b3_3 (some ⟨b3,0,none⟩) N N d3 w'∧GLs (r21_0+1) w' x.2.1.2.1 x.2.1.2.2 x.2.1.1∧MapIs w' r21_0 kI (tenc vN x.2.2)∧PlaceM Cm (k+1) x.2.2∧r21_0+1≤w'.heap.size) (Vs<|Vr<|oB rfl<|Vo (R.not rfl)<|Vn<|Vh rfl (fun c80=>Vs (?_)) (fun c80=>Vk (?_))) (fun rgC80 xC80 wBC80 hBC80=>?_)
     ·have hnew:Cm k∉hdsK Cm k:=fun h=>by rw [if_pos h] at c80;cases c80
      have hk1:=hI.le k hkN
      have hk2:Cm k=k:=by
       by_cases e:Cm k=k
       ·exact e
       ·exact absurd (hdsK_mem.2 ⟨by omega,hI.idem k hkN⟩) hnew
      obtain ⟨hd1,hd2,hg1⟩:=grpsK_new hk2 hle
      have hG3:=hG.mod hm3 fun q hq=>by have:=hRR.2.1 q hq;omega
      refine Vr<|oS rfl<|Vo (R.lenS ru23 rfl)<|oJ rfl<|Vn<|Vs<|Vr<|Vo (R.mvM rfl)<|oI rfl<|oI rfl<|VL.mapUpdate key3 runUnderlying80 rfl (k:=((k:Nat):Int)) rfl rfl (hMf _ hm3) fun w28 hm28 m28=>Vn<|Vr<|oS rfl<|VL.append1 el23 ru23 sz22 zv22 rfl (default:SlI) rfl rfl rfl (hG3.own.mod m28 fun q h1 (h2:q=r21_0)=>by have:=hG3.own.ge q h1;omega) rfl rfl rfl (by omega) (by unfold maxLen;omega) (Nat.le_trans hs5 (Nat.le_trans hm3.size m28.size)) fun a29 c29 w29 vt29 ho29 m29 hf29=>oT rfl<|Vn (?_)
      have hG28:=hG3.mod m28 fun q (h2:q=r21_0)=>by omega
      refine ⟨(z.length,(z++[default],a29,c29),tset m (k:Int) z.length),?_,?_,?_,?_,?_,?_,hG28.add ho29 m29 hf29,?_,?_,Nat.le_trans hs5 (Nat.le_trans hm3.size (Nat.le_trans m28.size m29.size))⟩
      ·dsimp only;rw [List.length_append];rfl
      ·dsimp only;rw [List.length_append,List.length_singleton];omega
      ·dsimp only;rw [List.length_append,List.length_singleton];omega
      ·dsimp only;rw [getD_snoc];simp [List.getD];exact Nat.zero_le _
      ·dsimp only
       rw [hg1,←hz,←hzl,getD_snoc]
       simp [List.getD,vals]
       rfl
      ·exact (hJ3.out m28 (fun q (h2:q=r21_0)=>by omega) hRR).out m29 (fun q hq=>by have:=hG28.own.ge q hq;omega) hRR
      ·dsimp only
       rw [tset_enc]
       exact hm28.mod m29 fun h=>by have:=hG28.own.ge _ h;omega
      ·dsimp only
       rw [hzl];exact hP.new hk2 hle
     ·have hold:Cm k∈hdsK Cm k:=Classical.byContradiction fun h=>by rw [if_neg h] at c80;cases c80
      obtain ⟨hd1,hg1⟩:=grpsK_old hold
      have hil:(hdsK Cm k).idxOf (Cm k)<z.length:=by rw [hzl];exact List.idxOf_lt_length_iff.2 hold
      have hzg:(z.getD ((hdsK Cm k).idxOf (Cm k)) default).l=memsK Cm k (Cm k):=by rw [←grpsK_at hold,←hz,gmap _ _ _ hil]
      refine ⟨((hdsK Cm k).idxOf (Cm k),(z,a12,c12),m),?_,hil,by dsimp only;omega,?_,?_,hJ3,hG.mod hm3 fun q hq=>by have:=hRR.2.1 q hq;omega,hMf _ hm3,hP.old hold,Nat.le_trans hs5 hm3.size⟩
      ·rw [if_pos hold];rfl
      ·dsimp only;rw [hzg];exact memsK_len _ _ _
      ·dsimp only;rw [hzg,hg1,hz]
     ·obtain ⟨hp1,hp2,hp3,hp4,hJ6,hG6,hM6,hP6,hs6⟩:=hBC80
      obtain ⟨q,⟨z6,a6,c6⟩,m6⟩:=xC80
      dsimp only at hp1 hp2 hp3 hp4 hJ6 hG6 hM6 hP6 hs6 ⊢
      refine Vr<|oS rfl<|oI rfl<|oS rfl<|oI rfl<|Vo (iX ru23 sz22 rfl rfl ((hG6.own.sl).some (i:=q) (by omega)))<|Vo (rla ag22 rfl ((((hG6.own.sl).ext (Mod.refl _ _)).row (i:=q) (by omega)).c0a rfl))<|oI rfl<|VL.append1 el22 ru22 sz3 zv3 rfl ((k:Nat):Int) rfl rfl rfl (hG6.each q) rfl rfl rfl (by omega) (by unfold maxLen;omega) hs6 fun a8 c8 w8 vt8 ho8 m8 hf8=>Vo (iX ru23 sz22 rfl rfl ((hG6.own.sl).some (i:=q) (by omega)))<|VL.ownSt eltSl (v:=.slice _ _ _) sz22 (hG6.own.mod m8 (hG6.out q)) q 0 (SlI.mk a8 c8 ((z6.getD q default).l++[((k:Nat):Int)])) rfl rfl (by omega) rfl rfl rfl rfl (by show [Value.slice a8 ((z6.getD q default).l++[((k:Nat):Int)]).length c8]=_;rw [List.length_append];rfl) fun w9 ho9 m9 hs9=>Vn<|Vr<|oD rfl rfl<|oI rfl<|Vn (?_)
      refine ⟨(k+1,d3,(z6.set q ⟨a8,c8,(z6.getD q default).l++[((k:Nat):Int)]⟩,a6,c6),m6),by dsimp only;rw [List.length_set];rfl,⟨by dsimp only;omega,?_,hA3.cls,fun j hj=>?_,hG6.app hp1 ho8 m8 hf8 ho9 m9,?_,?_,hP6,?_⟩,by dsimp only;omega⟩
      ·exact (hJ6.out m8 (fun x hx=>by have:=(hG6.each q).ge x hx;omega) hRR).out m9 (fun x hx=>by have:=hG6.own.ge x hx;omega) hRR
      ·dsimp only
       rw [hA3.root j (by rw [hJ.len];exact hj)];exact hR j hj
      ·dsimp only
       rw [←hp4];unfold vals;rw [List.map_set]
      ·exact (hM6.mod m8 fun h=>by have:=(hG6.each q).ge _ h;omega).mod m9 fun h=>by have:=hG6.own.ge _ h;omega
      ·have h1:=m8.size
       have h2:=m9.size
       omega
    ·have hkN:k=N:=by omega
     subst hkN
     exact ⟨(z,a12,c12),rfl,⟨by rw [hcG];exact hz,hG.weaken (Nat.le_trans hw1.size (Nat.le_trans hRR.2.2 (Nat.le_succ _)))⟩,hw1.trans hJ.e⟩
def encBo (b:Bool):List Value:=[.bool b]
theorem eltBo:Elt encBo 1:=⟨fun _=>rfl,fun _=>rfl,by decide⟩
structure FxJ (w0:World) (b3 N:Nat) (bs:List Bool) (E:List (List Int)) (y:SlI) (w:World):Prop where
 o:OwnT encBo 1 4 w0.heap.size w (some ⟨b3,0,none⟩) N bs
 len:bs.length=N
 val:∀ j,j<N→bs.getD j default=inE E (j:Int)
 p:OwnT Vc.encI 1 3 (b3+1) w y.a y.c y.l
 e:Ext w0 w
theorem setD_eq {α:Type} [Inhabited α] (l:List α) {i:Nat} (h:i<l.length) (v:α):(l.set i v).getD i default=v:=by simp [List.getD,h]
theorem setD_ne {α:Type} [Inhabited α] (l:List α) {i j:Nat} (h:j≠i) (v:α):(l.set i v).getD j default=l.getD j default:=by simp [List.getD,List.getElem?_set_ne (Ne.symm h)]
theorem inE_snoc (E:List (List Int)) (e:List Int) (v:Int):inE (E++[e]) v=(inE E v||decide (v∈e)):=by unfold inE;simp
theorem aloneE_snoc (E:List (List Int)) (e:List Int):aloneE (E++[e])=aloneE E++if e.length=1 then [e.getD 0 default] else []:=by
 unfold aloneE
 rw [List.filterMap_append]
 congr 1
 by_cases h:e.length=1 <;> simp [h]
theorem fixed_spec (g:GrW) (B:Nat) (w:World) (hG:GOk w g) (hl:GLen g) (hB:B≤w.heap.size) (hT:TabW B w) :
  RetsX prog 22 #[.agg (encGr g).toArray] w (fun z:SlI×SlI=>.tuple #[.slice z.1.a z.1.l.length z.1.c,.slice z.2.a z.2.l.length z.2.c])
   (fun z w'=>(z.1.l,z.2.l)=fixF (grV g)∧(IntSl w' z.1.a z.1.l∧(z.1.a=none→z.1.c=0))∧IntSl w' z.2.a z.2.l):=by
 refine eN (args:=[_]) func22 rfl ntmps22 ?_
 refine Vs<|Vr<|VL.box (v:=.agg _) rfl fun b0_0 w0_0 hb0_0 e0_0 hB0_0=>oT rfl<|oT rfl<|Vn<|Vs<|Vs<|Vr<|Vo (R.ldA ag25 sz25 rfl rfl (show RowAt _ _ _ (encGr g) from (hB0_0.rowAt 0 3)) rfl)<|Vp call56 rfl (valid_spec g B _ (hG.ext e0_0) hl (Nat.le_trans hB (e0_0).size) (hT.ext hB e0_0)) fun w1_1 e1_1=>Vo (R.not rfl)<|Vn<|Vh rfl (fun c14=>Vs<|Vr<|oT rfl<|oT rfl<|Vn<|Vt (fret2 (v:=.slice _ _ _) (x:=.slice _ _ _) rfl rfl rfl rfl rfl (?_))) (fun c14=>Vk<|Vs (?_))
 ·have hc:fixF (grV g)=([],[]):=by unfold fixF;rw [if_neg];intro h;rw [h] at c14;cases c14
  exact ⟨(default,default),rfl,⟨hc.symm,⟨TSl.nil _ _ _ _,fun _=>rfl⟩,TSl.nil _ _ _ _⟩,e0_0.trans e1_1⟩
 ·have hv:validG (grV g)=true:=by simpa using c14
  have hn:=costB_iff.1 (validG_iff.1 hv).1
  obtain ⟨N,hN⟩:∃ N:Nat,g.n=(N:Int):=⟨g.n.toNat,by have h0:0≤g.n:=hn.1;omega⟩
  have hN4:N≤4000:=by have h0:g.n≤4000:=hn.2.1;omega
  have hE20:g.edges.length≤20000:=by have:=(validG_iff.1 hv).2.1;simpa [grV,vals] using this
  have hB1:=hB0_0.ext e1_1
  have hw1:=e0_0.trans e1_1
  have hGb:=hG.ext hw1
  refine Vr<|Vo (R.fld' (o:=0) ru25 rfl rfl sz3 rfl rfl)<|Vo (rla ag3 rfl (show w1_1.cell? ⟨b0_0,0,none⟩=some (Value.int .i64 ((N:Nat):Int)) from by rw [←hN];exact hB1.cell 0))<|VL.makeSl (enc:=encBo ) el79 ( false) rfl rfl rfl (by omega) (by unfold maxLen;omega) (Nat.le_refl _) fun b3 w3 hb3 e3 ho3=>oT rfl<|Vn<|Vs<|Vr<|oT rfl<|oT rfl<|Vn<|V.cut [1,4,5,6] (fun x:List Bool×SlI=>[pA b0_0,.slice (some ⟨b3,0,none⟩) N N,.slice none 0 0,.slice x.2.a x.2.l.length x.2.c]) (fun x w'=>FxJ w1_1 b3 N x.1 (vals g.edges) x.2 w'∧x.2.l=aloneE (vals g.edges)) (Vs<|Vr<|Vo (R.fld' (o:=2) ru25 rfl rfl sz23 rfl rfl)<|Vo (rla ag23 rfl (show w3.cell? ⟨b0_0,2,none⟩=some (Value.slice g.ea g.edges.length g.ec) from (hB1.ext e3).cell 2))<|Vo (R.lenS ru23 rfl)<|oI rfl<|Vn<|Vb (?_)) (fun rgB0 xB0 wBB0 hBB0=>Vs<|Vs (?_))
  ·refine Vl [1,4,5,6,19,20,21] (fun x:Nat×List Bool×SlI=>[pA b0_0,.slice (some ⟨b3,0,none⟩) N N,.slice none 0 0,.slice x.2.2.a x.2.2.l.length x.2.2.c,.slice g.ea g.edges.length g.ec,.int .i64 (g.edges.length:Nat),.int .i64 (x.1:Nat)])
    (fun x w'=>x.1≤g.edges.length∧FxJ w1_1 b3 N x.2.1 (vals (g.edges.take x.1)) x.2.2 w'∧x.2.2.l=aloneE (vals (g.edges.take x.1))) (fun x=>g.edges.length-x.1) (0,List.replicate N false,default) rfl ⟨Nat.zero_le _,⟨ho3,by simp,fun j hj=>?_,OwnT.nil _ _ _ _ _,e3⟩,rfl⟩ ?_
   ·simp [List.getD,hj,inE,vals]
   rintro ρ ⟨k,bs,y⟩ w4 ⟨hk,hJ,hy⟩
   dsimp only at hk hJ hy ⊢
   have hE4:=(hGb.ext hJ.e).e
   refine Vs<|Vr<|oL rfl rfl<|Vn<|Vs<|Vd rfl (fun c22=>Vk<|Vs<|Vb<|Vs (?_)) (fun c22=>Ve (?_))
   ·have hkl:k<g.edges.length:=by omega
    have hxs:=(validG_iff.1 hv).2.2.1 _ (List.mem_map_of_mem (gmem hkl))
    have hxv:∀ y∈(g.edges.getD k default).l,0≤y∧y<(N:Int):=fun y hy=>by have:=hxs.2.2 y hy;rw [show (grV g).n=g.n from rfl,hN] at this;exact this
    have hvt:vals (g.edges.take (k+1))=vals (g.edges.take k)++[(g.edges.getD k default).l]:=by
     rw [List.take_succ_eq_append_getElem hkl,gget hkl];unfold vals;rw [List.map_append];rfl
    have hxl:=(hl.each _ (gmem hkl)).1
    have hle:=hl.e
    refine Vr<|Vo (iX ru23 sz22 rfl rfl ((hE4.sl).some (i:=k) (by omega)))<|Vo (rla ag22 rfl ((((hE4.sl).ext (Mod.refl _ _)).row (i:=k) (by omega)).c0a rfl))<|oT rfl<|Vn<|V.cut [1,4,5,6,8,19,20,21] (fun bs:List Bool=>[pA b0_0,.slice (some ⟨b3,0,none⟩) N N,.slice none 0 0,.slice y.a y.l.length y.c,.slice (g.edges.getD k default).a (g.edges.getD k default).l.length (g.edges.getD k default).c,.slice g.ea g.edges.length g.ec,.int .i64 (g.edges.length:Nat),.int .i64 (k:Nat)]) (fun bs w'=>FxJ w1_1 b3 N bs (vals (g.edges.take (k+1))) y w') (Vs<|Vr<|oS rfl<|Vo (R.lenS ru22 rfl)<|oI rfl<|Vn<|Vb (?_)) (fun rgB2 xB2 wBB2 hBB2=>Vs (?_))
    ·refine Vl [1,4,5,6,8,19,20,21,25,26,27] (fun x:Nat×List Bool=>[pA b0_0,.slice (some ⟨b3,0,none⟩) N N,.slice none 0 0,.slice y.a y.l.length y.c,.slice (g.edges.getD k default).a (g.edges.getD k default).l.length (g.edges.getD k default).c,.slice g.ea g.edges.length g.ec,.int .i64 (g.edges.length:Nat),.int .i64 (k:Nat),.slice (g.edges.getD k default).a (g.edges.getD k default).l.length (g.edges.getD k default).c,.int .i64 ((g.edges.getD k default).l.length:Nat),.int .i64 (x.1:Nat)])
      (fun x w'=>x.1≤(g.edges.getD k default).l.length∧FxJ w1_1 b3 N x.2 (vals (g.edges.take k)++[(g.edges.getD k default).l.take x.1]) y w') (fun x=>(g.edges.getD k default).l.length-x.1) (0,bs) rfl ⟨Nat.zero_le _,⟨hJ.o,hJ.len,fun j hj=>by rw [hJ.val j hj,inE_snoc];simp,hJ.p,hJ.e⟩⟩ ?_
     rintro ρ ⟨i,b2⟩ w5 ⟨hi,hJ2⟩
     dsimp only at hi hJ2 ⊢
     have hl2:=hJ2.len
     refine Vs<|Vr<|oL rfl rfl<|Vn<|Vs<|Vd rfl (fun c28=>Vk<|Vs<|Vb<|Vs (?_)) (fun c28=>Ve (?_))
     ·have hil:i<(g.edges.getD k default).l.length:=by omega
      have hvv:=hxv _ (gmem hil)
      have hx5:IntSl w5 (g.edges.getD k default).a (g.edges.getD k default).l:=((hGb.ext hJ2.e).e).at hkl
      refine Vr<|Vo (iX ru22 sz3 rfl rfl ((hx5).some (i:=i) (by omega)))<|Vo (rla ag3 rfl ((((hx5).ext (Mod.refl _ _)).row (i:=i) (by omega)).c0a rfl))<|oJ rfl<|Vn<|Vr<|oS rfl<|oI rfl<|Vo (iX ru79 sz4 rfl rfl ((hJ2.o.sl).some (i:=((g.edges.getD k default).l.getD i default).toNat) (by omega)))<|VL.ownSt eltBo (v:=.bool _) sz4 (hJ2.o) ((g.edges.getD k default).l.getD i default).toNat 0 true rfl rfl (by omega) rfl rfl rfl rfl rfl fun w11 ho11 m11 hs11=>Vn<|Vr<|oD rfl rfl<|oI rfl<|Vn (?_)
      refine ⟨(i+1,b2.set ((g.edges.getD k default).l.getD i default).toNat true),rfl,⟨by dsimp only;omega,ho11,by simp [hl2],fun j hj=>?_,hJ2.p.mod m11 fun q h1 h2=>?_,hJ2.e.ownA m11 fun q hq=>hJ2.o.ge q hq⟩,by dsimp only;omega⟩
      ·dsimp only
       have ht:(g.edges.getD k default).l.take (i+1)=(g.edges.getD k default).l.take i++[(g.edges.getD k default).l.getD i default]:=by rw [List.take_succ_eq_append_getElem hil,gget hil]
       rw [ht,inE_snoc]
       have h0:=hJ2.val j hj
       rw [inE_snoc] at h0
       by_cases e:j=((g.edges.getD k default).l.getD i default).toNat
       ·have e2:(j:Int)=(g.edges.getD k default).l.getD i default:=by omega
        rw [←e,setD_eq _ (by omega),e2,decide_eq_true (by rw [List.mem_append];right;exact List.mem_singleton.2 rfl),Bool.or_true]
       ·have e2:¬(j:Int)=(g.edges.getD k default).l.getD i default:=by omega
        rw [setD_ne _ e,h0]
        congr 1
        exact decide_eq_decide.2 (by rw [List.mem_append,List.mem_singleton];exact ⟨.inl,fun h=>h.resolve_right e2⟩)
      ·have:=hJ2.p.ge q h1
       have:=aBlk_some h2
       omega
     ·have hie:i=(g.edges.getD k default).l.length:=by omega
      subst hie
      rw [List.take_length] at hJ2
      exact ⟨b2,rfl,by rw [hvt];exact hJ2⟩
    ·have hx6:IntSl wBB2 (g.edges.getD k default).a (g.edges.getD k default).l:=((hGb.ext hBB2.e).e).at hkl
     have hxp:0<(g.edges.getD k default).l.length:=List.length_pos_iff.2 hxs.1
     have hyl:y.l.length≤g.edges.length:=by rw [hy];unfold aloneE;refine Nat.le_trans (List.length_filterMap_le _ _) ?_;simp [vals];omega
     have hb3:b3<wBB2.heap.size:=hBB2.o.lt _ ⟨_,rfl,rfl⟩
     refine Vr<|oS rfl<|Vo (R.lenS ru22 rfl)<|Vo (R.eql rfl rfl)<|Vn<|Vd rfl (fun c37=>Vr<|oS rfl<|oS rfl<|Vo (iX ru22 sz3 rfl rfl (hx6.some (i:=0) hxp))<|Vo (rla ag3 rfl ((hx6.row (i:=0) hxp).c0a rfl))<|VL.append1 el22 ru22 sz3 zv3 rfl ((g.edges.getD k default).l.getD 0 default) rfl rfl rfl hBB2.p rfl rfl rfl (by omega) (by unfold maxLen;omega) (by omega) fun a14 c14 w14 vt14 ho14 m14 hf14=>oT rfl<|Vn<|Vr<|oD rfl rfl<|oI rfl<|Vn (?_)) (fun c37=>Vk<|Vr<|oD rfl rfl<|oI rfl<|Vn (?_))
     ·have h1:(g.edges.getD k default).l.length=1:=by omega
      refine ⟨(k+1,xB2,⟨a14,c14,y.l++[(g.edges.getD k default).l.getD 0 default]⟩),by dsimp only;rw [List.length_append];rfl,⟨by dsimp only;omega,⟨hBB2.o.mod m14 fun q h1 h2=>?_,hBB2.len,hBB2.val,ho14,hBB2.e.ownA m14 fun q hq=>?_⟩,?_⟩,by dsimp only;omega⟩
      ·have:=hBB2.p.ge q h2
       have:=aBlk_some h1
       omega
      ·have:=hBB2.p.ge q hq
       have:=hBB2.o.ge _ ⟨_,rfl,rfl⟩
       dsimp only at this
       omega
      ·dsimp only
       rw [hvt,aloneE_snoc,if_pos h1,hy]
     ·have h1:¬(g.edges.getD k default).l.length=1:=by omega
      exact ⟨(k+1,xB2,y),rfl,⟨by dsimp only;omega,hBB2,by dsimp only;rw [hvt,aloneE_snoc,if_neg h1,List.append_nil,hy]⟩,by dsimp only;omega⟩
   ·have hke:k=g.edges.length:=by omega
    subst hke
    rw [List.take_length] at hJ hy
    exact ⟨(bs,y),rfl,hJ,hy⟩
  ·obtain ⟨hJ,hy⟩:=hBB0
   obtain ⟨bs,y⟩:=xB0
   dsimp only at hJ hy ⊢
   have hE0:Blk wBB0 b0_0 (.cells (Value.agg (encGr g).toArray).cells 25 (0,0)):=hB1.ext hJ.e
   have hlen:=hJ.len
   refine Vr<|Vo (R.fld' (o:=0) ru25 rfl rfl sz3 rfl rfl)<|Vo (rla ag3 rfl (show wBB0.cell? ⟨b0_0,0,none⟩=some (Value.int .i64 ((N:Nat):Int)) from by rw [←hN];exact hE0.cell 0))<|oI rfl<|Vn<|Vb (?_)
   refine Vl [4,5,6,46,47] (fun x:Nat×SlI=>[.slice (some ⟨b3,0,none⟩) N N,.slice x.2.a x.2.l.length x.2.c,.slice y.a y.l.length y.c,.int .i64 ((N:Nat):Int),.int .i64 (x.1:Nat)])
    (fun x w'=>x.1≤N∧OwnT Vc.encI 1 3 wBB0.heap.size w' x.2.a x.2.c x.2.l∧x.2.l=freeK (vals g.edges) x.1∧Ext wBB0 w') (fun x=>N-x.1) (0,default) rfl ⟨Nat.zero_le _,OwnT.nil _ _ _ _ _,rfl,Vc.Mod.refl _ _⟩ ?_
   rintro ρ ⟨k,x⟩ w4 ⟨hk,ho,hx,e⟩
   dsimp only at hk ho hx e ⊢
   have hxl:x.l.length≤k:=by rw [hx];unfold freeK;rw [List.length_map];exact Nat.le_trans (List.length_filter_le _ _) (by simp)
   have hbs:=hJ.o.ext e
   refine Vs<|Vr<|oL rfl rfl<|Vn<|Vs<|Vd rfl (fun c48=>Vk<|Vs<|Vb<|Vs<|Vr<|oI rfl<|oJ rfl<|Vn<|Vs<|Vr<|oS rfl<|oI rfl<|Vo (iX ru79 sz4 rfl rfl ((hbs.sl).some (i:=k) (by omega)))<|Vo (rla isAgg4 rfl ((((hbs.sl).ext (Mod.refl _ _)).row (i:=k) (by omega)).c0a rfl))<|Vo (R.not rfl)<|Vn<|Vh rfl (fun c54=>Vr<|oS rfl<|oI rfl<|VL.append1 el22 ru22 sz3 zv3 rfl ((k:Nat):Int) rfl rfl rfl ho rfl rfl rfl (by omega) (by unfold maxLen;omega) e.size fun a20 c20 w20 vt20 ho20 m20 hf20=>oT rfl<|Vn<|Vr<|oD rfl rfl<|oI rfl<|Vn (?_)) (fun c54=>Vk<|Vr<|oD rfl rfl<|oI rfl<|Vn (?_))) (fun c48=>Ve<|Vs<|Vr<|oS rfl<|oS rfl<|oT rfl<|oT rfl<|Vn<|Vt (fret2 (v:=.slice _ _ _) (x:=.slice _ _ _) rfl rfl rfl rfl rfl (?_)))
   ·have hkN:k<N:=by omega
    have hb:=hJ.val k hkN
    refine ⟨(k+1,⟨a20,c20,x.l++[((k:Nat):Int)]⟩),by dsimp only;rw [List.length_append];rfl,⟨by dsimp only;omega,ho20,?_,e.ownA m20 fun q hq=>ho.ge q hq⟩,by dsimp only;omega⟩
    dsimp only
    rw [freeK_succ,←hx,←hb,if_pos (by simpa using c54)]
   ·have hkN:k<N:=by omega
    have hb:=hJ.val k hkN
    refine ⟨(k+1,x),rfl,⟨by dsimp only;omega,ho,?_,e⟩,by dsimp only;omega⟩
    dsimp only
    rw [freeK_succ,←hx,←hb,if_neg (by simpa using c54),List.append_nil]
   ·have hkN:k=N:=by omega
    subst hkN
    refine ⟨(x,y),rfl,⟨?_,⟨ho.sl,ho.hax⟩,(hJ.p.ext e).sl⟩,(hw1.trans hJ.e).trans e⟩
    unfold fixF
    rw [if_pos hv,←alone_eq hv,show (grV g).n=g.n from rfl,hN,hx,hy]
    rfl
def TyA (w:World) (a:Option Addr) (T:TypeId):Prop:=∀ ad,a=some ad→∃ c z,Blk w ad.block (.cells c T z)
theorem TyA.none (w:World) (T:TypeId):TyA w none T:=fun _ h=>by cases h
theorem TyA.ext {w w':World} {a:Option Addr} {T:TypeId} (h:TyA w a T) (e:Ext w w'):TyA w' a T:=fun ad ha=>by
 obtain ⟨c,z,hb⟩:=h ad ha
 exact ⟨c,z,hb.ext e⟩
theorem TyA.mod {w w':World} {a:Option Addr} {T:TypeId} {S:Nat→Prop} (h:TyA w a T) (m:Vc.Mod S w w') (hS:∀ k,aBlk a k→¬S k):TyA w' a T:=fun ad ha=>by
 obtain ⟨c,z,hb⟩:=h ad ha
 exact ⟨c,z,hb.mod m (hS _ ⟨ad,ha,rfl⟩)⟩
theorem OwnT.tyA {α:Type} {enc:α→List Value} {s e B:Nat} {w:World} {a:Option Addr} {cap:Nat} {l:List α} (h:OwnT enc s e B w a cap l):TyA w a e:=fun ad ha=>by
 rcases h.own.2 with ⟨hv,_⟩ | ⟨g,cap',cur,hv,hB,hg,_⟩
 ·injection hv with h1;rw [ha] at h1;cases h1
 ·injection hv with h1
  rw [ha] at h1
  injection h1 with h1
  subst h1
  exact ⟨cur,_,hg⟩
theorem TyA.apart {w:World} {a:Option Addr} {T T':TypeId} {b:Nat} {c:Array Value} {z:Nat×Nat} (h:TyA w a T) (hb:Blk w b (.cells c T' z)) (hne:T≠T'):¬aBlk a b:=by
 rintro ⟨ad,ha,hk⟩
 obtain ⟨c',z',hb'⟩:=h ad ha
 rw [hk] at hb'
 unfold Blk at hb hb'
 rw [hb] at hb'
 injection hb' with hb'
 injection hb' with _ h2
 exact hne h2.symm
structure GTy (w:World) (g:GrW):Prop where
 c:TyA w g.ca 3
 e:TyA w g.ea 22
 each:∀ x∈g.edges,TyA w x.a 3
theorem GTy.ext {w w':World} {g:GrW} (h:GTy w g) (e:Ext w w'):GTy w' g:=⟨h.c.ext e,h.e.ext e,fun x hx=>(h.each x hx).ext e⟩
theorem GTy.zero (w:World):GTy w default:=⟨TyA.none _ _,TyA.none _ _,fun _x hx=>nomatch hx⟩
def prtE (vs e:List Int):List Int:=(e.filter fun v=>decide (v∈vs)).map (ixI vs)
theorem prtE_snoc (vs e:List Int) (v:Int):prtE vs (e++[v])=prtE vs e++if v∈vs then [ixI vs v] else []:=by
 unfold prtE
 rw [List.filter_append,List.map_append]
 congr 1
 by_cases h:v∈vs <;> simp [h]
theorem prtE_len {vs e:List Int}:(prtE vs e).length=e.length↔subB e vs=true:=by
 unfold prtE subB
 rw [List.length_map,List.length_filter_eq_length_iff]
 simp
theorem prtE_all {vs e:List Int} (h:subB e vs=true):prtE vs e=e.map (ixI vs):=by
 unfold prtE
 rw [List.filter_eq_self.2 fun v hv=>decide_eq_true (subB_iff.1 h v hv)]
def prtL (vs:List Int) (E:List (List Int)):List (List Int):=(E.filter fun e=>subB e vs).map fun e=>e.map (ixI vs)
theorem prtL_snoc (vs:List Int) (E:List (List Int)) (e:List Int):prtL vs (E++[e])=prtL vs E++if subB e vs=true then [prtE vs e] else []:=by
 unfold prtL
 rw [List.filter_append,List.map_append]
 congr 1
 by_cases h:subB e vs=true
 ·rw [if_pos h,prtE_all h];simp [h]
 ·rw [if_neg h];simp [h]
def PlM (vs:List Int) (k:Nat) (m:List (Int×Int)):Prop:=∀ v,tget m v=if v∈vs.take k then some (ixI vs v) else none
theorem PlM.step {vs:List Int} {k:Nat} {m:List (Int×Int)} (h:PlM vs k m) (hi:Inc vs) (hk:k<vs.length):PlM vs (k+1) (tset m (vs.getD k default) (k:Int)):=by
 intro v
 rw [tget_tset,List.take_succ_eq_append_getElem hk,←gget hk]
 by_cases e:v=vs.getD k default
 ·rw [if_pos e,if_pos (by simp [e]),e,ix_get hi hk]
 ·rw [if_neg e,h v]
  simp only [List.mem_append,List.mem_singleton,e,or_false]
theorem KeptI.mod {B:Nat} {w w':World} {a:Option Addr} {c:Nat} {M:List SlI} {S:Nat→Prop} (h:KeptI B w a c M) (m:Vc.Mod S w w') (hS:∀ k,S k→k<B):KeptI B w' a c M :=
 ⟨h.own.mod m fun k h1 h2=>by have:=h.own.ge k h1;have:=hS k h2;omega,fun x hx=>⟨(h.each x hx).1.mod m fun ad e hk=>by have:=((h.each x hx).2.2 ad.block ⟨ad,e,rfl⟩).1;have:=hS _ hk;omega,(h.each x hx).2.1,fun k hk=>⟨((h.each x hx).2.2 k hk).1,Nat.lt_of_lt_of_le ((h.each x hx).2.2 k hk).2.1 m.size,((h.each x hx).2.2 k hk).2.2⟩⟩⟩
theorem KeptI.LL {B:Nat} {w:World} {a:Option Addr} {c:Nat} {M:List SlI} (h:KeptI B w a c M):LL w a M:=⟨h.own.sl,fun x hx=>(h.each x hx).1⟩
theorem part_spec (g:GrW) (va:Option Addr) (vc:Nat) (vs:List Int) (B:Nat) (w:World) (hG:GOk w g) (hl:GLen g) (hV:IntSl w va vs) (hvl:vs.length≤9223372036854775807) (hB:B≤w.heap.size) (hT:TabW B w) :
  RetsX prog 25 #[.agg (encGr g).toArray,.slice va vs.length vc] w (fun z:GrW×Int=>.tuple #[.agg (encGr z.1).toArray,.int .i64 z.2]) (fun z w'=>(grV z.1,z.2)=partF (grV g) vs∧GNew w w' z.1∧GTy w' z.1):=by
 refine eN (args:=[_,_]) func25 rfl ntmps25 ?_
 refine Vs<|Vr<|VL.box (v:=.agg _) rfl fun b0_0 w0_0 hb0_0 e0_0 hB0_0=>VL.alloc zv25 fun b0_1 w0_1 hb0_1 e0_1 hB0_1=>oJ rfl<|Vn<|Vs<|Vs<|Vr<|Vo (R.ldA ag25 sz25 rfl rfl (show RowAt _ _ _ (encGr g) from ((hB0_0.ext e0_1).rowAt 0 3)) rfl)<|Vp call56 rfl (valid_spec g B _ (hG.ext (e0_0.trans e0_1)) hl (Nat.le_trans hB (e0_0.trans e0_1).size) (hT.ext hB (e0_0.trans e0_1))) fun w1_1 e1_1=>Vo (R.not rfl)<|oB rfl<|VL.or rfl rfl (fun g1_3=>oS rfl<|lT<|Vo (R.fld' (o:=0) ru25 rfl rfl sz3 rfl rfl)<|lT<|Vo (rla ag3 rfl (((hB0_0.ext e0_1).ext e1_1).cell _))<|lT<|Vp call58 rfl (isSet_spec va vc vs g.n _ hvl (hV.ext ((e0_0.trans e0_1).trans e1_1))) fun w1_7 e1_7=>lT<|Vo (R.not rfl)<|oQ rfl rfl<|Vn<|Vh rfl (fun c26=>Vs<|Vr<|Vo (R.build zv25 ru25 pl25 rfl)<|VL.store (v:=.agg _) sz25 rfl rfl rfl rfl ((hB0_1.ext e1_1).ext e1_7) rfl rfl fun w2_1 m2_1 hs2_1 hB2_1=>oJ rfl<|Vn<|Vt (fretCT (v:=.int _ _) rfl rfl rfl rfl rfl ag25 sz25 rfl (hB2_1.rowAt 0 3) rfl (?_))) (fun c26=>Vk<|Vs (?_))) (fun g1_3=>lF<|lF<|lF<|lF<|oP rfl rfl<|Vn<|Vg rfl<|Vs<|Vr<|Vo (R.build zv25 ru25 pl25 rfl)<|VL.store (v:=.agg _) sz25 rfl rfl rfl rfl (hB0_1.ext e1_1) rfl rfl fun w2_1 m2_1 hs2_1 hB2_1=>oJ rfl<|Vn<|Vt (fretCT (v:=.int _ _) rfl rfl rfl rfl rfl ag25 sz25 rfl (hB2_1.rowAt 0 3) rfl (?_)))
 ·have h1:partF (grV g) vs=(default,1):=by
   unfold partF
   rw [if_neg fun h=>?_]
   rw [show (grV g).n=g.n from rfl] at h
   rw [h.2] at c26;cases c26
  exact ⟨(default,1),rfl,⟨h1.symm,GNew.zero _ _,GTy.zero _⟩,(((e0_0.trans e0_1).trans e1_1).trans e1_7).own m2_1 (by have:=e0_0.size;dsimp only;omega)⟩
 ·have hv:validG (grV g)=true:=by simpa using g1_3
  have hs:setB vs g.n=true:=by simpa using c26
  have hn:=costB_iff.1 (validG_iff.1 hv).1
  have hn0:0≤g.n:=hn.1
  have hn1:g.n≤4000:=hn.2.1
  have hcl:((g.cost.length:Nat):Int)=g.n:=hn.2.2.1
  have hvs:=setB_iff.1 hs
  have hvn:=set_len hvs.1 hvs.2 hn0
  have hE20:g.edges.length≤20000:=by have:=(validG_iff.1 hv).2.1;simpa [grV,vals] using this
  have hw7:=((e0_0.trans e0_1).trans e1_1).trans e1_7
  have hB7:Blk w1_7 b0_0 (.cells (Value.agg (encGr g).toArray).cells 25 (0,0)):=((hB0_0.ext e0_1).ext e1_1).ext e1_7
  have hZ7:Blk w1_7 b0_1 (.cells #[.int .i64 0,.slice none 0 0,.slice none 0 0] 25 (0,0)):=(hB0_1.ext e1_1).ext e1_7
  have hb01:=hZ7.lt
  have hG7:=hG.ext hw7
  have hV7:=hV.ext hw7
  obtain ⟨cf,hcf⟩:∃ cf:Int→Int,cf=fun v=>g.cost.getD v.toNat default:=⟨_,rfl⟩
  refine Vr<|oS rfl<|Vo (R.lenS ru22 rfl)<|Vo (R.build zv25 ru25 pl25 rfl)<|VL.allocSt (v:=.agg #[.int .i64 (vs.length:Nat),.slice none 0 0,.slice none 0 0]) zv25 sz25 rfl rfl rfl rfl rfl fun b3_3 w3_3 hb3_3 e3_3 hB3_3=>Vn<|Vs<|Vr<|VL.makeMap fun r4_0 w4_0 hr4_0 e4_0 hM4_0=>Vo (R.asM rfl)<|Vn<|V.cut [2,4,6,7] (fun x:SlI×List (Int×Int)=>[pA b0_0,pA b0_1,pA b3_3,.map (some r4_0)]) (fun x w'=>Blk w' b3_3 (.cells #[.int .i64 (vs.length:Nat),.slice x.1.a x.1.l.length x.1.c,.slice none 0 0] 25 (0,0))∧OwnT Vc.encI 1 3 (r4_0+1) w' x.1.a x.1.c x.1.l∧x.1.l=vs.map cf∧MapIs w' r4_0 kI (tenc kI x.2)∧PlM vs vs.length x.2∧Ext w1_7 w'∧r4_0+1≤w'.heap.size) (Vs<|Vr<|oS rfl<|Vo (R.lenS ru22 rfl)<|oI rfl<|Vn<|Vb (?_)) (fun rgB0 xB0 wBB0 hBB0=>Vs<|Vs (?_))
  ·have h34:b3_3<r4_0:=by have:=hB3_3.lt;omega
   have h37:w1_7.heap.size≤b3_3:=by omega
   refine Vl [2,4,6,7,32,33,34] (fun x:Nat×SlI×List (Int×Int)=>[pA b0_0,pA b0_1,pA b3_3,.map (some r4_0),.slice va vs.length vc,.int .i64 (vs.length:Nat),.int .i64 (x.1:Nat)])
    (fun x w'=>x.1≤vs.length∧Blk w' b3_3 (.cells #[.int .i64 (vs.length:Nat),.slice x.2.1.a x.2.1.l.length x.2.1.c,.slice none 0 0] 25 (0,0))∧OwnT Vc.encI 1 3 (r4_0+1) w' x.2.1.a x.2.1.c x.2.1.l∧x.2.1.l=(vs.take x.1).map cf∧MapIs w' r4_0 kI (tenc kI x.2.2)∧PlM vs x.1 x.2.2∧Ext w1_7 w'∧r4_0+1≤w'.heap.size)
    (fun x=>vs.length-x.1) (0,default,[]) rfl ⟨Nat.zero_le _,hB3_3.ext e4_0,OwnT.nil _ _ _ _ _,rfl,MapIs.empty hM4_0,fun v=>by simp [tget],e3_3.trans e4_0,by have:=hM4_0.lt;omega⟩ ?_
   rintro ρ ⟨k,y,m⟩ w5 ⟨hk,hb,ho,hy,hM,hP,e,hsz⟩
   dsimp only at hk hb ho hy hM hP e hsz ⊢
   refine Vs<|Vr<|oL rfl rfl<|Vn<|Vs<|Vd rfl (fun c35=>Vk<|Vs<|Vb<|Vs (?_)) (fun c35=>Ve (?_))
   ·have hkl:k<vs.length:=by omega
    have hr:=hvs.2 _ (gmem hkl)
    have hyl:y.l.length=k:=by rw [hy,List.length_map,List.length_take];omega
    have hm8:∀ w',Vc.Mod (Vc.one r4_0) w5 w'→Blk w' b3_3 (.cells #[.int .i64 (vs.length:Nat),.slice y.a y.l.length y.c,.slice none 0 0] 25 (0,0))∧OwnT Vc.encI 1 3 (r4_0+1) w' y.a y.c y.l∧Ext w1_7 w':=fun w' m=>⟨hb.mod m fun h=>by have h:b3_3=r4_0:=h;omega,ho.mod m fun q h1 h2=>by have h2:q=r4_0:=h2;have:=ho.ge q h1;omega,e.ownA m fun q hq=>by have hq:q=r4_0:=hq;omega⟩
    refine Vr<|oI rfl<|Vo (iX ru22 sz3 rfl rfl ((hV7.ext e).some (i:=k) (by omega)))<|Vo (rla ag3 rfl ((((hV7.ext e).ext (Mod.refl _ _)).row (i:=k) (by omega)).c0a rfl))<|oJ rfl<|oJ rfl<|Vn<|Vs<|Vr<|Vo (R.mvM rfl)<|oI rfl<|oI rfl<|VL.mapUpdate key3 runUnderlying80 rfl (k:=(vs.getD k default)) rfl rfl (hM) fun w8 hm8' m8=>Vn<|V.regionW mixed 8 7 (by kernel_rfl) rfl (C0B _) (C1B _ Vc.encI 1 3 (g.cost.getD (vs.getD k default).toNat default)) (C0B.drawn _)<|VW.op (fun wq eq=>R.fld' (o:=1) ru25 rfl rfl sz22 rfl rfl)<|VW.op (fun wq hq=>(fun (eq:Ext _ wq)=>rla ag22 rfl (show wq.cell? ⟨b3_3,1,none⟩=some (Value.slice y.a y.l.length y.c) from ((hm8 _ m8).1.ext eq).cell 1)) (hq.elim (fun h=>h.e) (fun h=>h.e)))<|VW.op (fun wq eq=>R.fld' (o:=1) ru25 rfl rfl sz22 rfl rfl)<|VW.op0 (fun wq ⟨eq,_⟩=>rla ag22 rfl (show wq.cell? ⟨b0_0,1,none⟩=some (Value.slice g.ca g.cost.length g.cc) from ((hB7.ext (hm8 _ m8).2.2).ext eq).cell 1))<|wI rfl<|VW.op (fun wq eq=>iX ru22 sz3 rfl rfl (((hG7.ext (hm8 _ m8).2.2).c).some (i:=(vs.getD k default).toNat) (by omega)))<|VW.op0 (fun wq ⟨eq,_⟩=>rla ag3 rfl ((((hG7.ext (hm8 _ m8).2.2).c.ext eq).row (i:=(vs.getD k default).toNat) (by omega)).c0a rfl))<|VW.build1 ru22 sz3 zv3 rfl rfl rfl _ rfl rfl rfl<|VW.nil fun w9 h9=>VL.appendT el22 (fun _=>rfl) rfl (rfl) ((hm8 _ m8).2.1.ext h9.e) rfl ( (show 1=[g.cost.getD (vs.getD k default).toNat default].length from rfl)) (OwnT.sl h9.o) (fun h=>by cases h) (by simp;omega) (by simp [maxLen];omega) (Nat.le_trans hsz (Nat.le_trans m8.size h9.e.size)) rfl fun a9 c9 w10 ho10 m10 hf10=>Vo (R.fld' (o:=1) ru25 rfl rfl sz22 rfl rfl)<|VL.store (v:=.slice _ _ _) sz22 rfl rfl rfl rfl (((hm8 _ m8).1.ext h9.e).mod m10 fun h=>by have:=(hm8 _ m8).2.1.ge _ h;omega) rfl rfl fun w11 m11 hs11 hB11=>Vn<|Vr<|oD rfl rfl<|oI rfl<|Vn (?_)
    refine ⟨(k+1,⟨a9,c9,y.l++[g.cost.getD (vs.getD k default).toNat default]⟩,tset m (vs.getD k default) (k:Int)),rfl,⟨by dsimp only;omega,?_,ho10.mod m11 fun q h1 h2=>?_,?_,?_,hP.step hvs.1 hkl,?_,?_⟩,by dsimp only;omega⟩
    ·dsimp only;rw [List.length_append];exact hB11
    ·have h2:q=b3_3:=h2
     rcases hf10 q h1 with h | h
     ·have:=ho.ge q h;omega
     ·have:=(hm8 _ m8).1.lt;have:=h9.e.size;omega
    ·dsimp only
     rw [List.take_succ_eq_append_getElem hkl,←gget hkl,List.map_append,←hy,hcf];rfl
    ·dsimp only
     rw [tset_enc]
     exact ((hm8'.ext h9.e).mod m10 fun h=>by have:=(hm8 _ m8).2.1.ge _ h;omega).mod m11 fun h=>by have h:r4_0=b3_3:=h;omega
    ·exact (((hm8 _ m8).2.2.trans h9.e).ownA m10 fun q hq=>by have:=(hm8 _ m8).2.1.ge q hq;omega).ownA m11 fun q hq=>by have hq:q=b3_3:=hq;omega
    ·have h1:=m8.size
     have h2:=h9.e.size
     have h3:=m10.size
     have h4:=m11.size
     omega
   ·have hkl:k=vs.length:=by omega
    subst hkl
    rw [List.take_length] at hy
    exact ⟨(y,m),rfl,hb,ho,hy,hM,hP,e,hsz⟩
  ·obtain ⟨hb,ho,hy,hM,hP,e0,hsz⟩:=hBB0
   obtain ⟨y,m⟩:=xB0
   dsimp only at hb ho hy hM hP e0 hsz ⊢
   have h34:b3_3<r4_0:=by have:=hB3_3.lt;omega
   have hw7s:=hw7.size
   have hws:w.heap.size≤b0_1:=by have:=e0_0.size;omega
   have h37:w1_7.heap.size≤b3_3:=by omega
   have hyl:y.l.length=vs.length:=by rw [hy,List.length_map]
   have hP':∀ v,tget m v=if v∈vs then some (ixI vs v) else none:=fun v=>by have:=hP v;rwa [List.take_length] at this
   have hext:∀ {w':World},Vc.Mod (Vc.one b3_3) wBB0 w'→Ext w1_7 w':=fun m'=>e0.ownA m' fun q hq=>by have hq:q=b3_3:=hq;omega
   have hMx:∀ {w':World},Vc.Mod (Vc.one b3_3) wBB0 w'→MapIs w' r4_0 kI (tenc kI m):=fun m'=>hM.mod m' fun h=>by have h:r4_0=b3_3:=h;omega
   refine Vr<|Vo (R.fld' (o:=2) ru25 rfl rfl sz23 rfl rfl)<|Vo (rla ag23 rfl (show wBB0.cell? ⟨b0_0,2,none⟩=some (Value.slice g.ea g.edges.length g.ec) from (hB7.ext e0).cell 2))<|Vo (R.lenS ru23 rfl)<|oI rfl<|Vn<|Vb (?_)
   refine Vl [4,6,7,54,55,56] (fun x:Nat×List SlI×Option Addr×Nat=>[pA b0_1,pA b3_3,.map (some r4_0),.slice g.ea g.edges.length g.ec,.int .i64 (g.edges.length:Nat),.int .i64 (x.1:Nat)])
    (fun x w'=>x.1≤g.edges.length∧vals x.2.1=prtL vs (vals (g.edges.take x.1))∧x.2.1.length≤x.1∧(∀ f∈x.2.1,f.l.length≤1000000∧TyA w' f.a 3)∧Blk w' b3_3 (.cells #[.int .i64 (vs.length:Nat),.slice y.a y.l.length y.c,.slice x.2.2.1 x.2.1.length x.2.2.2] 25 (0,0))∧KeptI wBB0.heap.size w' x.2.2.1 x.2.2.2 x.2.1∧Vc.Mod (Vc.one b3_3) wBB0 w')
    (fun x=>g.edges.length-x.1) (0,[],none,0) rfl ⟨Nat.zero_le _,rfl,Nat.le_refl _,(fun f hf=>by cases hf),hb,KeptI.nil _ _,Vc.Mod.refl _ _⟩ ?_
   rintro ρ ⟨k,z,a,c⟩ w5 ⟨hk,hz,hzl,hzm,hb5,hK,m5⟩
   dsimp only at hk hz hzl hzm hb5 hK m5 ⊢
   refine Vs<|Vr<|oL rfl rfl<|Vn<|Vs<|Vd rfl (fun c57=>Vk<|Vs<|Vb<|Vs (?_)) (fun c57=>Ve<|Vs (?_))
   ·have hkl:k<g.edges.length:=by omega
    have hxl:=(hl.each _ (gmem hkl)).1
    have hLE:=(hG7.ext (hext m5)).e
    have hx5:IntSl w5 (g.edges.getD k default).a (g.edges.getD k default).l:=hLE.at hkl
    have hM5:=hMx m5
    have hvt:vals (g.edges.take (k+1))=vals (g.edges.take k)++[(g.edges.getD k default).l]:=by
     rw [List.take_succ_eq_append_getElem hkl,gget hkl];unfold vals;rw [List.map_append];rfl
    have hget:∀ v:Int,mget (tenc kI m) v=(if v∈vs then some (ixI vs v) else none).map fun i:Int=>Value.int .i64 i:=fun v=>by
     rw [tget_enc,hP' v];rfl
    refine Vr<|Vo (iX ru23 sz22 rfl rfl ((hLE.sl).some (i:=k) (by omega)))<|Vo (rla ag22 rfl ((((hLE.sl).ext (Mod.refl _ _)).row (i:=k) (by omega)).c0a rfl))<|oT rfl<|Vn<|Vs<|Vr<|oT rfl<|Vn<|V.cut [4,6,7,11,12,54,55,56] (fun f:SlI=>[pA b0_1,pA b3_3,.map (some r4_0),.slice (g.edges.getD k default).a (g.edges.getD k default).l.length (g.edges.getD k default).c,.slice f.a f.l.length f.c,.slice g.ea g.edges.length g.ec,.int .i64 (g.edges.length:Nat),.int .i64 (k:Nat)]) (fun f w'=>OwnT Vc.encI 1 3 w5.heap.size w' f.a f.c f.l∧f.l=prtE vs (g.edges.getD k default).l∧Ext w5 w') (Vs<|Vr<|oS rfl<|Vo (R.lenS ru22 rfl)<|oI rfl<|Vn<|Vb (?_)) (fun rgB4 xB4 wBB4 hBB4=>Vs (?_))
    ·refine Vl [4,6,7,11,12,54,55,56,60,61,62] (fun x:Nat×SlI=>[pA b0_1,pA b3_3,.map (some r4_0),.slice (g.edges.getD k default).a (g.edges.getD k default).l.length (g.edges.getD k default).c,.slice x.2.a x.2.l.length x.2.c,.slice g.ea g.edges.length g.ec,.int .i64 (g.edges.length:Nat),.int .i64 (k:Nat),.slice (g.edges.getD k default).a (g.edges.getD k default).l.length (g.edges.getD k default).c,.int .i64 ((g.edges.getD k default).l.length:Nat),.int .i64 (x.1:Nat)])
      (fun x w'=>x.1≤(g.edges.getD k default).l.length∧OwnT Vc.encI 1 3 w5.heap.size w' x.2.a x.2.c x.2.l∧x.2.l=prtE vs ((g.edges.getD k default).l.take x.1)∧x.2.l.length≤x.1∧Ext w5 w') (fun x=>(g.edges.getD k default).l.length-x.1) (0,default) rfl ⟨Nat.zero_le _,OwnT.nil _ _ _ _ _,rfl,Nat.le_refl _,Vc.Mod.refl _ _⟩ ?_
     rintro ρ ⟨i,f⟩ w6 ⟨hi,ho6,hf6,hfl,e6⟩
     dsimp only at hi ho6 hf6 hfl e6 ⊢
     have htk:∀ h:i<(g.edges.getD k default).l.length,prtE vs ((g.edges.getD k default).l.take (i+1))=f.l++if (g.edges.getD k default).l.getD i default∈vs then [ixI vs ((g.edges.getD k default).l.getD i default)] else []:=fun h=>by
      rw [List.take_succ_eq_append_getElem h,←gget h,prtE_snoc,hf6]
     refine Vs<|Vr<|oL rfl rfl<|Vn<|Vs<|Vd rfl (fun c63=>Vk<|Vs<|Vb<|Vs<|Vr<|Vo (iX ru22 sz3 rfl rfl ((hx5.ext e6).some (i:=i) (by omega)))<|Vo (rla ag3 rfl ((((hx5.ext e6).ext (Mod.refl _ _)).row (i:=i) (by omega)).c0a rfl))<|oJ rfl<|Vn<|Vs<|Vr<|Vo (R.mvM rfl)<|oI rfl<|Vo (R.lookupOkI key3 runUnderlying80 zv3 (hM5.ext e6) (if (g.edges.getD k default).l.getD i default∈vs then some (ixI vs ((g.edges.getD k default).l.getD i default)) else none) (hget _) rfl rfl)<|Vo (R.mvT rfl)<|Vo (R.extr rfl rfl)<|Vo (R.extr rfl rfl)<|oJ rfl<|oA rfl<|Vn<|Vs<|Vr<|oB rfl<|Vn<|Vh rfl (fun c72=>Vr<|oS rfl<|oI rfl<|VL.append1 el22 ru22 sz3 zv3 rfl ((if (g.edges.getD k default).l.getD i default∈vs then some (ixI vs ((g.edges.getD k default).l.getD i default)) else none).getD 0) rfl rfl rfl ho6 rfl rfl rfl (by omega) (by unfold maxLen;omega) e6.size fun a20 c20 w20 vt20 ho20 m20 hf20=>oT rfl<|Vn<|Vr<|oD rfl rfl<|oI rfl<|Vn (?_)) (fun c72=>Vk<|Vr<|oD rfl rfl<|oI rfl<|Vn (?_))) (fun c63=>Ve (?_))
     ·have hil:i<(g.edges.getD k default).l.length:=by omega
      have hin:(g.edges.getD k default).l.getD i default∈vs:=Classical.byContradiction fun h=>by rw [if_neg h] at c72;cases c72
      refine ⟨(i+1,⟨a20,c20,f.l++[(if (g.edges.getD k default).l.getD i default∈vs then some (ixI vs ((g.edges.getD k default).l.getD i default)) else none).getD 0]⟩),by dsimp only;rw [List.length_append];rfl,⟨by dsimp only;omega,ho20,?_,?_,e6.ownA m20 fun q hq=>ho6.ge q hq⟩,by dsimp only;omega⟩
      ·dsimp only;rw [htk hil,if_pos hin,if_pos hin];rfl
      ·dsimp only;rw [List.length_append,List.length_singleton];omega
     ·have hil:i<(g.edges.getD k default).l.length:=by omega
      have hin:¬(g.edges.getD k default).l.getD i default∈vs:=fun h=>by rw [if_pos h] at c72;cases c72
      refine ⟨(i+1,f),rfl,⟨by dsimp only;omega,ho6,?_,by dsimp only;omega,e6⟩,by dsimp only;omega⟩
      dsimp only;rw [htk hil,if_neg hin,List.append_nil]
     ·have hil:i=(g.edges.getD k default).l.length:=by omega
      subst hil
      rw [List.take_length] at hf6
      exact ⟨f,rfl,ho6,hf6,e6⟩
    ·obtain ⟨hof,hfv,e4⟩:=hBB4
     have hb4:=hb5.ext e4
     have hK4:=hK.ext e4
     have hbl:=hb5.lt
     have hws5:=m5.size
     have hbs:b3_3<wBB0.heap.size:=hb.lt
     have hfl:xB4.l.length≤1000000:=by rw [hfv];unfold prtE;rw [List.length_map];exact Nat.le_trans (List.length_filter_le _ _) hxl
     refine Vr<|oS rfl<|Vo (R.lenS ru22 rfl)<|oS rfl<|Vo (R.lenS ru22 rfl)<|Vo (R.eql rfl rfl)<|Vn<|Vd rfl (fun c82=>Vr<|Vo (R.fld' (o:=2) ru25 rfl rfl sz23 rfl rfl)<|Vo (rla ag23 rfl (show wBB4.cell? ⟨b3_3,2,none⟩=some (Value.slice a z.length c) from hb4.cell 2))<|oS rfl<|VL.append1 el23 ru23 sz22 zv22 rfl (xB4) rfl rfl rfl hK4.own rfl rfl rfl (by omega) (by unfold maxLen;omega) (Nat.le_trans hws5 e4.size) fun a23 c23 w23 vt23 ho23 m23 hf23=>Vo (R.fld' (o:=2) ru25 rfl rfl sz23 rfl rfl)<|VL.store (v:=.slice _ _ _) sz23 rfl rfl rfl rfl (hb4.mod m23 fun h=>by have:=hK4.own.ge _ h;omega) rfl rfl fun w24 m24 hs24 hB24=>Vn<|Vr<|oD rfl rfl<|oI rfl<|Vn (?_)) (fun c82=>Vk<|Vr<|oD rfl rfl<|oI rfl<|Vn (?_))
     ·have hsub:subB (g.edges.getD k default).l vs=true:=prtE_len.1 (by rw [←hfv];omega)
      have hKn:=(hK4.add ho23 m23 hf23 ⟨hof.sl,hof.cap,fun q hq=>⟨by have:=hof.ge q hq;omega,hof.lt q hq,fun h=>by have:=hK.own.lt q h;have:=hof.ge q hq;omega⟩⟩).mod m24 fun q hq=>by have hq:q=b3_3:=hq;omega
      refine ⟨(k+1,z++[xB4],a23,c23),rfl,⟨by dsimp only;omega,?_,?_,?_,?_,hKn,?_⟩,by dsimp only;omega⟩
      ·dsimp only
       rw [hvt,prtL_snoc,if_pos hsub,←hz,←hfv];simp [vals]
      ·dsimp only;rw [List.length_append,List.length_singleton];omega
      ·intro x hx
       have hk24:∀ {a':Option Addr},TyA wBB4 a' 3→(∀ k,aBlk a' k→wBB0.heap.size≤k∧¬aBlk a k)→TyA w24 a' 3:=fun h1 h2=>(h1.mod m23 fun k hk=>(h2 k hk).2).mod m24 fun k hk hq=>by have hq:k=b3_3:=hq;have:=(h2 k hk).1;omega
       rcases List.mem_append.1 hx with h | h
       ·exact ⟨(hzm x h).1,hk24 ((hzm x h).2.ext e4) fun k hk=>⟨((hK4.each x h).2.2 k hk).1,((hK4.each x h).2.2 k hk).2.2⟩⟩
       ·rw [List.mem_singleton] at h;rw [h];exact ⟨hfl,hk24 (OwnT.tyA hof) fun k hk=>⟨by have:=hof.ge k hk;omega,fun h=>by have:=hK.own.lt k h;have:=hof.ge k hk;omega⟩⟩
      ·dsimp only;rw [List.length_append];exact hB24
      ·exact ((m5.ext e4).ownA m23 fun q hq=>by have:=hK4.own.ge q hq;omega).then m24 fun q _ hq=>hq
     ·have hsub:¬subB (g.edges.getD k default).l vs=true:=fun h=>by have:=prtE_len.2 h;rw [←hfv] at this;omega
      refine ⟨(k+1,z,a,c),rfl,⟨by dsimp only;omega,?_,by dsimp only;omega,fun f hf=>⟨(hzm f hf).1,(hzm f hf).2.ext e4⟩,hb4,hK4,m5.ext e4⟩,by dsimp only;omega⟩
      dsimp only
      rw [hvt,prtL_snoc,if_neg hsub,List.append_nil,hz]
   ·have hke:k=g.edges.length:=by omega
    subst hke
    rw [List.take_length] at hz
    have hZ5:=hZ7.ext (hext m5)
    refine Vr<|Vo (R.ldA ag25 sz25 rfl rfl (show RowAt _ _ _ (encGr ⟨(vs.length:Nat),y.a,y.c,y.l,a,c,z⟩) from hb5.rowAt 0 3) rfl)<|VL.store (v:=.agg _) sz25 rfl rfl rfl rfl hZ5 rfl rfl fun w25 m25 hs25 hB25=>oJ rfl<|Vn<|Vt (fretCT (v:=.int _ _) rfl rfl rfl rfl rfl ag25 sz25 rfl (show RowAt _ _ _ (encGr ⟨(vs.length:Nat),y.a,y.c,y.l,a,c,z⟩) from hB25.rowAt 0 3) rfl (?_))
    have hy5:=ho.mod m5 fun q h1 h2=>by have h2:q=b3_3:=h2;have:=ho.ge q h1;omega
    have hlt5:=hb.lt
    have hKm:=hK.mod m25 fun q hq=>by have hq:q=b0_1:=hq;omega
    refine ⟨(⟨(vs.length:Nat),y.a,y.c,y.l,a,c,z⟩,0),rfl,⟨?_,⟨⟨?_,hKm.LL⟩,⟨ho.cap,ho.hax⟩,fun x hx=>⟨(hK.each x hx).2.1,(hzm x hx).1⟩⟩,⟨(OwnT.tyA hy5).mod m25 fun q h1 h2=>by have h2:q=b0_1:=h2;have:=ho.ge q h1;omega,(OwnT.tyA hKm.own),fun x hx=>(hzm x hx).2.mod m25 fun q h1 h2=>by have h2:q=b0_1:=h2;have:=((hK.each x hx).2.2 q h1).1;omega⟩⟩,?_⟩
    ·unfold partF
     rw [if_pos ⟨hv,hs⟩]
     show ((⟨(vs.length:Nat),y.l,vals z⟩:Gr),(0:Int))=_
     rw [hy,hz,hcf];rfl
    ·exact (hy5.mod m25 fun q h1 h2=>by have h2:q=b0_1:=h2;have:=ho.ge q h1;omega).sl
    ·exact (hw7.trans (hext m5)).ownA m25 fun q hq=>by have hq:q=b0_1:=hq;omega
 ·have h1:partF (grV g) vs=(default,1):=by
   unfold partF
   rw [if_neg fun h=>?_]
   rw [h.1] at g1_3;cases g1_3
  exact ⟨(default,1),rfl,⟨h1.symm,GNew.zero _ _,GTy.zero _⟩,((e0_0.trans e0_1).trans e1_1).own m2_1 (by have:=e0_0.size;dsimp only;omega)⟩
/-! ### Literals -/
theorem litI {w:World} {b:Nat} {cs:Array Value} {l:List Int} (h:Blk w b (.cells cs 3 (0,0))) (hr:(l.map Vc.encI).flatten=cs.toList) (hm:l.length≤maxLen):IntSl w (some ⟨b,0,none⟩) l :=
 OwnT.sl (B:=0) (OwnT.of_blk (l:=l) h (Nat.zero_le _) hr (fun r hr=>by obtain ⟨x,_,rfl⟩:=List.mem_map.1 hr;rfl) hm)
theorem litA0 {w:World}:∀ x∈([]:List SlI),IntSl w x.a x.l:=fun x h=>by cases h
theorem litA {w:World} {a:Option Addr} {c:Nat} {l:List Int} {L:List SlI} (h:IntSl w a l) (t:∀ x∈L,IntSl w x.a x.l):∀ x∈(⟨a,c,l⟩ :: L:List SlI),IntSl w x.a x.l:=fun x hx=>by
 rcases List.mem_cons.1 hx with e | h2
 ·rw [e];exact h
 ·exact t x h2
theorem litL {w:World} {b:Nat} {cs:Array Value} {L:List SlI} (h:Blk w b (.cells cs 22 (0,0))) (hr:(L.map encSl).flatten=cs.toList) (he:∀ x∈L,IntSl w x.a x.l) (hm:L.length≤maxLen:=by exact Nat.le_of_ble_eq_true rfl):LL w (some ⟨b,0,none⟩) L :=
 ⟨OwnT.sl (B:=0) (OwnT.of_blk (l:=L) h (Nat.zero_le _) hr (fun r hr=>by obtain ⟨x,_,rfl⟩:=List.mem_map.1 hr;rfl) hm),he⟩
def litOk (E:List SlI):Bool:=E.all fun x=>x.a.isSome&&decide (x.l.length≤1000000)&&x.l.all fun y=>decide (-9223372036854775808≤y)&&decide (y≤9223372036854775807)
theorem litOk_iff {E:List SlI} (h:litOk E=true):∀ x∈E,x.l.length≤1000000∧(x.a=none→x.c=0)∧∀ y∈x.l,-9223372036854775808≤y∧y≤9223372036854775807:=fun x hx=>by
 have:=List.all_eq_true.1 h x hx
 rw [Bool.and_eq_true,Bool.and_eq_true] at this
 obtain ⟨⟨h1,h2⟩,h3⟩:=this
 refine ⟨of_decide_eq_true h2,(fun e=>by rw [e] at h1;cases h1),fun y hy=>?_⟩
 have:=List.all_eq_true.1 h3 y hy
 rw [Bool.and_eq_true] at this
 exact ⟨of_decide_eq_true this.1,of_decide_eq_true this.2⟩
theorem addr_some {w:World} {a:Option Addr} {l:List Int} (h:IntSl w a l) (hl:l≠[]):a≠none:=by
 rintro rfl
 rcases h.2 with h | ⟨b,off,h,_⟩
 ·exact hl (by simpa using h)
 ·cases h
theorem GNew.glen {w w':World} {g:GrW} {G:Gr} (h:GNew w w' g) (hG:grV g=G) (hc:G.cost.length≤9223372036854775807) (he:G.edges.length≤9223372036854775807) (hn:(G.edges.all fun e=>decide (e≠[]))=true):GLen g:=by
 subst hG
 refine ⟨hc,by simpa [grV,vals] using he,fun x hx=>⟨(h.each x hx).2,fun e=>?_⟩⟩
 have:=of_decide_eq_true (List.all_eq_true.1 hn x.l (List.mem_map_of_mem hx))
 exact absurd e (addr_some (h.ok.e.each x hx) this)
theorem sets_is (E F:List SlI) (a b:Option Addr) (ca cb:Nat) (w:World) (hv:vals E=vals F) (hm:F.length≤9223372036854775807) (he:∀ x∈E,x.l.length≤9223372036854775807) (hf:∀ x∈F,x.l.length≤9223372036854775807) (hE:LL w a E) (hF:LL w b F) :
  RetsP prog 17 #[.slice a E.length ca,.slice b F.length cb] w (.bool true):=by
 have h:=sets_spec E F a b ca cb w (by have:=congrArg List.length hv;rw [List.length_map,List.length_map] at this;omega) hm he hf hE hF
 rwa [decide_eq_true hv] at h
end Go.Proofs.YtdkhcipjenfcnaaGreatDoor
