/- Hyper: the components. -/
import Derived.Test.YtjocoefpnboccaaGreatDoorXHG
namespace Go.Proofs.YtjocoefpnboccaaGreatDoor
set_option maxHeartbeats 16000000
open Go.Vc
set_option maxRecDepth 100000
set_option maxHeartbeats 16000000
structure FoJ (w0:World) (Bn:Nat) (a:Option Addr) (cap N:Nat) (d:List Int) (w:World):Prop where
 b:Blk w Bn (.cells #[.slice a N cap] 22 (0,0))
 n:¬aBlk a Bn
 o:OwnT Vc.encI 1 3 w0.heap.size w a cap d
 len:d.length=N
 e:Ext w0 w
theorem FoJ.out {w0 w w':World} {Bn cap N r:Nat} {a:Option Addr} {d:List Int} {S:Nat→Prop} (h:FoJ w0 Bn a cap N d w) (m:Vc.Mod S w w') (hS:∀ k,S k→r≤k) (hr:Bn<r∧(∀ k,aBlk a k→k<r)∧w0.heap.size≤r):FoJ w0 Bn a cap N d w' :=
 ⟨h.b.mod m fun hk=>by have:=hS _ hk;omega,h.n,h.o.mod m fun k h1 h2=>by have:=hS _ h2;have:=hr.2.1 k h1;omega,h.len,h.e.ownA m fun k hk=>by have:=hS k hk;omega⟩
theorem GLs.weaken {B B':Nat} {w:World} {a:Option Addr} {c:Nat} {z:List SlI} (h:GLs B w a c z) (hB:B'≤B):GLs B' w a c z:=⟨h.own.weaken hB,fun i=>(h.each i).weaken hB,h.out,h.sep⟩
theorem comps_specG (g:GrW) (B:Nat) (w:World) (hG:GOk w g) (hl:GLen g) (hB:B≤w.heap.size) (hT:TabW B w) :
  RetsX Tryz.prog 22 #[.agg (encGr g).toArray] w (fun z:List SlI×Option Addr×Nat=>.slice z.2.1 z.1.length z.2.2) (fun z w'=>vals z.1=compsG (grV g)∧GLs w.heap.size w' z.2.1 z.2.2 z.1):=by
 refine enter (args:=[_]) Tryz.func22 rfl Tryz.ntmps22 (by kernel_rfl) rfl ?_
 refine V.seq (V.region (VL.box (v:=.agg _) rfl fun b0_0 w0_0 hb0_0 e0_0 hB0_0=>VL.op (R.asS rfl) (VL.nil (V.seq (V.seq (V.region (VL.op (R.ldA Tryz.isAgg25 Tryz.sizeOf25 rfl rfl ((show RowAt _ _ _ (encGr g) from (hB0_0.rowAt 0 3))) rfl) (VL.callP Tryz.call26 rfl (valid_spec g B _ (hG.ext e0_0) hl (Nat.le_trans hB (e0_0).size) (hT.ext hB e0_0)) fun w1_1 e1_1=>VL.op (R.not rfl) (VL.nil (V.cond rfl (fun c19=>V.seq (V.region (VL.op (R.asS rfl) (VL.nil (V.ret (fret1 (v:=.slice _ _ _) rfl rfl rfl (?_))))))) (fun c19=>V.skip (V.seq (?_)))))))))))))
 ·have hc:compsG (grV g)=[]:=by unfold compsG;rw [if_neg];intro h;rw [h] at c19;cases c19
  exact ⟨([],none,0),rfl,⟨hc.symm,GLs.nil _ _⟩,e0_0.trans e1_1⟩
 ·have hv:validG (grV g)=true:=by simpa using c19
  have hn:=costB_iff.1 (validG_iff.1 hv).1
  obtain ⟨N,hN⟩:∃ N:Nat,g.n=(N:Int):=⟨g.n.toNat,by have h0:0≤g.n:=hn.1;omega⟩
  have hN4:N≤4000:=by have h0:g.n≤4000:=hn.2.1;omega
  have hB1:=hB0_0.ext e1_1
  have hw1:=e0_0.trans e1_1
  refine V.region (VL.op (R.fld' (o:=0) Tryz.runUnderlying25 rfl rfl Tryz.sizeOf3 rfl rfl) (VL.op (R.ld1 Tryz.isAgg3 rfl ((show w1_1.cell? ⟨b0_0,0,none⟩=some (Value.int .i64 ((N:Nat):Int)) from by rw [←hN];exact hB1.cell 0))) (VL.makeSl (enc:=Vc.encI ) el22 ( (0:Int)) rfl rfl rfl (by omega) (by unfold maxLen;omega) (Nat.le_refl _) fun b3 w3 hb3 e3 ho3=>VL.allocSt (v:=.slice _ _ _) Tryz.zeroValue22 Tryz.sizeOf22 rfl rfl rfl rfl rfl fun b3_3 w3_3 hb3_3 e3_3 hB3_3=>VL.nil (V.cut [1,3] (fun d:List Int=>[.pointer (some ⟨b0_0,0,none⟩),.pointer (some ⟨b3_3,0,none⟩)]) (fun d w'=>FoJ w1_1 b3_3 (some ⟨b3,0,none⟩) N N d w'∧∀ j,j<N→d.getD j default=(j:Int)) (V.seq (V.region (VL.op (R.ld1 Tryz.isAgg22 rfl ((hB3_3.cell _))) (VL.op (R.lenS Tryz.runUnderlying22 rfl) (VL.op (R.mvI rfl) (VL.nil (V.block (?_)))))))) (fun rgB0 xB0 wBB0 hBB0=>V.seq (?_))))))
  ·refine V.loop [1,3,23,24,25] (fun x:Nat×List Int=>[.pointer (some ⟨b0_0,0,none⟩),.pointer (some ⟨b3_3,0,none⟩),.slice (some ⟨b3,0,none⟩) N N,.int .i64 (N:Nat),.int .i64 (x.1:Nat)])
    (fun x w'=>x.1≤N∧FoJ w1_1 b3_3 (some ⟨b3,0,none⟩) N N x.2 w'∧∀ j,j<x.1→x.2.getD j default=(j:Int)) (fun x=>N-x.1) (0,List.replicate N 0) rfl ⟨Nat.zero_le _,⟨hB3_3,?_,ho3.ext e3_3,by simp,e3.trans e3_3⟩,fun j h=>absurd h (Nat.not_lt_zero j)⟩ ?_
   ·rintro ⟨ad,h,hk⟩
    injection h with h
    subst h
    have hk:b3=b3_3:=hk
    have:=ho3.lt b3 ⟨_,rfl,rfl⟩
    omega
   rintro ρ ⟨k,d⟩ w4 ⟨hk,hJ,hd⟩
   dsimp only at hk hJ hd ⊢
   have hlen:=hJ.len
   refine V.seq (V.region (VL.op (R.lss rfl rfl) (VL.nil (V.seq (V.condP rfl (fun c26=>V.skip (V.seq (V.block (V.seq (V.region (VL.op (R.mvI rfl) (VL.op (R.asI rfl) (VL.nil (V.region (VL.op (R.ld1 Tryz.isAgg22 rfl ((hJ.b.cell _))) (VL.op (R.mvI rfl) (VL.op (R.mvI rfl) (VL.op (R.ixS Tryz.runUnderlying22 Tryz.sizeOf3 rfl rfl (by omega) (by omega) ((hJ.o.sl).some (i:=k) (by omega))) (VL.ownSt eltI (v:=.int _ _) Tryz.sizeOf3 (hJ.o) k 0 ((k:Nat):Int) rfl rfl (by omega) rfl rfl rfl rfl rfl fun w7 ho7 m7 hs7=>VL.nil (V.region (VL.op (R.add rfl rfl (by omega) (by omega)) (VL.op (R.mvI rfl) (VL.nil (?_))))))))))))))))))) (fun c26=>V.exit (?_)))))))
   ·refine ⟨(k+1,d.set k (k:Int)),rfl,⟨by dsimp only;omega,⟨hJ.b.mod m7 hJ.n,hJ.n,ho7,by simp [hlen],hJ.e.ownA m7 fun q hq=>hJ.o.ge q hq⟩,fun j hj=>?_⟩,by dsimp only;omega⟩
    dsimp only at hj ⊢
    by_cases h:j=k
    ·subst h;simp [List.getD,show j<d.length by omega]
    ·have:=hd j (by omega)
     rw [←this]
     simp [List.getD,List.getElem?_set_ne (Ne.symm h)]
   ·have hkN:k=N:=by omega
    subst hkN
    exact ⟨d,rfl,hJ,hd⟩
  ·obtain ⟨hJ0,hd0⟩:=hBB0
   have hlen0:=hJ0.len
   have hcls0:Cls xB0:=fun i hi=>by rw [hd0 i (by omega)];omega
   have hroot0:∀ j,j<N→rootF xB0 j=j:=fun j hj=>rootF_self hcls0 (by omega) (by unfold par;rw [hd0 j hj];rfl)
   have hE0:Blk wBB0 b0_0 (.cells (Value.agg (encGr g).toArray).cells 25 (0,0)):=hB1.ext hJ0.e
   refine V.region (VL.op (R.mkFn rfl rfl) (VL.op (R.asF rfl) (VL.nil (V.cut [1,3,5] (fun d:List Int=>[.pointer (some ⟨b0_0,0,none⟩),.pointer (some ⟨b3_3,0,none⟩),.func (.func 40) #[] #[.pointer (some ⟨b3_3,0,none⟩)]]) (fun d w'=>FoJ w1_1 b3_3 (some ⟨b3,0,none⟩) N N d w'∧Cls d∧∀ j,j<N→rootF d j=compE (vals g.edges) j) (V.seq (V.region (VL.op (R.fld' (o:=2) Tryz.runUnderlying25 rfl rfl Tryz.sizeOf23 rfl rfl) (VL.op (R.ld1 Tryz.isAgg23 rfl ((show wBB0.cell? ⟨b0_0,2,none⟩=some (Value.slice g.ea g.edges.length g.ec) from hE0.cell 2))) (VL.op (R.lenS Tryz.runUnderlying23 rfl) (VL.op (R.mvI rfl) (VL.nil (V.block (?_))))))))) (fun rgB2 xB2 wBB2 hBB2=>V.seq (?_))))))
   ·refine V.loop [1,3,5,35,36,37] (fun x:Nat×List Int=>[.pointer (some ⟨b0_0,0,none⟩),.pointer (some ⟨b3_3,0,none⟩),.func (.func 40) #[] #[.pointer (some ⟨b3_3,0,none⟩)],.slice g.ea g.edges.length g.ec,.int .i64 (g.edges.length:Nat),.int .i64 (x.1:Nat)])
     (fun x w'=>x.1≤g.edges.length∧FoJ w1_1 b3_3 (some ⟨b3,0,none⟩) N N x.2 w'∧Cls x.2∧∀ j,j<N→rootF x.2 j=compR (prsE (vals (g.edges.take x.1))) j) (fun x=>g.edges.length-x.1) (0,xB0) rfl ⟨Nat.zero_le _,hJ0,hcls0,fun j hj=>hroot0 j hj⟩ ?_
    rintro ρ ⟨k,d⟩ w5 ⟨hk,hJ,hC,hR⟩
    dsimp only at hk hJ hC hR ⊢
    have hE5:=(hG.ext hw1).ext hJ.e
    refine V.seq (V.region (VL.op (R.lss rfl rfl) (VL.nil (V.seq (V.condP rfl (fun c38=>V.skip (V.seq (V.block (V.seq (V.region (VL.op (R.ixS Tryz.runUnderlying23 Tryz.sizeOf22 rfl rfl (by omega) (by omega) ((hE5.e.sl).some (i:=k) (by omega))) (VL.op (R.ld1 Tryz.isAgg22 rfl (((((hE5.e.sl).ext (Mod.refl _ _)).row (i:=k) (by omega)).cell (i:=0) rfl))) (VL.op (R.asS rfl) (VL.nil (V.seq (V.region (VL.op (R.mvS rfl) (VL.op (R.lenS Tryz.runUnderlying22 rfl) (VL.op (R.mvI rfl) (VL.nil (V.block (?_))))))))))))))))) (fun c38=>V.exit (?_)))))))
    ·have hkl:k<g.edges.length:=by omega
     have hxs:=(validG_iff.1 hv).2.2.1 _ (List.mem_map_of_mem (gmem hkl))
     have hxv:∀ y∈(g.edges.getD k default).l,0≤y∧y<(N:Int):=fun y hy=>by have:=hxs.2.2 y hy;rw [show (grV g).n=g.n from rfl,hN] at this;exact this
     have hxp:0<(g.edges.getD k default).l.length:=List.length_pos_iff.2 hxs.1
     have hvt:prsE (vals (g.edges.take (k+1)))=prsE (vals (g.edges.take k))++prE (g.edges.getD k default).l:=by
      rw [List.take_succ_eq_append_getElem hkl,gget hkl];unfold vals prsE;rw [List.map_append,List.flatMap_append];simp only [List.map_cons,List.map_nil,List.flatMap_cons,List.flatMap_nil,List.append_nil]
     have hxl:=(hl.each _ (gmem hkl)).1
     have hle:=hl.e
     refine V.loop [1,3,5,7,35,36,37,41,42,43] (fun x:Nat×List Int=>[.pointer (some ⟨b0_0,0,none⟩),.pointer (some ⟨b3_3,0,none⟩),.func (.func 40) #[] #[.pointer (some ⟨b3_3,0,none⟩)],.slice (g.edges.getD k default).a (g.edges.getD k default).l.length (g.edges.getD k default).c,.slice g.ea g.edges.length g.ec,.int .i64 (g.edges.length:Nat),.int .i64 (k:Nat),.slice (g.edges.getD k default).a (g.edges.getD k default).l.length (g.edges.getD k default).c,.int .i64 ((g.edges.getD k default).l.length:Nat),.int .i64 (x.1:Nat)])
      (fun x w'=>x.1≤(g.edges.getD k default).l.length∧FoJ w1_1 b3_3 (some ⟨b3,0,none⟩) N N x.2 w'∧Cls x.2∧∀ j,j<N→rootF x.2 j=compR (prsE (vals (g.edges.take k))++(prE (g.edges.getD k default).l).take x.1) j) (fun x=>(g.edges.getD k default).l.length-x.1) (0,d) rfl ⟨Nat.zero_le _,hJ,hC,fun j hj=>by rw [List.take_zero,List.append_nil];exact hR j hj⟩ ?_
     rintro ρ ⟨i,d2⟩ w6 ⟨hi,hJ2,hC2,hR2⟩
     dsimp only at hi hJ2 hC2 hR2 ⊢
     have hx6:IntSl w6 (g.edges.getD k default).a (g.edges.getD k default).l:=((hG.ext hw1).ext hJ2.e).e.at hkl
     have hfind:∀ (u:Int) (d:List Int) (w':World),0≤u→u<(N:Int)→FoJ w1_1 b3_3 (some ⟨b3,0,none⟩) N N d w'→Cls d→RetsY Tryz.prog 40 ([]++[Value.int .i64 u]++[Value.pointer (some ⟨b3_3,0,none⟩)]).toArray w' (fun _:List Int=>.int .i64 (rootF d u.toNat:Nat)) (fun c' w2=>FoJ w1_1 b3_3 (some ⟨b3,0,none⟩) N N c' w2∧Vc.Alike d c'):=fun u d w' h0 h1 hJ hC=>by
      have hu:u=((u.toNat:Nat):Int):=by omega
      have hd:=hJ.len
      have:=find_spec b3_3 (some ⟨b3,0,none⟩) N w1_1.heap.size d u.toNat w' (by rw [hd];exact hJ.b) hJ.n hJ.o hC (by omega) (by omega)
      rw [←hu] at this
      exact Rets.mono this fun v w2 ⟨c',hv,h1,h2,h3⟩=>⟨c',hv,⟨hJ.b.mod h3 hJ.n,hJ.n,h1,by rw [h2.len,hd],hJ.e.ownA h3 fun q hq=>hJ.o.ge q hq⟩,h2⟩
     refine V.seq (V.region (VL.op (R.lss rfl rfl) (VL.nil (V.seq (V.condP rfl (fun c44=>V.skip (V.seq (V.block (V.seq (?_))))) (fun c44=>V.exit (V.region (VL.op (R.add rfl rfl (by omega) (by omega)) (VL.op (R.mvI rfl) (VL.nil (?_)))))))))))
     ·have hil:i<(g.edges.getD k default).l.length:=by omega
      have hf:=hxv _ (gmem hxp)
      have hvv:=hxv _ (gmem hil)
      refine V.region (VL.op (R.ixS Tryz.runUnderlying22 Tryz.sizeOf3 rfl rfl (by omega) (by omega) ((hx6).some (i:=i) (by omega))) (VL.op (R.ld1 Tryz.isAgg3 rfl (((((hx6).ext (Mod.refl _ _)).row (i:=i) (by omega)).cell (i:=0) rfl))) (VL.op (R.asI rfl) (VL.nil (V.seq (V.region (VL.op (R.mvF rfl) (VL.op (R.mvS rfl) (VL.op (R.ixS Tryz.runUnderlying22 Tryz.sizeOf3 rfl rfl (by omega) (by omega) (hx6.some (i:=0) hxp)) (VL.op (R.ld1 Tryz.isAgg3 rfl (((hx6.row (i:=0) hxp).cell (i:=0) rfl))) (VL.callCY rfl (Tryz.call40) rfl (hfind ((g.edges.getD k default).l.getD 0 default) d2 w6 hf.1 hf.2 hJ2 hC2) fun d3 w7 ⟨hJ3,hA3⟩=>VL.op (R.mvF rfl) (VL.op (R.mvI rfl) (VL.callCY rfl (Tryz.call40) rfl (hfind ((g.edges.getD k default).l.getD i default) d3 w7 hvv.1 hvv.2 hJ3 hA3.cls) fun d4 w8 ⟨hJ4,hA4⟩=>VL.op (R.asI rfl) (VL.op (R.asI rfl) (VL.nil (?_))))))))))))))))
      have hl2:=hJ2.len
      have hl4:=hJ4.len
      have hA:=hA3.trans hA4
      obtain ⟨F,hF⟩:∃ F,F=((g.edges.getD k default).l.getD 0 default).toNat:=⟨_,rfl⟩
      obtain ⟨U,hU⟩:∃ U,U=((g.edges.getD k default).l.getD i default).toNat:=⟨_,rfl⟩
      have hFN:F<N:=by omega
      have hUN:U<N:=by omega
      have er:rootF d3 U=rootF d2 U:=hA3.root U (by omega)
      rw [←hF,←hU,er]
      have ri:=rootF_le hC2 F (by omega)
      have rj:=rootF_le hC2 U (by omega)
      obtain ⟨x,hx⟩:∃ x,x=rootF d2 F:=⟨_,rfl⟩
      obtain ⟨y,hy⟩:∃ y,y=rootF d2 U:=⟨_,rfl⟩
      rw [←hx,←hy]
      have hmx:(max (x:Int) (y:Int)).toNat=max x y:=by omega
      have hmn:min (x:Int) (y:Int)=((min x y:Nat):Int):=by omega
      refine V.region (VL.op (R.ld1 Tryz.isAgg22 rfl ((hJ4.b.cell _))) (VL.op (R.mvI rfl) (VL.op (R.mvI rfl) (VL.op (R.max rfl rfl) (VL.op (R.mvI rfl) (VL.op (R.mvI rfl) (VL.op (R.min rfl rfl) (VL.op (R.ixS Tryz.runUnderlying22 Tryz.sizeOf3 rfl rfl (by omega) (by omega) (hJ4.o.sl.some (i:=(max (x:Int) (y:Int)).toNat) (by omega))) (VL.ownSt eltI (v:=.int _ _) Tryz.sizeOf3 (hJ4.o) (max (x:Int) (y:Int)).toNat 0 (min (x:Int) (y:Int)) rfl rfl (by omega) rfl rfl rfl rfl rfl fun w9 h9 m9 s9=>VL.nil (V.region (VL.op (R.add rfl rfl (by omega) (by omega)) (VL.op (R.mvI rfl) (VL.nil (?_))))))))))))))
      rw [hmx,hmn] at h9
      have px:par d4 x=x:=by
       have h0:rootF d4 x=x:=by rw [hA.root x (by omega),hx];exact rootF_idem hC2 (by omega)
       have:=rootF_par hA.cls x (by omega)
       rw [h0] at this;exact this
      have py:par d4 y=y:=by
       have h0:rootF d4 y=y:=by rw [hA.root y (by omega),hy];exact rootF_idem hC2 (by omega)
       have:=rootF_par hA.cls y (by omega)
       rw [h0] at this;exact this
      have pmx:par d4 (max x y)=max x y:=by
       by_cases h:x≤y
       ·rw [Nat.max_eq_right h];exact py
       ·rw [Nat.max_eq_left (by omega)];exact px
      have pmn:par d4 (min x y)=min x y:=by
       by_cases h:x≤y
       ·rw [Nat.min_eq_left h];exact px
       ·rw [Nat.min_eq_right (by omega)];exact py
      obtain ⟨hcl,hrt⟩:=root_join hA.cls (m:=min x y) (n:=max x y) (by omega) (by omega) pmn pmx
      refine ⟨(i+1,d4.set (max x y) ((min x y:Nat):Int)),rfl,⟨by dsimp only;omega,⟨hJ4.b.mod m9 hJ4.n,hJ4.n,h9,by simp [hl4],hJ4.e.ownA m9 fun q hq=>hJ4.o.ge q hq⟩,hcl,fun j hj=>?_⟩,by dsimp only;omega⟩
      have htk:(prE (g.edges.getD k default).l).take (i+1)=(prE (g.edges.getD k default).l).take i++[(F,U)]:=by
       rw [List.take_succ_eq_append_getElem (by unfold prE;rw [List.length_map];exact hil)]
       congr 1
       rw [hF,hU,gget hil]
       simp [prE]
      dsimp only
      rw [htk,←List.append_assoc,compR_snoc,hrt j (by omega),hA.root j (by omega),hx,hy,hR2 j hj,hR2 F hFN,hR2 U hUN]
      rfl
     ·have hie:i=(g.edges.getD k default).l.length:=by omega
      subst hie
      refine ⟨(k+1,d2),rfl,⟨by dsimp only;omega,hJ2,hC2,fun j hj=>?_⟩,by dsimp only;omega⟩
      dsimp only
      rw [hvt,hR2 j hj,List.take_of_length_le (l:=prE (g.edges.getD k default).l) (by unfold prE;rw [List.length_map];exact Nat.le_refl _)]
    ·have hke:k=g.edges.length:=by omega
     subst hke
     refine ⟨d,rfl,hJ,hC,fun j hj=>?_⟩
     rw [hR j hj,List.take_length];rfl
   ·obtain ⟨hJb,hCb,hRb⟩:=hBB2
    have hEb:Blk wBB2 b0_0 (.cells (Value.agg (encGr g).toArray).cells 25 (0,0)):=hB1.ext hJb.e
    obtain ⟨Cm,hRdef⟩:∃ Cm,Cm=compE (vals g.edges):=⟨_,rfl⟩
    rw [←hRdef] at hRb
    have hI:IsComp N (prsE (vals g.edges)) Cm:=by have:=validG_comp hv;rw [hRdef];rw [show (grV g).n=g.n from rfl,hN] at this;exact this
    have hcG:compsG (grV g)=grpsK Cm N:=by unfold compsG;rw [if_pos hv,hRdef,show (grV g).n=g.n from rfl,hN];rfl
    have hb3r:b3_3<wBB2.heap.size:=hJb.b.lt
    have hbr:∀ k,aBlk (some ⟨b3,0,none⟩) k→k<wBB2.heap.size:=hJb.o.lt
    have hsz1:=hJb.e.size
    have hfind2:∀ (j:Nat) (d:List Int) (w':World),j<N→FoJ w1_1 b3_3 (some ⟨b3,0,none⟩) N N d w'→Cls d→RetsY Tryz.prog 40 ([]++[Value.int .i64 (j:Nat)]++[Value.pointer (some ⟨b3_3,0,none⟩)]).toArray w' (fun _:List Int=>.int .i64 (rootF d j:Nat)) (fun c' w2=>FoJ w1_1 b3_3 (some ⟨b3,0,none⟩) N N c' w2∧Vc.Alike d c'∧Vc.Mod (aBlk (some ⟨b3,0,none⟩)) w' w2):=fun j d w' h0 hJ hC=>by
     have hd:=hJ.len
     have:=find_spec b3_3 (some ⟨b3,0,none⟩) N w1_1.heap.size d j w' (by rw [hd];exact hJ.b) hJ.n hJ.o hC (by omega) (by omega)
     exact Rets.mono this fun v w2 ⟨c',hv,h1,h2,h3⟩=>⟨c',hv,⟨hJ.b.mod h3 hJ.n,hJ.n,h1,by rw [h2.len,hd],hJ.e.ownA h3 fun q hq=>hJ.o.ge q hq⟩,h2,h3⟩
    refine V.region (VL.op (R.asS rfl) (VL.nil (V.seq (V.region (VL.makeMap fun r21_0 w21_0 hr21_0 e21_0 hM21_0=>VL.op (R.asM rfl) (VL.nil (V.seq (V.seq (V.region (VL.op (R.fld' (o:=0) Tryz.runUnderlying25 rfl rfl Tryz.sizeOf3 rfl rfl) (VL.op (R.ld1 Tryz.isAgg3 rfl ((show w21_0.cell? ⟨b0_0,0,none⟩=some (Value.int .i64 ((N:Nat):Int)) from by rw [←hN];exact (hEb.ext e21_0).cell 0))) (VL.op (R.mvI rfl) (VL.nil (V.block (?_)))))))))))))))
    have hJ0:FoJ w1_1 b3_3 (some ⟨b3,0,none⟩) N N xB2 w21_0:=⟨hJb.b.ext e21_0,hJb.n,hJb.o.ext e21_0,hJb.len,hJb.e.trans e21_0⟩
    have hrl:=hM21_0.lt
    have hRR:b3_3<r21_0∧(∀ k,aBlk (some ⟨b3,0,none⟩) k→k<r21_0)∧w1_1.heap.size≤r21_0:=⟨by omega,fun k hk=>by have:=hbr k hk;omega,by omega⟩
    refine V.loop [5,12,13,67,68] (fun x:Nat×List Int×(List SlI×Option Addr×Nat)×List (Int×Nat)=>[.func (.func 40) #[] #[.pointer (some ⟨b3_3,0,none⟩)],.slice x.2.2.1.2.1 x.2.2.1.1.length x.2.2.1.2.2,.map (some r21_0),.int .i64 ((N:Nat):Int),.int .i64 (x.1:Nat)])
     (fun x w'=>x.1≤N∧FoJ w1_1 b3_3 (some ⟨b3,0,none⟩) N N x.2.1 w'∧Cls x.2.1∧(∀ j,j<N→rootF x.2.1 j=Cm j)∧GLs (r21_0+1) w' x.2.2.1.2.1 x.2.2.1.2.2 x.2.2.1.1∧vals x.2.2.1.1=grpsK Cm x.1∧MapIs w' r21_0 kI (tenc vN x.2.2.2)∧PlaceM Cm x.1 x.2.2.2∧r21_0+1≤w'.heap.size)
     (fun x=>N-x.1) (0,xB2,([],none,0),[]) rfl ⟨Nat.zero_le _,hJ0,hCb,hRb,GLs.nil _ _,rfl,MapIs.empty hM21_0,PlaceM.zero Cm,by omega⟩ ?_
    rintro ρ ⟨k,d,⟨z,a12,c12⟩,m⟩ w5 ⟨hk,hJ,hC,hR,hG,hz,hM,hP,hs5⟩
    dsimp only at hk hJ hC hR hG hz hM hP hs5 ⊢
    refine V.seq (V.region (VL.op (R.lss rfl rfl) (VL.nil (V.seq (V.condP rfl (fun c69=>V.skip (V.seq (V.block (V.seq (?_))))) (fun c69=>V.exit (V.seq (V.region (VL.op (R.mvS rfl) (VL.op (R.asS rfl) (VL.nil (V.ret (fret1 (v:=.slice _ _ _) rfl rfl rfl (?_))))))))))))))
    ·have hkN:k<N:=by omega
     have hle:∀ i,i<k→Cm i≤i:=fun i hi=>hI.le i (by omega)
     have hzl:z.length=(hdsK Cm k).length:=by rw [←grpsK_len,←hz,List.length_map]
     have hhl:=hdsK_len Cm k
     have hMf:∀ w',Vc.Mod (aBlk (some ⟨b3,0,none⟩)) w5 w'→MapIs w' r21_0 kI (tenc vN m):=fun w' hm=>hM.mod hm fun h=>by have:=hRR.2.1 _ h;omega
     have hget:mget (tenc vN m) (((rootF d k:Nat):Int))=(if Cm k∈hdsK Cm k then some (((hdsK Cm k).idxOf (Cm k):Nat):Int) else none).map fun i:Int=>Value.int .i64 i:=by
      rw [hR k hkN,tget_enc,hP]
      split <;> rfl
     refine V.region (VL.op (R.mvI rfl) (VL.op (R.asI rfl) (VL.nil (V.seq (V.region (VL.op (R.mvM rfl) (VL.op (R.mvF rfl) (VL.op (R.mvI rfl) (VL.callCY rfl (Tryz.call40) rfl (hfind2 k d w5 hkN hJ hC) fun d3 w3 ⟨hJ3,hA3,hm3⟩=>VL.op (R.lookupOkI key3 Tryz.runUnderlying46 Tryz.zeroValue3 ((hMf _ hm3)) ((if Cm k∈hdsK Cm k then some (((hdsK Cm k).idxOf (Cm k):Nat):Int) else none)) (hget) rfl rfl) (VL.op (R.mvT rfl) (VL.op (R.extr rfl rfl) (VL.op (R.extr rfl rfl) (VL.op (R.asI rfl) (VL.op (R.asB rfl) (VL.nil (V.cut [5,12,13,14,15,67,68] (fun x:Nat×(List SlI×Option Addr×Nat)×List (Int×Nat)=>[.func (.func 40) #[] #[.pointer (some ⟨b3_3,0,none⟩)],.slice x.2.1.2.1 x.2.1.1.length x.2.1.2.2,.map (some r21_0),.int .i64 (k:Nat),.int .i64 (x.1:Nat),.int .i64 ((N:Nat):Int),.int .i64 (k:Nat)]) (fun x w'=>x.1<x.2.1.1.length∧x.2.1.1.length≤k+1∧(x.2.1.1.getD x.1 default).l.length≤k∧(vals x.2.1.1).set x.1 ((x.2.1.1.getD x.1 default).l++[(k:Int)])=grpsK Cm (k+1)∧FoJ w1_1 b3_3 (some ⟨b3,0,none⟩) N N d3 w'∧GLs (r21_0+1) w' x.2.1.2.1 x.2.1.2.2 x.2.1.1∧MapIs w' r21_0 kI (tenc vN x.2.2)∧PlaceM Cm (k+1) x.2.2∧r21_0+1≤w'.heap.size) (V.seq (V.region (VL.op (R.mvB rfl) (VL.op (R.not rfl) (VL.nil (V.cond rfl (fun c80=>V.seq (?_)) (fun c80=>V.skip (?_)))))))) (fun rgC80 xC80 wBC80 hBC80=>?_)))))))))))))))))
     ·have hnew:Cm k∉hdsK Cm k:=fun h=>by rw [if_pos h] at c80;cases c80
      have hk1:=hI.le k hkN
      have hk2:Cm k=k:=by
       by_cases e:Cm k=k
       ·exact e
       ·exact absurd (hdsK_mem.2 ⟨by omega,hI.idem k hkN⟩) hnew
      obtain ⟨hd1,hd2,hg1⟩:=grpsK_new hk2 hle
      have hG3:=hG.mod hm3 fun q hq=>by have:=hRR.2.1 q hq;omega
      refine V.region (VL.op (R.mvS rfl) (VL.op (R.lenS Tryz.runUnderlying23 rfl) (VL.op (R.asI rfl) (VL.nil (V.seq (V.region (VL.op (R.mvM rfl) (VL.op (R.mvI rfl) (VL.op (R.mvI rfl) (VL.mapUpdate key3 Tryz.runUnderlying46 rfl (k:=((k:Nat):Int)) rfl rfl ((hMf _ hm3)) fun w28 hm28 m28=>VL.nil (V.region (VL.op (R.mvS rfl) (VL.append1 el23 Tryz.runUnderlying23 Tryz.sizeOf22 Tryz.zeroValue22 rfl ((default:SlI)) rfl rfl rfl (hG3.own.mod m28 fun q h1 (h2:q=r21_0)=>by have:=hG3.own.ge q h1;omega) rfl rfl rfl (by omega) (by unfold maxLen;omega) (Nat.le_trans hs5 (Nat.le_trans hm3.size m28.size)) fun a29 c29 w29 vt29 ho29 m29 hf29=>VL.op (R.asS rfl) (VL.nil (?_)))))))))))))))
      have hG28:=hG3.mod m28 fun q (h2:q=r21_0)=>by omega
      refine ⟨(z.length,(z++[default],a29,c29),tset m (k:Int) z.length),?_,?_,?_,?_,?_,?_,hG28.add ho29 m29 hf29,?_,?_,Nat.le_trans hs5 (Nat.le_trans hm3.size (Nat.le_trans m28.size m29.size))⟩
      ·dsimp only;rw [List.length_append];rfl
      ·dsimp only;rw [List.length_append,List.length_singleton];omega
      ·dsimp only;rw [List.length_append,List.length_singleton];omega
      ·dsimp only;rw [getD_snoc];simp [List.getD];exact Nat.zero_le _
      ·dsimp only
       rw [hg1,←hz,←hzl,getD_snoc]
       simp [List.getD,vals]
       rfl
      ·exact (hJ3.out m28 (fun q (h2:q=r21_0)=>by omega) hRR).out m29 (fun q hq=>by have:=hG28.own.ge q hq;omega) hRR
      ·dsimp only
       rw [tset_enc]
       exact hm28.mod m29 fun h=>by have:=hG28.own.ge _ h;omega
      ·dsimp only
       rw [hzl];exact hP.new hk2 hle
     ·have hold:Cm k∈hdsK Cm k:=Classical.byContradiction fun h=>by rw [if_neg h] at c80;cases c80
      obtain ⟨hd1,hg1⟩:=grpsK_old hold
      have hil:(hdsK Cm k).idxOf (Cm k)<z.length:=by rw [hzl];exact List.idxOf_lt_length_iff.2 hold
      have hzg:(z.getD ((hdsK Cm k).idxOf (Cm k)) default).l=memsK Cm k (Cm k):=by rw [←grpsK_at hold,←hz,gmap _ _ _ hil]
      refine ⟨((hdsK Cm k).idxOf (Cm k),(z,a12,c12),m),?_,hil,by dsimp only;omega,?_,?_,hJ3,hG.mod hm3 fun q hq=>by have:=hRR.2.1 q hq;omega,hMf _ hm3,hP.old hold,Nat.le_trans hs5 hm3.size⟩
      ·rw [if_pos hold];rfl
      ·dsimp only;rw [hzg];exact memsK_len _ _ _
      ·dsimp only;rw [hzg,hg1,hz]
     ·obtain ⟨hp1,hp2,hp3,hp4,hJ6,hG6,hM6,hP6,hs6⟩:=hBC80
      obtain ⟨q,⟨z6,a6,c6⟩,m6⟩:=xC80
      dsimp only at hp1 hp2 hp3 hp4 hJ6 hG6 hM6 hP6 hs6 ⊢
      refine V.region (VL.op (R.mvS rfl) (VL.op (R.mvI rfl) (VL.op (R.mvS rfl) (VL.op (R.mvI rfl) (VL.op (R.ixS Tryz.runUnderlying23 Tryz.sizeOf22 rfl rfl (by omega) (by omega) ((hG6.own.sl).some (i:=q) (by omega))) (VL.op (R.ld1 Tryz.isAgg22 rfl (((((hG6.own.sl).ext (Mod.refl _ _)).row (i:=q) (by omega)).cell (i:=0) rfl))) (VL.op (R.mvI rfl) (VL.append1 el22 Tryz.runUnderlying22 Tryz.sizeOf3 Tryz.zeroValue3 rfl (((k:Nat):Int)) rfl rfl rfl (hG6.each q) rfl rfl rfl (by omega) (by unfold maxLen;omega) hs6 fun a8 c8 w8 vt8 ho8 m8 hf8=>VL.op (R.ixS Tryz.runUnderlying23 Tryz.sizeOf22 rfl rfl (by omega) (by omega) ((hG6.own.sl).some (i:=q) (by omega))) (VL.ownSt eltSl (v:=.slice _ _ _) Tryz.sizeOf22 ((hG6.own.mod m8 (hG6.out q))) q 0 (SlI.mk a8 c8 ((z6.getD q default).l++[((k:Nat):Int)])) rfl rfl (by omega) rfl rfl rfl rfl (by show [Value.slice a8 ((z6.getD q default).l++[((k:Nat):Int)]).length c8]=_;rw [List.length_append];rfl) fun w9 ho9 m9 hs9=>VL.nil (V.region (VL.op (R.add rfl rfl (by omega) (by omega)) (VL.op (R.mvI rfl) (VL.nil (?_))))))))))))))
      refine ⟨(k+1,d3,(z6.set q ⟨a8,c8,(z6.getD q default).l++[((k:Nat):Int)]⟩,a6,c6),m6),by dsimp only;rw [List.length_set];rfl,⟨by dsimp only;omega,?_,hA3.cls,fun j hj=>?_,hG6.app hp1 ho8 m8 hf8 ho9 m9,?_,?_,hP6,?_⟩,by dsimp only;omega⟩
      ·exact (hJ6.out m8 (fun x hx=>by have:=(hG6.each q).ge x hx;omega) hRR).out m9 (fun x hx=>by have:=hG6.own.ge x hx;omega) hRR
      ·dsimp only
       rw [hA3.root j (by rw [hJ.len];exact hj)];exact hR j hj
      ·dsimp only
       rw [←hp4];unfold vals;rw [List.map_set]
      ·exact (hM6.mod m8 fun h=>by have:=(hG6.each q).ge _ h;omega).mod m9 fun h=>by have:=hG6.own.ge _ h;omega
      ·have h1:=m8.size
       have h2:=m9.size
       omega
    ·have hkN:k=N:=by omega
     subst hkN
     exact ⟨(z,a12,c12),rfl,⟨by rw [hcG];exact hz,hG.weaken (Nat.le_trans hw1.size (Nat.le_trans hRR.2.2 (Nat.le_succ _)))⟩,hw1.trans hJ.e⟩
theorem comps_spec (g:GrW) (B:Nat) (w:World) (hG:GOk w g) (hl:GLen g) (hB:B≤w.heap.size) (hT:TabW B w) :
  RetsX Tryz.prog 22 #[.agg (encGr g).toArray] w (fun z:List SlI×Option Addr×Nat=>.slice z.2.1 z.1.length z.2.2) (fun z w'=>vals z.1=compsG (grV g)∧LL w' z.2.1 z.1) :=
 Rets.mono (comps_specG g B w hG hl hB hT) fun _ _ ⟨z,hu,⟨h1,h2⟩,e⟩=>⟨z,hu,⟨h1,h2.LL⟩,e⟩
end Go.Proofs.YtjocoefpnboccaaGreatDoor
/- Hyper: the vertices in no edge, and those that are an edge alone. -/
namespace Go.Proofs.YtjocoefpnboccaaGreatDoor
open Go.Vc
def encBo (b:Bool):List Value:=[.bool b]
theorem eltBo:Elt encBo 1:=⟨fun _=>rfl,fun _=>rfl,by decide⟩
theorem setD_eq {α:Type} [Inhabited α] (l:List α) {i:Nat} (h:i<l.length) (v:α):(l.set i v).getD i default=v:=by simp [List.getD,h]
theorem setD_ne {α:Type} [Inhabited α] (l:List α) {i j:Nat} (h:j≠i) (v:α):(l.set i v).getD j default=l.getD j default:=by simp [List.getD,List.getElem?_set_ne (Ne.symm h)]
end Go.Proofs.YtjocoefpnboccaaGreatDoor
/- Hyper: the graph of some vertices. -/
namespace Go.Proofs.YtjocoefpnboccaaGreatDoor
open Go.Vc
def TyA (w:World) (a:Option Addr) (T:TypeId):Prop:=∀ ad,a=some ad→∃ c z,Blk w ad.block (.cells c T z)
theorem OwnT.tyA {α:Type} {enc:α→List Value} {s e B:Nat} {w:World} {a:Option Addr} {cap:Nat} {l:List α} (h:OwnT enc s e B w a cap l):TyA w a e:=fun ad ha=>by
 rcases h.own.2 with ⟨hv,_⟩ | ⟨g,cap',cur,hv,hB,hg,_⟩
 ·injection hv with h1;rw [ha] at h1;cases h1
 ·injection hv with h1
  rw [ha] at h1
  injection h1 with h1
  subst h1
  exact ⟨cur,_,hg⟩
theorem TyA.apart {w:World} {a:Option Addr} {T T':TypeId} {b:Nat} {c:Array Value} {z:Nat×Nat} (h:TyA w a T) (hb:Blk w b (.cells c T' z)) (hne:T≠T'):¬aBlk a b:=by
 rintro ⟨ad,ha,hk⟩
 obtain ⟨c',z',hb'⟩:=h ad ha
 rw [hk] at hb'
 unfold Blk at hb hb'
 rw [hb] at hb'
 injection hb' with hb'
 injection hb' with _ h2
 exact hne h2.symm
end Go.Proofs.YtjocoefpnboccaaGreatDoor
/- Hyper: lemmas on literals (split from H22). -/
namespace Go.Proofs.YtjocoefpnboccaaGreatDoor
open Go.Vc
/-! ### Literals -/
theorem litI {w:World} {b:Nat} {cs:Array Value} {l:List Int} (h:Blk w b (.cells cs 3 (0,0))) (hr:(l.map Vc.encI).flatten=cs.toList) (hm:l.length≤maxLen):IntSl w (some ⟨b,0,none⟩) l :=
 OwnT.sl (B:=0) (OwnT.of_blk (l:=l) h (Nat.zero_le _) hr (fun r hr=>by obtain ⟨x,_,rfl⟩:=List.mem_map.1 hr;rfl) hm)
theorem litA0 {w:World}:∀ x∈([]:List SlI),IntSl w x.a x.l:=fun x h=>by cases h
theorem litA {w:World} {a:Option Addr} {c:Nat} {l:List Int} {L:List SlI} (h:IntSl w a l) (t:∀ x∈L,IntSl w x.a x.l):∀ x∈(⟨a,c,l⟩ :: L:List SlI),IntSl w x.a x.l:=fun x hx=>by
 rcases List.mem_cons.1 hx with e | h2
 ·rw [e];exact h
 ·exact t x h2
theorem litL {w:World} {b:Nat} {cs:Array Value} {L:List SlI} (h:Blk w b (.cells cs 22 (0,0))) (hr:(L.map encSl).flatten=cs.toList) (he:∀ x∈L,IntSl w x.a x.l) (hm:L.length≤maxLen:=by exact Nat.le_of_ble_eq_true rfl):LL w (some ⟨b,0,none⟩) L :=
 ⟨OwnT.sl (B:=0) (OwnT.of_blk (l:=L) h (Nat.zero_le _) hr (fun r hr=>by obtain ⟨x,_,rfl⟩:=List.mem_map.1 hr;rfl) hm),he⟩
end Go.Proofs.YtjocoefpnboccaaGreatDoor
