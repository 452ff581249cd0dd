/- Hyper: the reference: the components. -/
import Derived.Test.YtdbcfpcicjgghaaGreatDoorXQ1
import Derived.Test.YtdbcfpcicjgghaaGreatDoorXVcApp2
namespace Go.Proofs.YtdbcfpcicjgghaaGreatDoor
set_option maxHeartbeats 16000000
open Go.Vc
set_option maxRecDepth 100000
set_option maxHeartbeats 16000000
def sumN (d:List Int):Nat:=(d.map Int.toNat).sum
theorem sumN_set:∀ (d:List Int) {i:Nat} (v:Int),i<d.length→sumN (d.set i v)+(d.getD i default).toNat=sumN d+v.toNat
 | [],_,_,h=>absurd h (Nat.not_lt_zero _)
 | a :: d,0,v,_=>by unfold sumN;simp [List.getD];omega
 | a :: d,i+1,v,h=>by
  have ih:=sumN_set d (i:=i) v (by simpa using h)
  have e:(a :: d).getD (i+1) default=d.getD i default:=by simp [List.getD]
  rw [e,List.set_cons_succ]
  unfold sumN at ih ⊢
  rw [List.map_cons,List.sum_cons,List.map_cons,List.sum_cons]
  omega
structure ClsR (r:Nat→Nat) (N:Nat) (d:List Int):Prop where
 len:d.length=N
 ok:∀ j:Nat,j<N→0≤d.getD j default∧d.getD j default≤(j:Int)∧r (d.getD j default).toNat=r j
theorem ClsR.final {r:Nat→Nat} {N:Nat} {d:List Int} {E:List (List Int)} (h:ClsR r N d) (hI:IsComp N (prsE E) r) (hE:∀ e∈E,∃ L,∀ v∈e,d.getD v.toNat default=L):∀ j:Nat,j<N→d.getD j default=(r j:Int):=fun j hj=>by
 have hk:=hI.keep (fun i=>(d.getD i default).toNat) (fun p hp=>by
  obtain ⟨e,he,v,hv,rfl⟩:=prsE_mem.1 hp
  obtain ⟨L,hL⟩:=hE e he
  dsimp only
  rw [hL _ (first_mem hv),hL v hv]) j hj
 have h1:=h.ok j hj
 have h2:=hI.le j hj
 have h3:=h.ok (r j) (by omega)
 have h4:=hI.le (d.getD j default).toNat (by omega)
 rw [h1.2.2] at h4
 omega
theorem rcomps_spec (g:GrW) (w:World) (hG:GOk w g) (hl:GLen g) :
  RetsX Tryz.prog 47 #[.agg (encGr g).toArray] w (fun z:List SlI×Option Addr×Nat=>.slice z.2.1 z.1.length z.2.2) (fun z w'=>vals z.1=compsG (grV g)∧LL w' z.2.1 z.1):=by
 refine enter (args:=[_]) Tryz.func47 rfl Tryz.ntmps47 (by kernel_rfl) rfl ?_
 refine V.seq (V.region (VL.box (v:=.agg _) rfl fun b0_0 w0_0 hb0_0 e0_0 hB0_0=>VL.op (R.asS rfl) (VL.nil (V.seq (V.seq (V.region (VL.op (R.ldA Tryz.isAgg25 Tryz.sizeOf25 rfl rfl ((show RowAt _ _ _ (encGr g) from (hB0_0.rowAt 0 3))) rfl) (VL.callP Tryz.call65 rfl (rvalid_spec g _ (hG.ext e0_0) hl) fun w1_1 e1_1=>VL.op (R.not rfl) (VL.nil (V.cond rfl (fun c15=>V.seq (V.region (VL.op (R.asS rfl) (VL.nil (V.ret (fret1 (v:=.slice _ _ _) rfl rfl rfl (?_))))))) (fun c15=>V.skip (V.seq (?_)))))))))))))
 ·have hc:compsG (grV g)=[]:=by unfold compsG;rw [if_neg];intro h;rw [h] at c15;cases c15
  exact ⟨([],none,0),rfl,⟨hc.symm,⟨TSl.nil _ _ _ _,fun x hx=>nomatch hx⟩⟩,e0_0.trans e1_1⟩
 ·have hv:validG (grV g)=true:=by simpa using c15
  have hn:=costB_iff.1 (validG_iff.1 hv).1
  obtain ⟨N,hN⟩:∃ N:Nat,g.n=(N:Int):=⟨g.n.toNat,by have h0:0≤g.n:=hn.1;omega⟩
  have hN4:N≤4000:=by have h0:g.n≤4000:=hn.2.1;omega
  have hE20:g.edges.length≤20000:=by have:=(validG_iff.1 hv).2.1;simpa [grV,vals] using this
  have hB1:=hB0_0.ext e1_1
  have hw1:=e0_0.trans e1_1
  have hGb:=hG.ext hw1
  obtain ⟨Cm,hCm⟩:∃ Cm,Cm=compE (vals g.edges):=⟨_,rfl⟩
  have hIC:IsComp N (prsE (vals g.edges)) Cm:=by have:=validG_comp hv;rw [hCm];rw [show (grV g).n=g.n from rfl,hN] at this;exact this
  have hcG:compsG (grV g)=grpsK Cm N:=by unfold compsG;rw [if_pos hv,hCm,show (grV g).n=g.n from rfl,hN];rfl
  have hed:∀ i,i<g.edges.length→(g.edges.getD i default).l≠[]∧∀ y∈(g.edges.getD i default).l,0≤y∧y<(N:Int):=fun i hi=>by
   have:=(validG_iff.1 hv).2.2.1 _ (List.mem_map_of_mem (gmem hi))
   refine ⟨this.1,fun y hy=>?_⟩
   have:=this.2.2 y hy
   rw [show (grV g).n=g.n from rfl,hN] at this;exact this
  have hsame:∀ i,i<g.edges.length→∀ a∈(g.edges.getD i default).l,∀ b∈(g.edges.getD i default).l,Cm a.toNat=Cm b.toNat:=fun i hi a ha b hb=>prsE_same.1 hIC.join _ (List.mem_map_of_mem (gmem hi)) a ha b hb
  refine V.region (VL.op (R.asS rfl) (VL.nil (V.cut [1,3] (fun x:(Option Addr×Nat)×List Int=>[.pointer (some ⟨b0_0,0,none⟩),.slice x.1.1 x.2.length x.1.2]) (fun x w'=>OwnT Vc.encI 1 3 w1_1.heap.size w' x.1.1 x.1.2 x.2∧ClsR Cm N x.2∧Ext w1_1 w') (V.seq (V.region (VL.op (R.asI rfl) (VL.nil (V.block (?_)))))) (fun rgB0 xB0 wBB0 hBB0=>V.cut [1,3] (fun dd:List Int=>[.pointer (some ⟨b0_0,0,none⟩),.slice xB0.1.1 N xB0.1.2]) (fun dd w'=>OwnT Vc.encI 1 3 w1_1.heap.size w' xB0.1.1 xB0.1.2 dd∧dd.length=N∧(∀ j:Nat,j<N→dd.getD j default=(Cm j:Int))∧Ext w1_1 w') (V.seq (V.region (VL.op (R.asB rfl) (VL.nil (V.block (?_)))))) (fun rgB2 xB2 wBB2 hBB2=>V.seq (?_))))))
  ·refine V.loop [1,3,4] (fun x:Nat×(Option Addr×Nat)×List Int=>[.pointer (some ⟨b0_0,0,none⟩),.slice x.2.1.1 x.2.2.length x.2.1.2,.int .i64 (x.1:Nat)]) (fun x w'=>x.1≤N∧OwnT Vc.encI 1 3 w1_1.heap.size w' x.2.1.1 x.2.1.2 x.2.2∧x.2.2.length=x.1∧(∀ j:Nat,j<x.1→x.2.2.getD j default=(j:Int))∧Ext w1_1 w') (fun x=>N-x.1) (0,(none,0),[]) rfl ⟨Nat.zero_le _,OwnT.nil _ _ _ _ _,rfl,fun j h=>absurd h (Nat.not_lt_zero j),Vc.Mod.refl _ _⟩ ?_
   rintro ρ ⟨k,⟨a3,c3⟩,dd⟩ w5 ⟨hk,ho,hlen,hval,e5⟩
   dsimp only at hk ho hlen hval e5 ⊢
   refine V.seq (V.seq (V.region (VL.op (R.mvI rfl) (VL.op (R.fld' (o:=0) Tryz.runUnderlying25 rfl rfl Tryz.sizeOf3 rfl rfl) (VL.op (R.ld1 Tryz.isAgg3 rfl ((show w5.cell? ⟨b0_0,0,none⟩=some (Value.int .i64 ((N:Nat):Int)) from by rw [←hN];exact (hB1.ext e5).cell 0))) (VL.op (R.lss rfl rfl) (VL.nil (V.condP rfl (fun c19=>V.skip (V.seq (V.block (V.region (VL.op (R.mvS rfl) (VL.op (R.mvI rfl) (VL.append1 el22 Tryz.runUnderlying22 Tryz.sizeOf3 Tryz.zeroValue3 rfl (((k:Nat):Int)) rfl rfl rfl ho rfl rfl rfl (by omega) (by unfold maxLen;omega) e5.size fun a7 c7 w7 vt7 ho7 m7 hf7=>VL.op (R.asS rfl) (VL.nil (V.region (VL.op (R.mvI rfl) (VL.op (R.add rfl rfl (by omega) (by omega)) (VL.op (R.asI rfl) (VL.nil (?_)))))))))))))) (fun c19=>V.exit (?_))))))))))
   ·refine ⟨(k+1,(a7,c7),dd++[((k:Nat):Int)]),by dsimp only;rw [List.length_append];rfl,⟨by dsimp only;omega,ho7,by dsimp only;rw [List.length_append,hlen];rfl,fun j hj=>?_,e5.ownA m7 fun q hq=>ho.ge q hq⟩,by dsimp only;omega⟩
    dsimp only at hj ⊢
    by_cases e:j=k
    ·rw [e];simp [List.getD,←hlen]
    ·rw [←hval j (by omega)];simp [List.getD,List.getElem?_append_left (show j<dd.length by omega)]
   ·have hkN:k=N:=by omega
    subst hkN
    exact ⟨((a3,c3),dd),rfl,ho,⟨hlen,fun j hj=>by rw [hval j hj];exact ⟨by omega,by omega,by rw [Int.toNat_natCast]⟩⟩,e5⟩
  ·obtain ⟨ho0,hC0,e0⟩:=hBB0
   have hl0:=hC0.len
   refine V.loop [1,3,5] (fun x:List Int×Bool=>[.pointer (some ⟨b0_0,0,none⟩),.slice xB0.1.1 N xB0.1.2,.bool x.2]) (fun x w'=>OwnT Vc.encI 1 3 w1_1.heap.size w' xB0.1.1 xB0.1.2 x.1∧ClsR Cm N x.1∧(x.2=false→∀ i,i<g.edges.length→∃ L,∀ v∈(g.edges.getD i default).l,x.1.getD v.toNat default=L)∧Ext w1_1 w') (fun x=>2*sumN x.1+if x.2=true then 1 else 0) (xB0.2,true) (by rw [hl0];rfl) ⟨ho0,hC0,(fun h=>by cases h),e0⟩ ?_
   rintro ρ ⟨d0,mo⟩ w5 ⟨ho,hC,hF,e5⟩
   dsimp only at ho hC hF e5 ⊢
   refine V.seq (V.seq (V.region (VL.op (R.mvB rfl) (VL.nil (V.cond rfl (fun c26=>V.skip (V.block (V.seq (?_)))) (fun c26=>V.exit (?_)))))))
   ·refine V.region (VL.op (R.asB rfl) (VL.nil (V.seq (V.region (VL.op (R.asI rfl) (VL.nil (V.block (?_))))))))
    refine V.loop [1,3,5,6] (fun x:Nat×List Int×Bool=>[.pointer (some ⟨b0_0,0,none⟩),.slice xB0.1.1 N xB0.1.2,.bool x.2.2,.int .i64 (x.1:Nat)]) (fun x w'=>x.1≤g.edges.length∧OwnT Vc.encI 1 3 w1_1.heap.size w' xB0.1.1 xB0.1.2 x.2.1∧ClsR Cm N x.2.1∧sumN x.2.1≤sumN d0∧(x.2.2=true→sumN x.2.1<sumN d0)∧(x.2.2=false→x.2.1=d0∧∀ j,j<x.1→∃ L,∀ v∈(g.edges.getD j default).l,d0.getD v.toNat default=L)∧Ext w1_1 w') (fun x=>g.edges.length-x.1) (0,d0,false) rfl ⟨Nat.zero_le _,ho,hC,Nat.le_refl _,(fun h=>by cases h),fun _=>⟨rfl,fun j h=>absurd h (Nat.not_lt_zero j)⟩,e5⟩ ?_
    rintro ρ ⟨i,d1,m1⟩ w6 ⟨hi,ho1,hC1,hs1,ht1,hf1,e6⟩
    dsimp only at hi ho1 hC1 hs1 ht1 hf1 e6 ⊢
    have hb6:=hB1.ext e6
    have hE6:=(hGb.ext e6).e
    refine V.seq (V.seq (V.region (VL.op (R.mvI rfl) (VL.op (R.fld' (o:=2) Tryz.runUnderlying25 rfl rfl Tryz.sizeOf23 rfl rfl) (VL.op (R.ld1 Tryz.isAgg23 rfl ((show w6.cell? ⟨b0_0,2,none⟩=some (Value.slice g.ea g.edges.length g.ec) from (hb6).cell 2))) (VL.op (R.lenS Tryz.runUnderlying23 rfl) (VL.op (R.lss rfl rfl) (VL.nil (V.condP rfl (fun c31=>V.skip (V.seq (V.block (V.seq (?_))))) (fun c31=>V.exit (?_)))))))))))
    ·have hil:i<g.edges.length:=by omega
     have hxs:=hed i hil
     have hxl:=(hl.each _ (gmem hil)).1
     have hxp:0<(g.edges.getD i default).l.length:=List.length_pos_iff.2 hxs.1
     have hl1:=hC1.len
     have hd1:∀ k,k<(g.edges.getD i default).l.length→0≤((g.edges.getD i default).l.getD k default)∧((g.edges.getD i default).l.getD k default)<(N:Int)∧0≤d1.getD ((g.edges.getD i default).l.getD k default).toNat default∧d1.getD ((g.edges.getD i default).l.getD k default).toNat default≤((g.edges.getD i default).l.getD k default)∧Cm (d1.getD ((g.edges.getD i default).l.getD k default).toNat default).toNat=Cm ((g.edges.getD i default).l.getD k default).toNat:=fun k hk=>by
      have h1:=hxs.2 _ (gmem hk)
      have h2:=hC1.ok ((g.edges.getD i default).l.getD k default).toNat (by omega)
      exact ⟨h1.1,h1.2,h2.1,by omega,h2.2.2⟩
     refine V.region (VL.op (R.fld' (o:=0) Tryz.runUnderlying25 rfl rfl Tryz.sizeOf3 rfl rfl) (VL.op (R.ld1 Tryz.isAgg3 rfl ((show w6.cell? ⟨b0_0,0,none⟩=some (Value.int .i64 ((N:Nat):Int)) from by rw [←hN];exact (hb6).cell 0))) (VL.op (R.asI rfl) (VL.nil (V.cut [1,3,5,6,7] (fun L:Int=>[.pointer (some ⟨b0_0,0,none⟩),.slice xB0.1.1 N xB0.1.2,.bool m1,.int .i64 (i:Nat),.int .i64 L]) (fun L w'=>(∀ m,m<(g.edges.getD i default).l.length→L≤d1.getD ((g.edges.getD i default).l.getD m default).toNat default)∧(∃ m,m<(g.edges.getD i default).l.length∧L=d1.getD ((g.edges.getD i default).l.getD m default).toNat default)∧Ext w6 w') (V.seq (V.region (VL.op (R.asI rfl) (VL.nil (V.block (?_)))))) (fun rgB6 xB6 wBB6 hBB6=>V.seq (?_)))))))
     ·refine V.loop [1,3,5,6,7,8] (fun x:Nat×Int=>[.pointer (some ⟨b0_0,0,none⟩),.slice xB0.1.1 N xB0.1.2,.bool m1,.int .i64 (i:Nat),.int .i64 x.2,.int .i64 (x.1:Nat)]) (fun x w'=>x.1≤(g.edges.getD i default).l.length∧(∀ m,m<x.1→x.2≤d1.getD ((g.edges.getD i default).l.getD m default).toNat default)∧(x.1=0→x.2=(N:Int))∧(0<x.1→∃ m,m<x.1∧x.2=d1.getD ((g.edges.getD i default).l.getD m default).toNat default)∧Ext w6 w') (fun x=>(g.edges.getD i default).l.length-x.1) (0,(N:Int)) rfl ⟨Nat.zero_le _,fun m h=>absurd h (Nat.not_lt_zero m),fun _=>rfl,fun h=>absurd h (Nat.lt_irrefl 0),Vc.Mod.refl _ _⟩ ?_
      rintro ρ ⟨k,L⟩ w7 ⟨hk,hLl,hL0,hLe,e7⟩
      dsimp only at hk hLl hL0 hLe e7 ⊢
      have hb7:=hb6.ext e7
      have hE7:=hE6.ext e7
      have ho7:=ho1.ext e7
      refine V.seq (V.seq (V.region (VL.op (R.mvI rfl) (VL.op (R.fld' (o:=2) Tryz.runUnderlying25 rfl rfl Tryz.sizeOf23 rfl rfl) (VL.op (R.ld1 Tryz.isAgg23 rfl ((show w7.cell? ⟨b0_0,2,none⟩=some (Value.slice g.ea g.edges.length g.ec) from (hb7).cell 2))) (VL.op (R.mvI rfl) (VL.op (R.ixS Tryz.runUnderlying23 Tryz.sizeOf22 rfl rfl (by omega) (by omega) ((hE7.sl).some (i:=i) (by omega))) (VL.op (R.ld1 Tryz.isAgg22 rfl (((((hE7.sl).ext (Mod.refl _ _)).row (i:=i) (by omega)).cell (i:=0) rfl))) (VL.op (R.lenS Tryz.runUnderlying22 rfl) (VL.op (R.lss rfl rfl) (VL.nil (V.condP rfl (fun c43=>V.skip (V.seq (V.block (?_)))) (fun c43=>V.exit (?_))))))))))))))
      ·have hkl:k<(g.edges.getD i default).l.length:=by omega
       obtain ⟨v0,v1,v2,v3,_⟩:=hd1 k hkl
       refine V.region (VL.op (R.mvI rfl) (VL.op (R.mvS rfl) (VL.op (R.fld' (o:=2) Tryz.runUnderlying25 rfl rfl Tryz.sizeOf23 rfl rfl) (VL.op (R.ld1 Tryz.isAgg23 rfl ((show w7.cell? ⟨b0_0,2,none⟩=some (Value.slice g.ea g.edges.length g.ec) from (hb7).cell 2))) (VL.op (R.mvI rfl) (VL.op (R.ixS Tryz.runUnderlying23 Tryz.sizeOf22 rfl rfl (by omega) (by omega) ((hE7.sl).some (i:=i) (by omega))) (VL.op (R.ld1 Tryz.isAgg22 rfl (((((hE7.sl).ext (Mod.refl _ _)).row (i:=i) (by omega)).cell (i:=0) rfl))) (VL.op (R.mvI rfl) (VL.op (R.ixS Tryz.runUnderlying22 Tryz.sizeOf3 rfl rfl (by omega) (by omega) ((hE7.at hil).some (i:=k) (by omega))) (VL.op (R.ld1 Tryz.isAgg3 rfl (((((hE7.at hil).ext (Mod.refl _ _)).row (i:=k) (by omega)).cell (i:=0) rfl))) (VL.op (R.ixS Tryz.runUnderlying22 Tryz.sizeOf3 rfl rfl (by omega) (by omega) ((ho7.sl).some (i:=((g.edges.getD i default).l.getD k default).toNat) (by omega))) (VL.op (R.ld1 Tryz.isAgg3 rfl (((((ho7.sl).ext (Mod.refl _ _)).row (i:=((g.edges.getD i default).l.getD k default).toNat) (by omega)).cell (i:=0) rfl))) (VL.op (R.min rfl rfl) (VL.op (R.asI rfl) (VL.nil (V.region (VL.op (R.mvI rfl) (VL.op (R.add rfl rfl (by omega) (by omega)) (VL.op (R.asI rfl) (VL.nil (?_)))))))))))))))))))))
       refine ⟨(k+1,min L (d1.getD ((g.edges.getD i default).l.getD k default).toNat default)),rfl,⟨by dsimp only;omega,fun m hm=>?_,(fun h=>by cases h),fun _=>?_,e7⟩,by dsimp only;omega⟩
       ·dsimp only at hm ⊢
        by_cases e:m=k
        ·rw [e];omega
        ·have:=hLl m (by omega);omega
       ·dsimp only
        by_cases hlt:L≤d1.getD ((g.edges.getD i default).l.getD k default).toNat default
        ·by_cases hk0:k=0
         ·have:=hL0 hk0
          omega
         ·obtain ⟨m,hm,he⟩:=hLe (by omega)
          exact ⟨m,by omega,by rw [←he];omega⟩
        ·exact ⟨k,by omega,by omega⟩
      ·have hke:k=(g.edges.getD i default).l.length:=by omega
       subst hke
       exact ⟨L,rfl,hLl,hLe hxp,e7⟩
     ·obtain ⟨hLl,⟨mm,hmm,hLm⟩,e7⟩:=hBB6
      obtain ⟨q0,q1,q2,q3,q4⟩:=hd1 mm hmm
      refine V.region (VL.op (R.asI rfl) (VL.nil (V.block (?_))))
      refine V.loop [1,3,5,6,7,9] (fun x:Nat×List Int×Bool=>[.pointer (some ⟨b0_0,0,none⟩),.slice xB0.1.1 N xB0.1.2,.bool x.2.2,.int .i64 (i:Nat),.int .i64 xB6,.int .i64 (x.1:Nat)]) (fun x w'=>x.1≤(g.edges.getD i default).l.length∧OwnT Vc.encI 1 3 w1_1.heap.size w' xB0.1.1 xB0.1.2 x.2.1∧ClsR Cm N x.2.1∧(∀ v:Nat,v<N→x.2.1.getD v default=xB6∨x.2.1.getD v default=d1.getD v default)∧sumN x.2.1≤sumN d0∧(x.2.2=true→sumN x.2.1<sumN d0)∧(x.2.2=false→x.2.1=d0∧(∀ j,j<i→∃ L,∀ v∈(g.edges.getD j default).l,d0.getD v.toNat default=L)∧∀ m,m<x.1→d0.getD ((g.edges.getD i default).l.getD m default).toNat default=xB6)∧Ext w1_1 w') (fun x=>(g.edges.getD i default).l.length-x.1) (0,d1,m1) rfl ⟨Nat.zero_le _,ho1.ext e7,hC1,fun v _=>.inr rfl,hs1,ht1,fun h=>⟨(hf1 h).1,(hf1 h).2,fun m h=>absurd h (Nat.not_lt_zero m)⟩,e6.trans e7⟩ ?_
      rintro ρ ⟨k,d2,m2⟩ w8 ⟨hk,ho2,hC2,hv2,hs2,ht2,hf2,e8⟩
      dsimp only at hk ho2 hC2 hv2 hs2 ht2 hf2 e8 ⊢
      have hb8:=hB1.ext e8
      have hE8:=(hGb.ext e8).e
      have hl2:=hC2.len
      refine V.seq (V.seq (V.region (VL.op (R.mvI rfl) (VL.op (R.fld' (o:=2) Tryz.runUnderlying25 rfl rfl Tryz.sizeOf23 rfl rfl) (VL.op (R.ld1 Tryz.isAgg23 rfl ((show w8.cell? ⟨b0_0,2,none⟩=some (Value.slice g.ea g.edges.length g.ec) from (hb8).cell 2))) (VL.op (R.mvI rfl) (VL.op (R.ixS Tryz.runUnderlying23 Tryz.sizeOf22 rfl rfl (by omega) (by omega) ((hE8.sl).some (i:=i) (by omega))) (VL.op (R.ld1 Tryz.isAgg22 rfl (((((hE8.sl).ext (Mod.refl _ _)).row (i:=i) (by omega)).cell (i:=0) rfl))) (VL.op (R.lenS Tryz.runUnderlying22 rfl) (VL.op (R.lss rfl rfl) (VL.nil (V.condP rfl (fun c66=>V.skip (V.seq (V.block (V.seq (?_))))) (fun c66=>V.exit (V.region (VL.op (R.mvI rfl) (VL.op (R.add rfl rfl (by omega) (by omega)) (VL.op (R.asI rfl) (VL.nil (?_)))))))))))))))))))
      ·have hkl:k<(g.edges.getD i default).l.length:=by omega
       obtain ⟨v0,v1,v2,v3,v4⟩:=hd1 k hkl
       have hLk:=hLl k hkl
       have hge:xB6≤d2.getD ((g.edges.getD i default).l.getD k default).toNat default:=by
        rcases hv2 ((g.edges.getD i default).l.getD k default).toNat (by omega) with h | h
        ·omega
        ·rw [h];exact hLk
       have hset:=sumN_set d2 xB6 (show ((g.edges.getD i default).l.getD k default).toNat<d2.length by omega)
       have hcr:Cm xB6.toNat=Cm ((g.edges.getD i default).l.getD k default).toNat:=by rw [hLm,q4];exact hsame i hil _ (gmem hmm) _ (gmem hkl)
       have hC3:ClsR Cm N (d2.set ((g.edges.getD i default).l.getD k default).toNat xB6):=⟨by simp [hl2],fun j hj=>by
        by_cases e:j=((g.edges.getD i default).l.getD k default).toNat
        ·rw [e,setD_eq _ (by omega)];exact ⟨by omega,by omega,by rw [hcr]⟩
        ·rw [setD_ne _ e];exact hC2.ok j hj⟩
       have hv3:∀ u:Nat,u<N→(d2.set ((g.edges.getD i default).l.getD k default).toNat xB6).getD u default=xB6∨(d2.set ((g.edges.getD i default).l.getD k default).toNat xB6).getD u default=d1.getD u default:=fun u hu=>by
        by_cases e:u=((g.edges.getD i default).l.getD k default).toNat
        ·rw [e,setD_eq _ (by omega)];exact .inl rfl
        ·rw [setD_ne _ e];exact hv2 u hu
       cases m2 with
       | true =>
        have:=ht2 rfl
        refine V.region (VL.op (R.mvB rfl) (VL.op (R.mvB rfl) (VL.gF rfl rfl (VL.gF rfl rfl (VL.gF rfl rfl (VL.gF rfl rfl (VL.gF rfl rfl (VL.gF rfl rfl (VL.gF rfl rfl (VL.gF rfl rfl (VL.gF rfl rfl (VL.gF rfl rfl (VL.gF rfl rfl (VL.gF rfl rfl (VL.gF rfl rfl (VL.op (R.pickTB rfl rfl) (VL.op (R.asB rfl) (VL.nil (V.region (VL.op (R.mvS rfl) (VL.op (R.fld' (o:=2) Tryz.runUnderlying25 rfl rfl Tryz.sizeOf23 rfl rfl) (VL.op (R.ld1 Tryz.isAgg23 rfl ((show w8.cell? ⟨b0_0,2,none⟩=some (Value.slice g.ea g.edges.length g.ec) from (hb8).cell 2))) (VL.op (R.mvI rfl) (VL.op (R.ixS Tryz.runUnderlying23 Tryz.sizeOf22 rfl rfl (by omega) (by omega) ((hE8.sl).some (i:=i) (by omega))) (VL.op (R.ld1 Tryz.isAgg22 rfl (((((hE8.sl).ext (Mod.refl _ _)).row (i:=i) (by omega)).cell (i:=0) rfl))) (VL.op (R.mvI rfl) (VL.op (R.ixS Tryz.runUnderlying22 Tryz.sizeOf3 rfl rfl (by omega) (by omega) ((hE8.at hil).some (i:=k) (by omega))) (VL.op (R.ld1 Tryz.isAgg3 rfl (((((hE8.at hil).ext (Mod.refl _ _)).row (i:=k) (by omega)).cell (i:=0) rfl))) (VL.op (R.mvI rfl) (VL.op (R.ixS Tryz.runUnderlying22 Tryz.sizeOf3 rfl rfl (by omega) (by omega) ((ho2.sl).some (i:=((g.edges.getD i default).l.getD k default).toNat) (by omega))) (VL.ownSt eltI (v:=.int _ _) Tryz.sizeOf3 (ho2) ((g.edges.getD i default).l.getD k default).toNat 0 xB6 rfl rfl (by omega) rfl rfl rfl rfl rfl fun w23 ho23 m23 hs23=>VL.nil (V.region (VL.op (R.mvI rfl) (VL.op (R.add rfl rfl (by omega) (by omega)) (VL.op (R.asI rfl) (VL.nil (?_)))))))))))))))))))))))))))))))))))))
        exact ⟨(k+1,d2.set ((g.edges.getD i default).l.getD k default).toNat xB6,true),rfl,⟨by dsimp only;omega,ho23,hC3,hv3,by dsimp only;omega,fun _=>by dsimp only;omega,(fun h=>by cases h),e8.ownA m23 fun q hq=>ho2.ge q hq⟩,by dsimp only;omega⟩
       | false =>
        obtain ⟨f1,f2,f3⟩:=hf2 rfl
        refine V.region (VL.op (R.mvB rfl) (VL.op (R.mvB rfl) (VL.gT rfl rfl (VL.op (R.mvS rfl) (VL.gT rfl rfl (VL.op (R.fld' (o:=2) Tryz.runUnderlying25 rfl rfl Tryz.sizeOf23 rfl rfl) (VL.gT rfl rfl (VL.op (R.ld1 Tryz.isAgg23 rfl ((show w8.cell? ⟨b0_0,2,none⟩=some (Value.slice g.ea g.edges.length g.ec) from (hb8).cell 2))) (VL.gT rfl rfl (VL.op (R.mvI rfl) (VL.gT rfl rfl (VL.op (R.ixS Tryz.runUnderlying23 Tryz.sizeOf22 rfl rfl (by omega) (by omega) ((hE8.sl).some (i:=i) (by omega))) (VL.gT rfl rfl (VL.op (R.ld1 Tryz.isAgg22 rfl (((((hE8.sl).ext (Mod.refl _ _)).row (i:=i) (by omega)).cell (i:=0) rfl))) (VL.gT rfl rfl (VL.op (R.mvI rfl) (VL.gT rfl rfl (VL.op (R.ixS Tryz.runUnderlying22 Tryz.sizeOf3 rfl rfl (by omega) (by omega) ((hE8.at hil).some (i:=k) (by omega))) (VL.gT rfl rfl (VL.op (R.ld1 Tryz.isAgg3 rfl (((((hE8.at hil).ext (Mod.refl _ _)).row (i:=k) (by omega)).cell (i:=0) rfl))) (VL.gT rfl rfl (VL.op (R.ixS Tryz.runUnderlying22 Tryz.sizeOf3 rfl rfl (by omega) (by omega) ((ho2.sl).some (i:=((g.edges.getD i default).l.getD k default).toNat) (by omega))) (VL.gT rfl rfl (VL.op (R.ld1 Tryz.isAgg3 rfl (((((ho2.sl).ext (Mod.refl _ _)).row (i:=((g.edges.getD i default).l.getD k default).toNat) (by omega)).cell (i:=0) rfl))) (VL.gT rfl rfl (VL.op (R.mvI rfl) (VL.gT rfl rfl (VL.op (R.neq rfl rfl) (VL.op (R.pickFB rfl rfl) (VL.op (R.asB rfl) (VL.nil (V.region (VL.op (R.mvS rfl) (VL.op (R.fld' (o:=2) Tryz.runUnderlying25 rfl rfl Tryz.sizeOf23 rfl rfl) (VL.op (R.ld1 Tryz.isAgg23 rfl ((show w8.cell? ⟨b0_0,2,none⟩=some (Value.slice g.ea g.edges.length g.ec) from (hb8).cell 2))) (VL.op (R.mvI rfl) (VL.op (R.ixS Tryz.runUnderlying23 Tryz.sizeOf22 rfl rfl (by omega) (by omega) ((hE8.sl).some (i:=i) (by omega))) (VL.op (R.ld1 Tryz.isAgg22 rfl (((((hE8.sl).ext (Mod.refl _ _)).row (i:=i) (by omega)).cell (i:=0) rfl))) (VL.op (R.mvI rfl) (VL.op (R.ixS Tryz.runUnderlying22 Tryz.sizeOf3 rfl rfl (by omega) (by omega) ((hE8.at hil).some (i:=k) (by omega))) (VL.op (R.ld1 Tryz.isAgg3 rfl (((((hE8.at hil).ext (Mod.refl _ _)).row (i:=k) (by omega)).cell (i:=0) rfl))) (VL.op (R.mvI rfl) (VL.op (R.ixS Tryz.runUnderlying22 Tryz.sizeOf3 rfl rfl (by omega) (by omega) ((ho2.sl).some (i:=((g.edges.getD i default).l.getD k default).toNat) (by omega))) (VL.ownSt eltI (v:=.int _ _) Tryz.sizeOf3 (ho2) ((g.edges.getD i default).l.getD k default).toNat 0 xB6 rfl rfl (by omega) rfl rfl rfl rfl rfl fun w23 ho23 m23 hs23=>VL.nil (V.region (VL.op (R.mvI rfl) (VL.op (R.add rfl rfl (by omega) (by omega)) (VL.op (R.asI rfl) (VL.nil (?_))))))))))))))))))))))))))))))))))))))))))))))))))
        refine ⟨(k+1,d2.set ((g.edges.getD i default).l.getD k default).toNat xB6,decide (d2.getD ((g.edges.getD i default).l.getD k default).toNat default≠xB6)),rfl,⟨by dsimp only;omega,ho23,hC3,hv3,by dsimp only;omega,fun h=>?_,fun h=>?_,e8.ownA m23 fun q hq=>ho2.ge q hq⟩,by dsimp only;omega⟩
        ·have:=of_decide_eq_true h
         dsimp only
         omega
        ·have hq:d2.getD ((g.edges.getD i default).l.getD k default).toNat default=xB6:=Classical.not_not.1 (of_decide_eq_false h)
         have hq2:d2.set ((g.edges.getD i default).l.getD k default).toNat xB6=d2:=by
          refine getD_ext' (by simp) fun u hu=>?_
          by_cases e:u=((g.edges.getD i default).l.getD k default).toNat
          ·rw [e,setD_eq _ (by omega),hq]
          ·rw [setD_ne _ e]
         refine ⟨by dsimp only;rw [hq2];exact f1,f2,fun m hm=>?_⟩
         by_cases e:m=k
         ·rw [e,←f1];exact hq
         ·exact f3 m (by dsimp only at hm;omega)
      ·have hke:k=(g.edges.getD i default).l.length:=by omega
       subst hke
       refine ⟨(i+1,d2,m2),rfl,⟨by dsimp only;omega,ho2,hC2,hs2,ht2,fun h=>⟨(hf2 h).1,fun j hj=>?_⟩,e8⟩,by dsimp only;omega⟩
       by_cases e:j=i
       ·rw [e]
        refine ⟨xB6,fun v hv=>?_⟩
        obtain ⟨m,hm,rfl⟩:=List.getElem_of_mem hv
        rw [←gget hm];exact (hf2 h).2.2 m hm
       ·exact (hf2 h).2.1 j (by dsimp only at hj;omega)
    ·have hie:i=g.edges.length:=by omega
     subst hie
     refine ⟨(d1,m1),rfl,⟨ho1,hC1,fun h j hj=>?_,e6⟩,?_⟩
     ·dsimp only
      rw [(hf1 h).1];exact (hf1 h).2 j hj
     ·dsimp only
      rw [c26]
      cases m1 with
      | true=>have:=ht1 rfl;simp;omega
      | false=>simp;omega
   ·refine ⟨d0,rfl,ho,hC.len,hC.final hIC fun e he=>?_,e5⟩
    obtain ⟨x,hx,rfl⟩:=List.mem_map.1 he
    obtain ⟨i,hil,rfl⟩:=List.getElem_of_mem hx
    have:=hF c26 i hil
    rwa [gget hil] at this
  ·obtain ⟨hod,hdl,hdv,e2⟩:=hBB2
   have hb2:=hB1.ext e2
   refine V.region (VL.op (R.asS rfl) (VL.nil (V.seq (V.region (VL.op (R.fld' (o:=0) Tryz.runUnderlying25 rfl rfl Tryz.sizeOf3 rfl rfl) (VL.op (R.ld1 Tryz.isAgg3 rfl ((show wBB2.cell? ⟨b0_0,0,none⟩=some (Value.int .i64 ((N:Nat):Int)) from by rw [←hN];exact (hb2).cell 0))) (VL.makeSl (enc:=Vc.encI ) el22 ( (0:Int)) rfl rfl rfl (by omega) (by unfold maxLen;omega) (Nat.le_refl _) fun b11 w11 hb11 e11 ho11=>VL.op (R.asS rfl) (VL.nil (V.seq (V.seq (V.region (VL.op (R.asI rfl) (VL.nil (V.block (?_)))))))))))))))
   have h11s:b11<w11.heap.size:=ho11.lt _ ⟨_,rfl,rfl⟩
   refine V.loop [1,3,10,11,12] (fun x:Nat×List Int×List SlI×Option Addr×Nat=>[.pointer (some ⟨b0_0,0,none⟩),.slice xB0.1.1 N xB0.1.2,.slice x.2.2.2.1 x.2.2.1.length x.2.2.2.2,.slice (some ⟨b11,0,none⟩) N N,.int .i64 (x.1:Nat)])
    (fun x w'=>x.1≤N∧OwnT Vc.encI 1 3 wBB2.heap.size w' (some ⟨b11,0,none⟩) N x.2.1∧x.2.1.length=N∧(∀ h,h∈hdsK Cm x.1→x.2.1.getD h default=((hdsK Cm x.1).idxOf h:Int))∧GLs w11.heap.size w' x.2.2.2.1 x.2.2.2.2 x.2.2.1∧vals x.2.2.1=grpsK Cm x.1∧Ext wBB2 w'∧w11.heap.size≤w'.heap.size) (fun x=>N-x.1) (0,List.replicate N 0,[],none,0) rfl ⟨Nat.zero_le _,ho11,by simp,fun h hh=>absurd hh (by simp [hdsK]),GLs.nil _ _,rfl,e11,Nat.le_refl _⟩ ?_
   rintro ρ ⟨i,W,z,a,c⟩ w5 ⟨hi,hW,hWl,hWv,hGL,hz,e5,hs5⟩
   dsimp only at hi hW hWl hWv hGL hz e5 hs5 ⊢
   have hb5:=hb2.ext e5
   have hod5:=hod.ext e5
   have hzl:z.length=(hdsK Cm i).length:=by rw [←grpsK_len,←hz,List.length_map]
   have hhl:=hdsK_len Cm i
   have h2s:=e2.size
   refine V.seq (V.seq (V.region (VL.op (R.mvI rfl) (VL.op (R.fld' (o:=0) Tryz.runUnderlying25 rfl rfl Tryz.sizeOf3 rfl rfl) (VL.op (R.ld1 Tryz.isAgg3 rfl ((show w5.cell? ⟨b0_0,0,none⟩=some (Value.int .i64 ((N:Nat):Int)) from by rw [←hN];exact (hb5).cell 0))) (VL.op (R.lss rfl rfl) (VL.nil (V.condP rfl (fun c102=>V.skip (V.seq (V.block (V.cut [1,3,10,11,12] (fun x:List Int×List SlI×Option Addr×Nat=>[.pointer (some ⟨b0_0,0,none⟩),.slice xB0.1.1 N xB0.1.2,.slice x.2.2.1 x.2.1.length x.2.2.2,.slice (some ⟨b11,0,none⟩) N N,.int .i64 (i:Nat)]) (fun x w'=>OwnT Vc.encI 1 3 wBB2.heap.size w' (some ⟨b11,0,none⟩) N x.1∧x.1.length=N∧(∀ h,h∈hdsK Cm (i+1)→x.1.getD h default=((hdsK Cm (i+1)).idxOf h:Int))∧GLs w11.heap.size w' x.2.2.1 x.2.2.2 x.2.1∧((hdsK Cm (i+1)).idxOf (Cm i)<x.2.1.length∧Cm i∈hdsK Cm (i+1)∧(x.2.1.getD ((hdsK Cm (i+1)).idxOf (Cm i)) default).l.length≤i∧(vals x.2.1).set ((hdsK Cm (i+1)).idxOf (Cm i)) ((x.2.1.getD ((hdsK Cm (i+1)).idxOf (Cm i)) default).l++[(i:Int)])=grpsK Cm (i+1)∧x.2.1.length≤i+1)∧Ext wBB2 w'∧w11.heap.size≤w'.heap.size) (V.seq (V.region (VL.op (R.mvS rfl) (VL.op (R.mvI rfl) (VL.op (R.ixS Tryz.runUnderlying22 Tryz.sizeOf3 rfl rfl (by omega) (by omega) ((hod5.sl).some (i:=i) (by omega))) (VL.op (R.ld1 Tryz.isAgg3 rfl (((((hod5.sl).ext (Mod.refl _ _)).row (i:=i) (by omega)).cell (i:=0) rfl))) (VL.op (R.mvI rfl) (VL.op (R.eql rfl rfl) (VL.nil (V.condP rfl (fun c110=>V.seq (V.region (VL.op (R.mvS rfl) (VL.op (R.mvI rfl) (VL.op (R.mvS rfl) (VL.op (R.lenS Tryz.runUnderlying23 rfl) (VL.op (R.ixS Tryz.runUnderlying22 Tryz.sizeOf3 rfl rfl (by omega) (by omega) ((hW.sl).some (i:=i) (by omega))) (VL.ownSt eltI (v:=.int _ _) Tryz.sizeOf3 (hW) i 0 ((z.length:Nat):Int) rfl rfl (by omega) rfl rfl rfl rfl rfl fun w30 ho30 m30 hs30=>VL.nil (V.region (VL.op (R.mvS rfl) (VL.append1 el23 Tryz.runUnderlying23 Tryz.sizeOf22 Tryz.zeroValue22 rfl ((default:SlI)) rfl rfl rfl (hGL.own.mod m30 fun q h1 h2=>by have:=hGL.own.ge q h1;have:=aBlk_some h2;omega) rfl rfl rfl (by omega) (by unfold maxLen;omega) (by omega) fun a31 c31 w31 vt31 ho31 m31 hf31=>VL.op (R.asS rfl) (VL.nil (?_))))))))))))) (fun c110=>V.skip (?_)))))))))))) (fun rgC110 xC110 wBC110 hBC110=>?_))))) (fun c102=>V.exit (V.seq (V.region (VL.op (R.mvS rfl) (VL.op (R.asS rfl) (VL.nil (V.ret (fret1 (v:=.slice _ _ _) rfl rfl rfl (?_)))))))))))))))))
   ·have hiN:i<N:=by omega
    have hv0:=hdv i hiN
    have hk2:Cm i=i:=by omega
    obtain ⟨hd1,hd2,hg1⟩:=grpsK_new hk2 fun j hj=>hIC.le j (by omega)
    have hidx:(hdsK Cm (i+1)).idxOf (Cm i)=z.length:=by
     rw [hk2,hd1,List.idxOf_append,if_neg hd2,hzl];simp
    have hG30:=hGL.mod m30 fun q hq=>by have:=aBlk_some hq;omega
    refine ⟨(W.set i ((z.length:Nat):Int),z++[default],a31,c31),?_,ho30.mod m31 fun q h1 h2=>?_,by simp [hWl],fun h hh=>?_,hG30.add ho31 m31 hf31,⟨?_,?_,?_,?_,?_⟩,?_,?_⟩
    ·dsimp only;rw [List.length_append];rfl
    ·have:=aBlk_some h1;have:=hG30.own.ge q h2;omega
    ·dsimp only
     by_cases e:h=i
     ·rw [e,setD_eq _ (by omega),←hidx,hk2]
     ·have hin:h∈hdsK Cm i:=by
       rw [hd1] at hh
       rcases List.mem_append.1 hh with h1 | h1
       ·exact h1
       ·exact absurd (List.mem_singleton.1 h1) e
      rw [setD_ne _ e,hWv h hin,hd1,List.idxOf_append,if_pos hin]
    ·dsimp only;rw [hidx,List.length_append,List.length_singleton];omega
    ·rw [hk2,hd1];simp
    ·dsimp only;rw [hidx,getD_snoc];simp [List.getD];exact Nat.zero_le _
    ·dsimp only
     rw [hidx,hg1,←hz,←hzl,getD_snoc]
     simp [List.getD,vals]
     rfl
    ·dsimp only;rw [List.length_append,List.length_singleton];omega
    ·exact (e5.ownA m30 fun q hq=>hW.ge q hq).ownA m31 fun q hq=>by have:=hG30.own.ge q hq;have:=e11.size;omega
    ·have:=m30.size;have:=m31.size;omega
   ·have hiN:i<N:=by omega
    have hv0:=hdv i hiN
    have hle:=hIC.le i hiN
    have hne:Cm i≠i:=fun e=>c110 (by rw [hv0,e])
    have hold:Cm i∈hdsK Cm i:=hdsK_mem.2 ⟨by omega,hIC.idem i hiN⟩
    obtain ⟨hd1,hg1⟩:=grpsK_old hold
    have hil:(hdsK Cm i).idxOf (Cm i)<z.length:=by rw [hzl];exact List.idxOf_lt_length_iff.2 hold
    have hzg:(z.getD ((hdsK Cm i).idxOf (Cm i)) default).l=memsK Cm i (Cm i):=by rw [←grpsK_at hold,←hz,gmap _ _ _ hil]
    refine ⟨(W,z,a,c),rfl,hW,hWl,by rw [hd1];exact hWv,hGL,⟨by rw [hd1];exact hil,by rw [hd1];exact hold,?_,?_,by dsimp only;omega⟩,e5,hs5⟩
    ·rw [hd1];dsimp only;rw [hzg];exact memsK_len _ _ _
    ·rw [hd1];dsimp only;rw [hzg,hg1,hz]
   ·have hiN:i<N:=by omega
    obtain ⟨hW7,hWl7,hWv7,hGL7,⟨hp1,hpm,hp2,hp3,hp4⟩,e7,hs7⟩:=hBC110
    obtain ⟨W7,z7,a7,c7⟩:=xC110
    dsimp only at hW7 hWl7 hWv7 hGL7 hp1 hp2 hp3 hp4 e7 hs7 ⊢
    have hv0:=hdv i hiN
    have hle:=hIC.le i hiN
    have hod7:=hod.ext e7
    have hq:(xB2.getD i default).toNat=Cm i:=by omega
    have hWq:W7.getD (xB2.getD i default).toNat default=((hdsK Cm (i+1)).idxOf (Cm i):Int):=by rw [hq];exact hWv7 _ hpm
    have hPq:(W7.getD (xB2.getD i default).toNat default).toNat=(hdsK Cm (i+1)).idxOf (Cm i):=by rw [hWq];exact Int.toNat_natCast _
    rw [←hPq] at hp1 hp2 hp3
    have hx:=hGL7.each (W7.getD (xB2.getD i default).toNat default).toNat
    have hxl:=hx.lt
    have hxg:=hx.ge
    have hclq:∀ {wq:World},TA Vc.encI 1 3 w11.heap.size (z7.getD (W7.getD (xB2.getD i default).toNat default).toNat default).a (z7.getD (W7.getD (xB2.getD i default).toNat default).toNat default).c (z7.getD (W7.getD (xB2.getD i default).toNat default).toNat default).l ((i:Nat):Int) wBC110 wq→IntSl wq xB0.1.1 xB2∧IntSl wq (some ⟨b11,0,none⟩) W7∧TSl encSl 1 wq a7 z7:=fun tt=>⟨(hod7.mod tt.m fun k h1 h2=>by have:=hxg k h2;have:=hod.lt k h1;omega).sl,(hW7.mod tt.m fun k h1 h2=>by have:=hxg k h2;have:=aBlk_some h1;omega).sl,(hGL7.own.mod tt.m (hGL7.out _)).sl⟩
    refine V.regionT (T:=(TA Vc.encI 1 3 w11.heap.size (z7.getD (W7.getD (xB2.getD i default).toNat default).toNat default).a (z7.getD (W7.getD (xB2.getD i default).toNat default).toNat default).c (z7.getD (W7.getD (xB2.getD i default).toNat default).toNat default).l ((i:Nat):Int))) mixed 21 (by kernel_rfl) rfl (fun us=>VT.op (fun wq eq=>R.mvS rfl) (VT.op (fun wq eq=>R.mvS rfl) (VT.op (fun wq eq=>R.mvS rfl) (VT.op (fun wq eq=>R.mvI rfl) (VT.op (fun wq eq=>R.ixS Tryz.runUnderlying22 Tryz.sizeOf3 rfl rfl (by omega) (by omega) (hod7.sl.some (i:=i) (by omega))) (VT.op (fun wq eq=>R.ld1 Tryz.isAgg3 rfl ((((hclq eq).1.row (i:=i) (by omega)).cell (i:=0) rfl))) (VT.op (fun wq eq=>R.ixS Tryz.runUnderlying22 Tryz.sizeOf3 rfl rfl (by omega) (by omega) (hW7.sl.some (i:=(xB2.getD i default).toNat) (by omega))) (VT.op (fun wq eq=>R.ld1 Tryz.isAgg3 rfl ((((hclq eq).2.1.row (i:=(xB2.getD i default).toNat) (by omega)).cell (i:=0) rfl))) (VT.op (fun wq eq=>R.mvS rfl) (VT.op (fun wq eq=>R.mvS rfl) (VT.op (fun wq eq=>R.mvS rfl) (VT.op (fun wq eq=>R.mvI rfl) (VT.op (fun wq eq=>R.ixS Tryz.runUnderlying22 Tryz.sizeOf3 rfl rfl (by omega) (by omega) (hod7.sl.some (i:=i) (by omega))) (VT.op (fun wq eq=>R.ld1 Tryz.isAgg3 rfl ((((hclq eq).1.row (i:=i) (by omega)).cell (i:=0) rfl))) (VT.op (fun wq eq=>R.ixS Tryz.runUnderlying22 Tryz.sizeOf3 rfl rfl (by omega) (by omega) (hW7.sl.some (i:=(xB2.getD i default).toNat) (by omega))) (VT.op (fun wq eq=>R.ld1 Tryz.isAgg3 rfl ((((hclq eq).2.1.row (i:=(xB2.getD i default).toNat) (by omega)).cell (i:=0) rfl))) (VT.op (fun wq eq=>R.ixS Tryz.runUnderlying23 Tryz.sizeOf22 rfl rfl (by omega) (by omega) (hGL7.own.sl.some (i:=(W7.getD (xB2.getD i default).toNat default).toNat) hp1)) (VT.op (fun wq eq=>R.ld1 Tryz.isAgg22 rfl ((((hclq eq).2.2.row (i:=(W7.getD (xB2.getD i default).toNat default).toNat) hp1).cell (i:=0) rfl))) (VT.op (fun wq eq=>R.mvI rfl) (VT.spec (SB1 Vc.encI 1 3 wBC110.heap.size ((i:Nat):Int)) (fun u x y _ ⟨bb,h1,h2⟩ eb=>⟨bb,h1,h2.mod eb.m fun k hk hs=>by have:=OwnT.ge h2 k hk;have:=hxl k hs;omega⟩) rfl (fun wq eq hq=>yieldsR_build1 Tryz.runUnderlying22 Tryz.sizeOf3 Tryz.zeroValue3 rfl rfl rfl ((i:Nat):Int) rfl rfl rfl eq.m.size fun b w2 ho he=>⟨⟨b,rfl,ho⟩,Turn.ext he⟩) (VT.spec (SA Vc.encI 1 3 w11.heap.size wBC110.heap.size (z7.getD (W7.getD (xB2.getD i default).toNat default).toNat default).a (z7.getD (W7.getD (xB2.getD i default).toNat default).toNat default).c (z7.getD (W7.getD (xB2.getD i default).toNat default).toNat default).l ((i:Nat):Int)) (SA.mono hx) rfl (fun wq eq hq=>by
      obtain ⟨bb,hb,hB⟩:=hq 19 (by kernel_rfl)
      refine yieldsR_app1 (a:=(z7.getD (W7.getD (xB2.getD i default).toNat default).toNat default).a) (cap:=(z7.getD (W7.getD (xB2.getD i default).toNat default).toNat default).c) (b:=bb) (l:=(z7.getD (W7.getD (xB2.getD i default).toNat default).toNat default).l) (u:=((i:Nat):Int)) el22 (fun _=>rfl) hx eq ?_ ?_ hB.sl (by omega) (by unfold maxLen;omega) hs7
      ·rfl
      ·exact hb) (VT.nil (fun w10 e10 h10=>?_))))))))))))))))))))))) rfl
    obtain ⟨a',c',hu,hO,hd⟩:=h10 20
    have hm10:=e10.m
    rw [hu]
    refine VL.op (R.ixS Tryz.runUnderlying23 Tryz.sizeOf22 rfl rfl (by omega) (by omega) (hGL7.own.sl.some (i:=(W7.getD (xB2.getD i default).toNat default).toNat) hp1)) (VL.ownSt eltSl (v:=.slice _ _ _) Tryz.sizeOf22 ((hGL7.own.mod hm10 (hGL7.out _))) (W7.getD (xB2.getD i default).toNat default).toNat 0 (SlI.mk a' c' ((z7.getD (W7.getD (xB2.getD i default).toNat default).toNat default).l++[((i:Nat):Int)])) rfl rfl (by omega) rfl rfl rfl rfl (by show [Value.slice a' ((z7.getD (W7.getD (xB2.getD i default).toNat default).toNat default).l++[((i:Nat):Int)]).length c']=_;rw [List.length_append];rfl) fun w22 ho22 m22 hs22=>VL.nil (V.region (VL.op (R.mvI rfl) (VL.op (R.add rfl rfl (by omega) (by omega)) (VL.op (R.asI rfl) (VL.nil (?_)))))))
    refine ⟨(i+1,W7,z7.set (W7.getD (xB2.getD i default).toNat default).toNat ⟨a',c',(z7.getD (W7.getD (xB2.getD i default).toNat default).toNat default).l++[((i:Nat):Int)]⟩,a7,c7),by dsimp only;rw [List.length_set];rfl,⟨by dsimp only;omega,?_,hWl7,hWv7,hGL7.app hp1 hO hm10 (fun q hq=>?_) ho22 m22,?_,?_,?_⟩,by dsimp only;omega⟩
    ·exact (hW7.mod hm10 fun k h1 h2=>by have:=hxg k h2;have:=aBlk_some h1;omega).mod m22 fun k h1 h2=>by have:=hGL7.own.ge k h2;have:=aBlk_some h1;omega
    ·rcases hd with ⟨e1,_⟩ | h
     ·exact .inl (e1▸hq)
     ·exact .inr (h q hq)
    ·dsimp only
     rw [←hp3];unfold vals;rw [List.map_set]
    ·exact (e7.ownA hm10 fun q hq=>by have:=hxg q hq;have:=e11.size;omega).ownA m22 fun q hq=>by have:=hGL7.own.ge q hq;have:=e11.size;omega
    ·have h1:=hm10.size
     have h2:=m22.size
     omega
   ·have hiN:i=N:=by omega
    subst hiN
    exact ⟨(z,a,c),rfl,⟨by rw [hcG];exact hz,hGL.LL⟩,(hw1.trans e2).trans e5⟩
end Go.Proofs.YtdbcfpcicjgghaaGreatDoor
