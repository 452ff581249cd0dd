/- Bound: the laws' small functions on ways. -/
import Derived.Test.YtjocoefpnboccaaGreatDoorXN4
import Derived.Test.YtjocoefpnboccaaGreatDoorXN9
import Derived.Test.YtjocoefpnboccaaGreatDoorXL8
import Derived.Test.YtjocoefpnboccaaGreatDoorXVcBlk
import Derived.Test.YtjocoefpnboccaaGreatDoorXH22a
namespace Go.Proofs.YtjocoefpnboccaaGreatDoor
set_option maxHeartbeats 16000000
open Go.Vc
set_option maxRecDepth 100000
set_option maxHeartbeats 16000000
structure WIn (w:World) (a:Option Addr) (W:List WyI):Prop where
 sl:WL w a W
 len:W.length≤9223372036854775807
 each:∀ x∈W,x.p.l.length≤9223372036854775807∧x.n.l.length≤9223372036854775807
structure FewW (W:List WyI) (n m:Int):Prop where
 n:(W.length:Int)≤n
 e:∀ x∈W,(x.p.l.length:Int)≤m∧(x.n.l.length:Int)≤m
theorem wfew_spec (W:List WyI) (a:Option Addr) (c:Nat) (n m:Int) (w:World) (hW:WIn w a W) :
  RetsX Tryz.prog 11 #[.slice a W.length c,.int .i64 n,.int .i64 m] w (fun b:Bool=>.bool b) (fun b _=>b=true→FewW W n m):=by
 have hlen:=hW.len
 refine enter (args:=[_,_,_]) Tryz.func11 rfl Tryz.ntmps11 (by kernel_rfl) rfl ?_
 refine V.seq (V.region (VL.op (R.asB rfl) (VL.nil (V.seq (V.seq (V.region (VL.op (R.asI rfl) (VL.nil (V.block (?_))))))))))
 refine V.loop [0,1,2,7] (fun k:Nat=>[.slice a W.length c,.int .i64 n,.int .i64 m,.int .i64 k]) (fun k w'=>k≤W.length∧(∀ i,i<k→((W.getD i default).p.l.length:Int)≤m∧((W.getD i default).n.l.length:Int)≤m)∧Ext w w') (fun k=>W.length-k) 0 rfl ⟨by omega,fun i h=>absurd h (Nat.not_lt_zero i),Vc.Mod.refl _ _⟩ ?_
 rintro ρ k w1 ⟨hk,hi,e⟩
 have hW1:=hW.sl.ext e
 refine V.seq (V.seq (V.region (VL.op (R.mvI rfl) (VL.op (R.mvS rfl) (VL.op (R.lenS Tryz.runUnderlying26 rfl) (VL.op (R.lss rfl rfl) (VL.nil (V.condP rfl (fun c11=>V.skip (V.seq (V.block (V.seq (?_))))) (fun c11=>V.exit (V.seq (V.region (VL.op (R.mvS rfl) (VL.op (R.lenS Tryz.runUnderlying26 rfl) (VL.op (R.mvI rfl) (VL.op (R.leq rfl rfl) (VL.op (R.asB rfl) (VL.nil (V.ret (fret1 (v:=.bool _) rfl rfl rfl (?_))))))))))))))))))))
 ·have hkl:k<W.length:=by omega
  refine V.region (VL.op (R.mvS rfl) (VL.op (R.mvI rfl) (VL.op (R.ixS Tryz.runUnderlying26 Tryz.sizeOf43 rfl rfl (by omega) (by omega) ((hW1.sl).some (i:=k) (by omega))) (VL.op (R.fld' (o:=0) Tryz.runUnderlying43 rfl rfl Tryz.sizeOf22 rfl rfl) (VL.op (R.ld1 Tryz.isAgg22 rfl (((((hW1.sl).ext (Mod.refl _ _)).row (i:=k) (by omega)).cell (i:=0) rfl))) (VL.op (R.lenS Tryz.runUnderlying22 rfl) (VL.op (R.mvI rfl) (VL.op (R.gtr rfl rfl) (VL.op (R.mvB rfl) (VL.orP rfl rfl (fun g4_8=>VL.op (R.mvS rfl) (VL.gT rfl rfl (VL.op (R.mvI rfl) (VL.gT rfl rfl (VL.op (R.ixS Tryz.runUnderlying26 Tryz.sizeOf43 rfl rfl (by omega) (by omega) ((hW1.sl).some (i:=k) (by omega))) (VL.gT rfl rfl (VL.op (R.fld' (o:=1) Tryz.runUnderlying43 rfl rfl Tryz.sizeOf22 rfl rfl) (VL.gT rfl rfl (VL.op (R.ld1 Tryz.isAgg22 rfl (((((hW1.sl).ext (Mod.refl _ _)).row (i:=k) (by omega)).cell (i:=1) rfl))) (VL.gT rfl rfl (VL.op (R.lenS Tryz.runUnderlying22 rfl) (VL.gT rfl rfl (VL.op (R.mvI rfl) (VL.gT rfl rfl (VL.op (R.gtr rfl rfl) (VL.op (R.pickFB rfl rfl) (VL.nil (V.condP rfl (fun c31=>V.seq (V.region (VL.op (R.asB rfl) (VL.nil (V.ret (fret1 (v:=.bool _) rfl rfl rfl (⟨false,rfl,(fun h=>nomatch h),e⟩))))))) (fun c31=>V.skip (V.region (VL.op (R.mvI rfl) (VL.op (R.add rfl rfl (by omega) (by omega)) (VL.op (R.asI rfl) (VL.nil (⟨k+1,rfl,⟨by omega,fun i h=>?_,e⟩,by omega⟩))))))))))))))))))))))))) (fun g4_8=>VL.gF rfl rfl (VL.gF rfl rfl (VL.gF rfl rfl (VL.gF rfl rfl (VL.gF rfl rfl (VL.gF rfl rfl (VL.gF rfl rfl (VL.op (R.pickTB rfl rfl) (VL.nil (V.condT rfl (V.seq (V.region (VL.op (R.asB rfl) (VL.nil (V.ret (fret1 (v:=.bool _) rfl rfl rfl (⟨false,rfl,(fun h=>nomatch h),e⟩)))))))))))))))))))))))))))
  by_cases h2:i=k
  ·subst h2;omega
  ·exact hi i (by omega)
 ·have hke:k=W.length:=by omega
  subst hke
  refine ⟨_,rfl,fun h=>⟨of_decide_eq_true h,fun x hx=>?_⟩,e⟩
  obtain ⟨i,hil,rfl⟩:=List.getElem_of_mem hx
  rw [←gget hil];exact hi i hil
theorem few32_spec (g:GrW) (W:List WyI) (a:Option Addr) (c:Nat) (n:Int) (w:World) (hI:GIn w g) (hW:WIn w a W) :
  RetsX Tryz.prog 5 #[.agg (encGr g).toArray,.slice a W.length c,.int .i64 n] w (fun b:Bool=>.bool b) (fun b _=>b=true→g.n≤n∧(g.cost.length:Int)≤n∧FewE g.edges 60∧FewW W 12 12):=by
 refine enter (args:=[_,_,_]) Tryz.func5 rfl Tryz.ntmps5 (by kernel_rfl) rfl ?_
 refine V.seq (V.region (VL.box (v:=.agg _) rfl fun b0_0 w0_0 hb0_0 e0_0 hB0_0=>VL.op (R.asB rfl) (VL.nil (V.seq (V.region (VL.op (R.ldA Tryz.isAgg25 Tryz.sizeOf25 rfl rfl ((show RowAt _ _ _ (encGr g) from (hB0_0.rowAt 0 3))) rfl) (VL.op (R.mvI rfl) (VL.callX Tryz.call10 rfl (small_spec g n 60 _ (hI.ok.ext e0_0) hI.c hI.e.len) fun b2 w2 h2 e2=>VL.op (R.mvB rfl) (VL.and rfl rfl (fun g1_3=>VL.op (R.mvS rfl) (VL.gT rfl rfl (VL.callX Tryz.call11 rfl (wfew_spec W a c 12 12 _ ⟨hW.sl.ext (e0_0.trans e2),hW.len,hW.each⟩) fun b5 w5 h5 e5=>VL.op (R.pickTB rfl rfl) (VL.op (R.asB rfl) (VL.nil (V.ret (fret1 (v:=.bool _) rfl rfl rfl (⟨_,rfl,?_,((e0_0.trans e2).trans e5)⟩)))))))) (fun g1_3=>VL.gF rfl rfl (VL.op (R.pickFB rfl rfl) (VL.op (R.asB rfl) (VL.nil (V.ret (fret1 (v:=.bool _) rfl rfl rfl (⟨_,rfl,?_,(e0_0.trans e2)⟩))))))))))))))))
 ·exact fun h=>⟨(h2 g1_3).1,(h2 g1_3).2.1,(h2 g1_3).2.2,h5 h⟩
 ·exact fun h=>nomatch h
end Go.Proofs.YtjocoefpnboccaaGreatDoor
/- Bound: Range. -/
namespace Go.Proofs.YtjocoefpnboccaaGreatDoor
open Go.Vc
set_option maxRecDepth 100000
set_option maxHeartbeats 16000000
theorem ends_spec (a:Option Addr) (c:Nat) (l:List Int) (w:World) (hL:IntSl w a l) (h0:0<l.length) (hm:l.length≤4000) (hb:∀ x∈l,-1000000000≤x∧x≤1000000000) :
  RetsP Tryz.prog 23 #[.slice a l.length c] w (.tuple #[.int .i64 (minP l l.length),.int .i64 (maxP l l.length),.int .i64 (belP l l.length),.int .i64 (abvP l l.length)]):=by
 have hbel:∀ k,k≤l.length→-(1000000000*(k:Int))≤belP l k∧belP l k≤1000000000*(k:Int):=fun k hk=>by
  have:=sm_bnd (M:=1000000000) (l:=(l.take k).map fun n=>min n 0) fun x hx=>by
   obtain ⟨y,hy,rfl⟩:=List.mem_map.1 hx
   have:=hb y (List.mem_of_mem_take hy)
   omega
  rw [List.length_map,List.length_take,Nat.min_eq_left hk] at this
  exact this
 have habv:∀ k,k≤l.length→-(1000000000*(k:Int))≤abvP l k∧abvP l k≤1000000000*(k:Int):=fun k hk=>by
  have:=sm_bnd (M:=1000000000) (l:=(l.take k).map fun n=>max n 0) fun x hx=>by
   obtain ⟨y,hy,rfl⟩:=List.mem_map.1 hx
   have:=hb y (List.mem_of_mem_take hy)
   omega
  rw [List.length_map,List.length_take,Nat.min_eq_left hk] at this
  exact this
 refine enter (args:=[_]) Tryz.func23 rfl Tryz.ntmps23 (by kernel_rfl) rfl ?_
 refine V.seq (V.region (VL.op (R.asI rfl) (VL.op (R.asI rfl) (VL.op (R.asI rfl) (VL.op (R.asI rfl) (VL.nil (V.seq (V.regionQ mixed 7 (by kernel_rfl) rfl (fun w'=>Ext _ w') (Ext.drawn _) (VQ.op (fun wq eq=>R.mvS rfl) (VQ.op (fun wq eq=>R.ixS Tryz.runUnderlying22 Tryz.sizeOf3 rfl rfl (by omega) (by omega) (hL.some (i:=0) h0)) (VQ.op (fun wq eq=>R.ld1 Tryz.isAgg3 rfl ((((hL.ext eq).row (i:=0) h0).cell (i:=0) rfl))) (VQ.op (fun wq eq=>R.mvS rfl) (VQ.op (fun wq eq=>R.ixS Tryz.runUnderlying22 Tryz.sizeOf3 rfl rfl (by omega) (by omega) (hL.some (i:=0) h0)) (VQ.op (fun wq eq=>R.ld1 Tryz.isAgg3 rfl ((((hL.ext eq).row (i:=0) h0).cell (i:=0) rfl))) (VQ.op (fun wq eq=>R.asI rfl) (VQ.nil fun w1q e1q=>VL.op (R.asI rfl) (VL.nil (V.seq (V.seq (V.region (VL.op (R.mvS rfl) (VL.op (R.lenS Tryz.runUnderlying22 rfl) (VL.op (R.mvI rfl) (VL.nil (V.block (?_))))))))))))))))))))))))))
 refine V.loop [2,3,4,5,14,15,16] (fun k:Nat=>[.int .i64 (minP l k),.int .i64 (maxP l k),.int .i64 (belP l k),.int .i64 (abvP l k),.slice a l.length c,.int .i64 (l.length:Nat),.int .i64 (k:Nat)]) (fun k w'=>k≤l.length∧Ext w w') (fun k=>l.length-k) 0 rfl ⟨Nat.zero_le _,e1q⟩ ?_
 rintro ρ k w1 ⟨hk,e⟩
 have hL1:=hL.ext e
 refine V.seq (V.region (VL.op (R.lss rfl rfl) (VL.nil (V.seq (V.condP rfl (fun c17=>V.skip (V.seq (V.block (V.seq (?_))))) (fun c17=>V.exit (V.seq (V.region (VL.op (R.mvI rfl) (VL.op (R.mvI rfl) (VL.op (R.mvI rfl) (VL.op (R.mvI rfl) (VL.op (R.asI rfl) (VL.op (R.asI rfl) (VL.op (R.asI rfl) (VL.op (R.asI rfl) (VL.nil (V.ret (fret4 (v:=.int _ _) (x:=.int _ _) (y:=.int _ _) rfl rfl rfl rfl rfl rfl rfl rfl rfl (?_))))))))))))))))))))
 ·have hkl:k<l.length:=by omega
  have h1:=hbel k hk
  have h2:=habv k hk
  have h3:=hb _ (gmem hkl)
  refine V.region (VL.op (R.ixS Tryz.runUnderlying22 Tryz.sizeOf3 rfl rfl (by omega) (by omega) ((hL1).some (i:=k) (by omega))) (VL.op (R.ld1 Tryz.isAgg3 rfl (((((hL1).ext (Mod.refl _ _)).row (i:=k) (by omega)).cell (i:=0) rfl))) (VL.op (R.asI rfl) (VL.nil (V.seq (V.region (VL.op (R.mvI rfl) (VL.op (R.mvI rfl) (VL.op (R.min rfl rfl) (VL.op (R.mvI rfl) (VL.op (R.mvI rfl) (VL.op (R.max rfl rfl) (VL.op (R.asI rfl) (VL.op (R.asI rfl) (VL.nil (V.region (VL.op (R.mvI rfl) (VL.op (R.mvI rfl) (VL.op (R.min rfl rfl) (VL.op (R.add rfl rfl (by omega) (by omega)) (VL.op (R.mvI rfl) (VL.op (R.mvI rfl) (VL.op (R.max rfl rfl) (VL.op (R.add rfl rfl (by omega) (by omega)) (VL.op (R.asI rfl) (VL.op (R.asI rfl) (VL.nil (V.region (VL.op (R.add rfl rfl (by omega) (by omega)) (VL.op (R.mvI rfl) (VL.nil (?_))))))))))))))))))))))))))))))))
  refine ⟨k+1,?_,⟨by omega,e⟩,by omega⟩
  rw [minP_succ hkl,maxP_succ hkl,belP_succ hkl,abvP_succ hkl]
  rfl
 ·have hke:k=l.length:=by omega
  subst hke
  exact ⟨rfl,e⟩
theorem pairN_snoc (E:List (List Int)) (e c:List Int):pairN (E++[e]) c=pairN E c+if e.length=2∧e.getD 0 default∈c then 1 else 0:=by
 unfold pairN
 rw [List.filter_append,List.length_append]
 congr 1
 by_cases h1:e.length=2
 ·by_cases h2:e.getD 0 default∈c
  ·rw [if_pos ⟨h1,h2⟩,List.filter_cons_of_pos (by rw [decide_eq_true h1,decide_eq_true h2];rfl)];rfl
  ·rw [if_neg (fun h=>h2 h.2),List.filter_cons_of_neg (by rw [decide_eq_false h2,Bool.and_false];decide)];rfl
 ·rw [if_neg (fun h=>h1 h.1),List.filter_cons_of_neg (by rw [decide_eq_false h1,Bool.false_and];decide)];rfl
theorem block_spec (g:GrW) (r1 r2:Nat) (a:Option Addr) (c:Nat) (C:List Int) (w:World) (hG:GOk w g) (hE20:g.edges.length≤20000) (hC:IntSl w a C) (hm:C.length≤4000) (hne:∀ e∈g.edges,0<e.l.length) :
  RetsP Tryz.prog 24 #[.agg (encGB g r1 r2).toArray,.slice a C.length c] w (.bool (blockB (vals g.edges) C)):=by
 refine enter (args:=[_,_]) Tryz.func24 rfl Tryz.ntmps24 (by kernel_rfl) rfl ?_
 refine V.seq (V.region (VL.box (v:=.agg _) rfl fun b0_0 w0_0 hb0_0 e0_0 hB0_0=>VL.op (R.asB rfl) (VL.nil (V.seq (V.region (VL.op (R.asI rfl) (VL.nil (V.seq (V.seq (V.region (VL.op (R.fld' (o:=0) Tryz.runUnderlying49 rfl rfl Tryz.sizeOf25 rfl rfl) (VL.op (R.fld' (o:=2) Tryz.runUnderlying25 rfl rfl Tryz.sizeOf23 rfl rfl) (VL.op (R.ld1 Tryz.isAgg23 rfl ((show w0_0.cell? ⟨b0_0,2,none⟩=some (Value.slice g.ea g.edges.length g.ec) from hB0_0.cell 2))) (VL.op (R.lenS Tryz.runUnderlying23 rfl) (VL.op (R.mvI rfl) (VL.nil (V.block (?_))))))))))))))))))
 refine V.loop [1,5,10,11,12] (fun k:Nat=>[.slice a C.length c,.int .i64 (pairN (vals (g.edges.take k)) C:Nat),.slice g.ea g.edges.length g.ec,.int .i64 (g.edges.length:Nat),.int .i64 (k:Nat)]) (fun k w'=>k≤g.edges.length∧Ext w0_0 w') (fun k=>g.edges.length-k) 0 rfl ⟨Nat.zero_le _,Vc.Mod.refl _ _⟩ ?_
 rintro ρ k w1 ⟨hk,e⟩
 have hG1:=(hG.ext (e0_0.trans e)).e
 have hC1:=hC.ext (e0_0.trans e)
 have hpl:pairN (vals (g.edges.take k)) C≤k:=by
  unfold pairN
  refine Nat.le_trans (List.length_filter_le _ _) ?_
  rw [List.length_map,List.length_take];omega
 refine V.seq (V.region (VL.op (R.lss rfl rfl) (VL.nil (V.seq (V.condP rfl (fun c13=>V.skip (V.seq (V.block (V.seq (?_))))) (fun c13=>V.exit (V.seq (?_))))))))
 ·have hkl:k<g.edges.length:=by omega
  have hx0:=hne _ (gmem hkl)
  have hx1:IntSl w1 (g.edges.getD k default).a (g.edges.getD k default).l:=hG1.at hkl
  have hvt:vals (g.edges.take (k+1))=vals (g.edges.take k)++[(g.edges.getD k default).l]:=by
   rw [List.take_succ_eq_append_getElem hkl,gget hkl];unfold vals;rw [List.map_append];rfl
  refine V.region (VL.op (R.ixS Tryz.runUnderlying23 Tryz.sizeOf22 rfl rfl (by omega) (by omega) ((hG1.sl).some (i:=k) (by omega))) (VL.op (R.ld1 Tryz.isAgg22 rfl (((((hG1.sl).ext (Mod.refl _ _)).row (i:=k) (by omega)).cell (i:=0) rfl))) (VL.op (R.asS rfl) (VL.nil (V.seq (V.region (VL.op (R.mvS rfl) (VL.op (R.lenS Tryz.runUnderlying22 rfl) (VL.op (R.eql rfl rfl) (VL.op (R.mvB rfl) (VL.andP rfl rfl (fun g5_3=>VL.op (R.mvS rfl) (VL.gT rfl rfl (VL.op (R.mvS rfl) (VL.gT rfl rfl (VL.op (R.ixS Tryz.runUnderlying22 Tryz.sizeOf3 rfl rfl (by omega) (by omega) (hx1.some (i:=0) hx0)) (VL.gT rfl rfl (VL.op (R.ld1 Tryz.isAgg3 rfl (((hx1.row (i:=0) hx0).cell (i:=0) rfl))) (VL.gT rfl rfl (VL.callP Tryz.call32 rfl (scont_spec a c C ((g.edges.getD k default).l.getD 0 default) _ hC1 (by omega)) fun w5_8 e5_8=>VL.op (R.pickTB rfl rfl) (VL.nil (V.cond rfl (fun c25=>V.region (VL.op (R.mvI rfl) (VL.op (R.add rfl rfl (by omega) (by omega)) (VL.op (R.asI rfl) (VL.nil (V.region (VL.op (R.add rfl rfl (by omega) (by omega)) (VL.op (R.mvI rfl) (VL.nil (⟨k+1,?_,⟨by omega,e.trans e5_8⟩,by omega⟩)))))))))) (fun c25=>V.skip (V.region (VL.op (R.add rfl rfl (by omega) (by omega)) (VL.op (R.mvI rfl) (VL.nil (⟨k+1,?_,⟨by omega,e.trans e5_8⟩,by omega⟩))))))))))))))))) (fun g5_3=>VL.gF rfl rfl (VL.gF rfl rfl (VL.gF rfl rfl (VL.gF rfl rfl (VL.op (R.pickFB rfl rfl) (VL.nil (V.condF rfl (V.skip (V.region (VL.op (R.add rfl rfl (by omega) (by omega)) (VL.op (R.mvI rfl) (VL.nil (⟨k+1,?_,⟨by omega,e.trans (Mod.refl _ _)⟩,by omega⟩))))))))))))))))))))))))
  ·rw [hvt,pairN_snoc,if_pos ⟨by omega,by simpa using c25⟩];rfl
  ·rw [hvt,pairN_snoc,if_neg (fun h=>of_decide_eq_false c25 h.2),Nat.add_zero];rfl
  ·rw [hvt,pairN_snoc,if_neg (fun h=>by omega),Nat.add_zero];rfl
 ·have hke:k=g.edges.length:=by omega
  subst hke
  have hml:0≤(C.length:Int)*((C.length:Int)-1)∧(C.length:Int)*((C.length:Int)-1)≤16000000:=by
   constructor
   ·rcases Nat.eq_zero_or_pos C.length with h | h
    ·rw [h];decide
    ·exact Int.mul_nonneg (by omega) (by omega)
   ·have:=Int.mul_le_mul (a:=(C.length:Int)) (b:=(C.length:Int)-1) (c:=4000) (d:=4000)
    rcases Nat.eq_zero_or_pos C.length with h | h
    ·rw [h];decide
    ·have:=Int.mul_le_mul (show (C.length:Int)≤4000 by omega) (show (C.length:Int)-1≤4000 by omega) (by omega) (by omega)
     omega
  rw [List.take_length]
  refine V.region (VL.op (R.mvS rfl) (VL.op (R.lenS Tryz.runUnderlying22 rfl) (VL.op (R.gtr rfl rfl) (VL.op (R.mvB rfl) (VL.andP rfl rfl (fun g8_3=>VL.op (R.mvI rfl) (VL.gT rfl rfl (VL.op (R.mvS rfl) (VL.gT rfl rfl (VL.op (R.lenS Tryz.runUnderlying22 rfl) (VL.gT rfl rfl (VL.op (R.mvS rfl) (VL.gT rfl rfl (VL.op (R.lenS Tryz.runUnderlying22 rfl) (VL.gT rfl rfl (VL.op (R.sub rfl rfl (by omega) (by omega)) (VL.gT rfl rfl (VL.op (R.mul rfl rfl (by omega) (by omega)) (VL.gT rfl rfl (VL.op (R.quo rfl rfl (by omega) (by omega) (by omega)) (VL.gT rfl rfl (VL.op (R.eql rfl rfl) (VL.op (R.pickTB rfl rfl) (VL.op (R.asB rfl) (VL.nil (V.ret (fret1 (v:=.bool _) rfl rfl rfl (⟨?_,e0_0.trans e⟩))))))))))))))))))))))) (fun g8_3=>VL.gF rfl rfl (VL.gF rfl rfl (VL.gF rfl rfl (VL.gF rfl rfl (VL.gF rfl rfl (VL.gF rfl rfl (VL.gF rfl rfl (VL.gF rfl rfl (VL.op (R.pickFB rfl rfl) (VL.op (R.asB rfl) (VL.nil (V.ret (fret1 (v:=.bool _) rfl rfl rfl (⟨?_,e0_0.trans e⟩)))))))))))))))))))
  ·unfold blockB
   rw [decide_eq_true (show 1<C.length by omega),Bool.true_and]
  ·unfold blockB
   rw [decide_eq_false (show ¬1<C.length by omega),Bool.false_and]
end Go.Proofs.YtjocoefpnboccaaGreatDoor
/- Bound: Range. -/
namespace Go.Proofs.YtjocoefpnboccaaGreatDoor
open Go.Vc
set_option maxRecDepth 100000
set_option maxHeartbeats 16000000
def anyW (_:World):Prop:=True
def bnd1 (x:Int):Bool:=decide (-1000000000≤x)&&decide (x≤1000000000)
theorem range1_spec (x:Int) (w:World):RetsP Tryz.prog 21 #[.int .i64 x] w (.bool (bnd1 x)):=by
 unfold bnd1
 refine enter (args:=[_]) Tryz.func21 rfl Tryz.ntmps21 (by kernel_rfl) rfl ?_
 refine V.seq (V.region (VL.op (R.asB rfl) (VL.nil (V.seq (V.region (VL.op (R.mvI rfl) (VL.op (R.leq rfl rfl) (VL.op (R.mvB rfl) (VL.andP rfl rfl (fun g1_2=>VL.op (R.mvI rfl) (VL.gT rfl rfl (VL.op (R.leq rfl rfl) (VL.op (R.pickTB rfl rfl) (VL.op (R.asB rfl) (VL.nil (V.ret (fret1 (v:=.bool _) rfl rfl rfl (⟨?_,(Mod.refl _ _)⟩))))))))) (fun g1_2=>VL.gF rfl rfl (VL.op (R.pickFB rfl rfl) (VL.op (R.asB rfl) (VL.nil (V.ret (fret1 (v:=.bool _) rfl rfl rfl (⟨?_,(Mod.refl _ _)⟩))))))))))))))))
 ·rw [decide_eq_true g1_2,Bool.true_and]
 ·rw [decide_eq_false g1_2,Bool.false_and]
theorem wtF_at {ws:List Int} {v:Int} (h0:0≤v) (h1:v<ws.length):wtF ws v∈ws:=gmem (by omega)
theorem comp_pos {g:Gr} (hg:validG g=true) {c:List Int} (h:c∈compsG g):0<c.length:=by
 obtain ⟨i,hi,hr,rfl⟩:=(comps_mem hg).1 h
 exact List.length_pos_of_mem (memsK_mem.2 ⟨i,hi,hr,rfl⟩)
theorem comps_len {g:Gr} (hg:validG g=true):(compsG g).length≤g.n.toNat:=by
 unfold compsG
 rw [if_pos hg,grpsK_len];exact hdsK_len _ _
theorem comp_len {g:Gr} (hg:validG g=true) {c:List Int} (h:c∈compsG g):(c.length:Int)≤g.n:=by
 have h1:=setB_iff.1 (comps_set hg h)
 exact set_len h1.1 h1.2 (costB_iff.1 (validG_iff.1 hg).1).1
theorem rngC_bnd (E:List (List Int)) (ws c:List Int) (h0:0<c.length) (hw:∀ x∈c.map (wtF ws),-1000000000≤x∧x≤1000000000) :
  (-(1000000000*(c.length:Int))≤(rngC E ws c).1∧(rngC E ws c).1≤1000000000*(c.length:Int))∧(-(1000000000*(c.length:Int))≤(rngC E ws c).2∧(rngC E ws c).2≤1000000000*(c.length:Int)):=by
 have hl:(c.map (wtF ws)).length=c.length:=List.length_map _
 unfold rngC
 split
 ·dsimp only;omega
 ·split
  ·have h1:=hw _ (minP_spec (l:=c.map (wtF ws)) (k:=c.length) (by omega) (by omega)).1
   have h2:=hw _ (maxP_spec (l:=c.map (wtF ws)) (k:=c.length) (by omega) (by omega)).1
   dsimp only;omega
  ·have h1:=sm_bnd (M:=1000000000) (l:=((c.map (wtF ws)).take c.length).map fun n=>min n 0) fun x hx=>by
    obtain ⟨y,hy,rfl⟩:=List.mem_map.1 hx
    have:=hw y (List.mem_of_mem_take hy)
    omega
   have h2:=sm_bnd (M:=1000000000) (l:=((c.map (wtF ws)).take c.length).map fun n=>max n 0) fun x hx=>by
    obtain ⟨y,hy,rfl⟩:=List.mem_map.1 hx
    have:=hw y (List.mem_of_mem_take hy)
    omega
   rw [List.length_map,List.length_take,hl,Nat.min_self] at h1 h2
   exact ⟨h1,h2⟩
theorem range_spec (g:GrW) (wa:Option Addr) (wc:Nat) (ws:List Int) (B:Nat) (w:World) (hG:GOk w g) (hl:GLen g) (hW:IntSl w wa ws) (hm:ws.length≤1000000) (hB:B≤w.heap.size) (hT:TabW B w) :
  RetsP Tryz.prog 9 #[.agg (encGr g).toArray,.slice wa ws.length wc] w (.tuple #[.int .i64 (sumsF (grV g) ws).1,.int .i64 (sumsF (grV g) ws).2.1,.int .i64 (sumsF (grV g) ws).2.2]):=by
 refine enter (args:=[_,_]) Tryz.func9 rfl Tryz.ntmps9 (by kernel_rfl) rfl ?_
 refine V.seq (V.region (VL.box (v:=.agg _) rfl fun b0_0 w0_0 hb0_0 e0_0 hB0_0=>VL.op (R.asI rfl) (VL.op (R.asI rfl) (VL.op (R.asI rfl) (VL.nil (V.seq (V.region (VL.op (R.ldA Tryz.isAgg25 Tryz.sizeOf25 rfl rfl ((show RowAt _ _ _ (encGr g) from (hB0_0.rowAt 0 3))) rfl) (VL.callX Tryz.call12 rfl (right_spec g B _ (hG.ext e0_0) hl (Nat.le_trans hB (e0_0).size) (hT.ext hB e0_0)) fun x1 w1 h1 e1=>VL.op (R.mvT rfl) (VL.op (R.extr rfl rfl) (VL.op (R.extr rfl rfl) (VL.allocSt (v:=.agg (encGB g x1.1 x1.2).toArray) Tryz.zeroValue49 Tryz.sizeOf49 rfl rfl rfl rfl rfl fun b1_5 w1_5 hb1_5 e1_5 hB1_5=>VL.op (R.asB rfl) (VL.nil (V.seq (V.seq (V.region (VL.op (R.mvB rfl) (VL.op (R.not rfl) (VL.op (R.mvB rfl) (VL.or rfl rfl (fun g2_2=>VL.op (R.mvS rfl) (VL.gT rfl rfl (VL.op (R.lenS Tryz.runUnderlying22 rfl) (VL.gT rfl rfl (VL.op (R.fld' (o:=0) Tryz.runUnderlying25 rfl rfl Tryz.sizeOf3 rfl rfl) (VL.gT rfl rfl (VL.op (R.ld1 Tryz.isAgg3 rfl ((((hB0_0.ext e1).ext e1_5).cell _))) (VL.gT rfl rfl (VL.op (R.neq rfl rfl) (VL.op (R.pickFB rfl rfl) (VL.op (R.mvB rfl) (VL.orP rfl rfl (fun g2_9=>VL.op (R.mvS rfl) (VL.gT rfl rfl (VL.callP Tryz.call20 rfl (all_spec 21 [] [] bnd1 anyW wa wc ws _ Tryz.call21 (fun w' x _=>range1_spec x w') (fun _ _ _ _=>trivial) trivial (hW.ext ((e0_0.trans e1).trans e1_5)) hm) fun w2_11 e2_11=>VL.gT rfl rfl (VL.op (R.not rfl) (VL.op (R.pickFB rfl rfl) (VL.nil (V.cond rfl (fun c38=>V.seq (V.region (VL.op (R.asI rfl) (VL.op (R.asI rfl) (VL.op (R.asI rfl) (VL.nil (V.ret (fret3 (v:=.int _ _) (x:=.int _ _) (y:=.int _ _) rfl rfl rfl rfl rfl rfl rfl (⟨?_,(((e0_0.trans e1).trans e1_5).trans e2_11)⟩))))))))) (fun c38=>V.skip (V.seq (?_)))))))))) (fun g2_9=>VL.gF rfl rfl (VL.gF rfl rfl (VL.op (R.pickTB rfl rfl) (VL.nil (V.condT rfl (V.seq (V.region (VL.op (R.asI rfl) (VL.op (R.asI rfl) (VL.op (R.asI rfl) (VL.nil (V.ret (fret3 (v:=.int _ _) (x:=.int _ _) (y:=.int _ _) rfl rfl rfl rfl rfl rfl rfl (⟨?_,((e0_0.trans e1).trans e1_5)⟩)))))))))))))))))))))))))) (fun g2_2=>VL.gF rfl rfl (VL.gF rfl rfl (VL.gF rfl rfl (VL.gF rfl rfl (VL.op (R.pickTB rfl rfl) (VL.op (R.mvB rfl) (VL.gF rfl rfl (VL.gF rfl rfl (VL.gF rfl rfl (VL.op (R.pickTB rfl rfl) (VL.nil (V.condT rfl (V.seq (V.region (VL.op (R.asI rfl) (VL.op (R.asI rfl) (VL.op (R.asI rfl) (VL.nil (V.ret (fret3 (v:=.int _ _) (x:=.int _ _) (y:=.int _ _) rfl rfl rfl rfl rfl rfl rfl (⟨?_,((e0_0.trans e1).trans e1_5)⟩)))))))))))))))))))))))))))))))))))))))))
 ·have h:¬wtB (grV g) ws=true:=fun h=>by
   have:=(wtB_iff.1 h).2.2
   have h2:(ws.all bnd1)=true:=List.all_eq_true.2 fun x hx=>by
    have:=this x hx
    unfold bnd1
    rw [decide_eq_true this.1,decide_eq_true this.2];rfl
   rw [h2] at c38;cases c38
  unfold sumsF;rw [if_neg h]
 ·have hv:validG (grV g)=true:=by simpa using g2_2
  have hwl:(ws.length:Int)=g.n:=by simpa using g2_9
  have hwb:∀ x∈ws,-1000000000≤x∧x≤1000000000:=fun x hx=>by
   have h:(ws.all bnd1)=true:=by simpa using c38
   have:=List.all_eq_true.1 h x hx
   unfold bnd1 at this
   simpa using this
  have hwt:wtB (grV g) ws=true:=wtB_iff.2 ⟨hv,hwl,hwb⟩
  have hn:=costB_iff.1 (validG_iff.1 hv).1
  obtain ⟨N,hN⟩:∃ N:Nat,g.n=(N:Int):=⟨g.n.toNat,by have h0:0≤g.n:=hn.1;omega⟩
  have hN4:N≤4000:=by have h0:g.n≤4000:=hn.2.1;omega
  have hE20:g.edges.length≤20000:=by have:=(validG_iff.1 hv).2.1;simpa [grV,vals] using this
  have hne:∀ e∈g.edges,0<e.l.length:=fun e he=>List.length_pos_iff.2 ((validG_iff.1 hv).2.2.1 _ (List.mem_map_of_mem he)).1
  have hGb:=h1.1 hv
  have E2:Ext w w2_11:=((e0_0.trans e1).trans e1_5).trans e2_11
  have E3:Ext w1 w2_11:=e1_5.trans e2_11
  have hB5:=hB1_5.ext e2_11
  have hB2:Blk w2_11 b0_0 (.cells (Value.agg (encGr g).toArray).cells 25 (0,0)):=(hB0_0.ext e1).ext E3
  refine V.region (VL.op (R.asI rfl) (VL.op (R.asI rfl) (VL.nil (V.seq (V.seq (V.region (VL.op (R.ldA Tryz.isAgg25 Tryz.sizeOf25 rfl rfl ((show RowAt _ b0_0 0 (encGr g) from hB2.rowAt 0 3)) rfl) (VL.callX Tryz.call22 rfl (comps_spec g B _ (hG.ext E2) hl (Nat.le_trans hB E2.size) (hT.ext hB E2)) fun z w5 h5 e5=>VL.op (R.lenS Tryz.runUnderlying23 rfl) (VL.op (R.mvI rfl) (VL.nil (V.block (?_))))))))))))
  obtain ⟨hz,hZ⟩:=h5
  have hzl:z.1.length≤4000:=by
   have h1:=comps_len hv
   rw [←hz,List.length_map,show (grV g).n=g.n from rfl,hN] at h1
   omega
  have hG5:GbOk w5 g x1.1 x1.2:=(hGb.ext E3).ext e5
  have hB55:=hB5.ext e5
  have hW5:=hW.ext (E2.trans e5)
  have hmem:∀ k,k<z.1.length→(z.1.getD k default).l∈compsG (grV g):=fun k hk=>by rw [←hz];exact List.mem_map_of_mem (gmem hk)
  have hbd:∀ k,k<z.1.length→∀ x∈(z.1.getD k default).l.map (wtF ws),-1000000000≤x∧x≤1000000000:=fun k hk x hx=>by
   obtain ⟨v,hv2,rfl⟩:=List.mem_map.1 hx
   have:=(setB_iff.1 (comps_set hv (hmem k hk))).2 v hv2
   exact hwb _ (wtF_at this.1 (by rw [hwl];exact this.2))
  have hcl:∀ k,k<z.1.length→0<(z.1.getD k default).l.length∧(z.1.getD k default).l.length≤4000:=fun k hk=>by
   have h1:=comp_pos hv (hmem k hk)
   have h2:=comp_len hv (hmem k hk)
   rw [show (grV g).n=g.n from rfl,hN] at h2
   omega
  obtain ⟨lo,hlo⟩:∃ lo:Nat→Int,lo=fun k=>sm ((z.1.take k).map fun c=>(rngC (vals g.edges) ws c.l).1):=⟨_,rfl⟩
  obtain ⟨hi,hhi⟩:∃ hi:Nat→Int,hi=fun k=>sm ((z.1.take k).map fun c=>(rngC (vals g.edges) ws c.l).2):=⟨_,rfl⟩
  have hlob:∀ k,k≤z.1.length→-(4000000000000*(k:Int))≤lo k∧lo k≤4000000000000*(k:Int):=fun k hk=>by
   have:=sm_bnd (M:=4000000000000) (l:=(z.1.take k).map fun c=>(rngC (vals g.edges) ws c.l).1) fun x hx=>by
    obtain ⟨y,hy,rfl⟩:=List.mem_map.1 hx
    obtain ⟨i,hil,rfl⟩:=List.getElem_of_mem (List.mem_of_mem_take hy)
    rw [←gget hil]
    have h1:=rngC_bnd (vals g.edges) ws _ (hcl i hil).1 (hbd i hil)
    have h2:=(hcl i hil).2
    omega
   rw [List.length_map,List.length_take,Nat.min_eq_left hk] at this
   rw [hlo];exact this
  have hhib:∀ k,k≤z.1.length→-(4000000000000*(k:Int))≤hi k∧hi k≤4000000000000*(k:Int):=fun k hk=>by
   have:=sm_bnd (M:=4000000000000) (l:=(z.1.take k).map fun c=>(rngC (vals g.edges) ws c.l).2) fun x hx=>by
    obtain ⟨y,hy,rfl⟩:=List.mem_map.1 hx
    obtain ⟨i,hil,rfl⟩:=List.getElem_of_mem (List.mem_of_mem_take hy)
    rw [←gget hil]
    have h1:=rngC_bnd (vals g.edges) ws _ (hcl i hil).1 (hbd i hil)
    have h2:=(hcl i hil).2
    omega
   rw [List.length_map,List.length_take,Nat.min_eq_left hk] at this
   rw [hhi];exact this
  have hlos:∀ k,k<z.1.length→lo (k+1)=lo k+(rngC (vals g.edges) ws (z.1.getD k default).l).1:=fun k hk=>by
   rw [hlo];dsimp only;rw [List.take_succ_eq_append_getElem hk,List.map_append,List.map_cons,List.map_nil,sm_snoc,gget hk]
  have hhis:∀ k,k<z.1.length→hi (k+1)=hi k+(rngC (vals g.edges) ws (z.1.getD k default).l).2:=fun k hk=>by
   rw [hhi];dsimp only;rw [List.take_succ_eq_append_getElem hk,List.map_append,List.map_cons,List.map_nil,sm_snoc,gget hk]
  refine V.loop [1,7,9,10,40,41,42] (fun k:Nat=>[.slice wa ws.length wc,.pointer (some ⟨b1_5,0,none⟩),.int .i64 (lo k),.int .i64 (hi k),.slice z.2.1 z.1.length z.2.2,.int .i64 (z.1.length:Nat),.int .i64 (k:Nat)]) (fun k w'=>k≤z.1.length∧Ext w5 w') (fun k=>z.1.length-k) 0 (by rw [hlo,hhi];rfl) ⟨Nat.zero_le _,Vc.Mod.refl _ _⟩ ?_
  rintro ρ k w6 ⟨hk,e6⟩
  have hZ6:=hZ.ext e6
  have hB6:=hB55.ext e6
  refine V.seq (V.region (VL.op (R.lss rfl rfl) (VL.nil (V.seq (V.condP rfl (fun c43=>V.skip (V.seq (V.block (V.seq (?_))))) (fun c43=>V.exit (V.seq (V.region (VL.op (R.mvI rfl) (VL.op (R.mvI rfl) (VL.op (R.asI rfl) (VL.op (R.asI rfl) (VL.op (R.asI rfl) (VL.nil (V.ret (fret3 (v:=.int _ _) (x:=.int _ _) (y:=.int _ _) rfl rfl rfl rfl rfl rfl rfl (?_)))))))))))))))))
  ·have hkl:k<z.1.length:=by omega
   obtain ⟨C,hCd⟩:∃ C,C=z.1.getD k default:=⟨_,rfl⟩
   have hC:=hcl k hkl
   have hCm:=hmem k hkl
   have hCb:=hbd k hkl
   have hl1:=hlob k hk
   have hh1:=hhib k hk
   have hlk:=hlos k hkl
   have hhk:=hhis k hkl
   have hx6:=hZ6.at hkl
   refine V.region (VL.op (R.ixS Tryz.runUnderlying23 Tryz.sizeOf22 rfl rfl (by omega) (by omega) ((hZ6.sl).some (i:=k) (by omega))) (VL.op (R.ld1 Tryz.isAgg22 rfl (((((hZ6.sl).ext (Mod.refl _ _)).row (i:=k) (by omega)).cell (i:=0) rfl))) (VL.op (R.asS rfl) (VL.nil (V.seq (?_))))))
   rw [←hCd] at hC hCm hCb hlk hhk hx6 ⊢
   have hCs:=(setB_iff.1 (comps_set hv hCm)).2
   rw [show (grV g).n=g.n from rfl,←hwl] at hCs
   have hrb:=rngC_bnd (vals g.edges) ws C.l hC.1 hCb
   refine V.region (VL.op (R.asS rfl) (VL.nil (V.cut [1,7,9,10,12,13,40,41,42] (fun y:SlI=>[.slice wa ws.length wc,.pointer (some ⟨b1_5,0,none⟩),.int .i64 (lo k),.int .i64 (hi k),.slice C.a C.l.length C.c,.slice y.a y.l.length y.c,.slice z.2.1 z.1.length z.2.2,.int .i64 (z.1.length:Nat),.int .i64 (k:Nat)]) (fun y w'=>Ext w5 w'∧IntSl w' y.a y.l∧y.l=C.l.map (wtF ws)) (V.seq (V.region (VL.op (R.mvS rfl) (VL.op (R.lenS Tryz.runUnderlying22 rfl) (VL.op (R.mvI rfl) (VL.nil (V.block (?_)))))))) (fun rgB2 xB2 wBB2 hBB2=>V.seq (?_)))))
   ·refine V.loop [1,7,9,10,12,13,40,41,42,46,47,48] (fun x:Nat×SlI=>[.slice wa ws.length wc,.pointer (some ⟨b1_5,0,none⟩),.int .i64 (lo k),.int .i64 (hi k),.slice C.a C.l.length C.c,.slice x.2.a x.2.l.length x.2.c,.slice z.2.1 z.1.length z.2.2,.int .i64 (z.1.length:Nat),.int .i64 (k:Nat),.slice C.a C.l.length C.c,.int .i64 (C.l.length:Nat),.int .i64 (x.1:Nat)])
     (fun x w'=>x.1≤C.l.length∧OwnT Vc.encI 1 3 w6.heap.size w' x.2.a x.2.c x.2.l∧x.2.l=(C.l.take x.1).map (wtF ws)∧Ext w6 w') (fun x=>C.l.length-x.1) (0,default) rfl ⟨Nat.zero_le _,OwnT.nil _ _ _ _ _,rfl,Vc.Mod.refl _ _⟩ ?_
    rintro ρ ⟨i,y⟩ w7 ⟨hi7,ho,hy,e7⟩
    dsimp only at hi7 ho hy e7 ⊢
    have hx7:=hx6.ext e7
    have hW7:=(hW5.ext e6).ext e7
    have hyl:y.l.length≤4000:=by rw [hy,List.length_map,List.length_take];omega
    refine V.seq (V.region (VL.op (R.lss rfl rfl) (VL.nil (V.seq (V.condP rfl (fun c49=>V.skip (V.seq (V.block (V.seq (?_))))) (fun c49=>V.exit (?_)))))))
    ·have hil:i<C.l.length:=by omega
     have hcv:=hCs _ (gmem hil)
     refine V.region (VL.op (R.ixS Tryz.runUnderlying22 Tryz.sizeOf3 rfl rfl (by omega) (by omega) ((hx7).some (i:=i) (by omega))) (VL.op (R.ld1 Tryz.isAgg3 rfl (((((hx7).ext (Mod.refl _ _)).row (i:=i) (by omega)).cell (i:=0) rfl))) (VL.op (R.asI rfl) (VL.nil (V.region (VL.op (R.mvS rfl) (VL.op (R.mvS rfl) (VL.op (R.mvI rfl) (VL.op (R.ixS Tryz.runUnderlying22 Tryz.sizeOf3 rfl rfl (by omega) (by omega) (hW7.some (i:=(C.l.getD i default).toNat) (by omega))) (VL.op (R.ld1 Tryz.isAgg3 rfl (((hW7.row (i:=(C.l.getD i default).toNat) (by omega)).cell (i:=0) rfl))) (VL.append1 el22 Tryz.runUnderlying22 Tryz.sizeOf3 Tryz.zeroValue3 rfl ((ws.getD (C.l.getD i default).toNat default)) rfl rfl rfl ho rfl rfl rfl (by omega) (by unfold maxLen;omega) e7.size fun a12 c12 w12 vt12 ho12 m12 hf12=>VL.op (R.asS rfl) (VL.nil (V.region (VL.op (R.add rfl rfl (by omega) (by omega)) (VL.op (R.mvI rfl) (VL.nil (?_)))))))))))))))))
     refine ⟨(i+1,⟨a12,c12,y.l++[ws.getD (C.l.getD i default).toNat default]⟩),by dsimp only;rw [List.length_append];rfl,⟨by dsimp only;omega,ho12,?_,e7.ownA m12 fun q hq=>ho.ge q hq⟩,by dsimp only;omega⟩
     dsimp only
     rw [List.take_succ_eq_append_getElem hil,List.map_append,←hy,List.map_cons,List.map_nil,gget hil]
     rfl
    ·have hie:i=C.l.length:=by omega
     subst hie
     rw [List.take_length] at hy
     exact ⟨y,rfl,e6.trans e7,ho.sl,hy⟩
   ·obtain ⟨e7,hy,hyd⟩:=hBB2
    have hyl:xB2.l.length=C.l.length:=by rw [hyd,List.length_map]
    have hG7:=hG5.ext e7
    have hB7:=hB55.ext e7
    obtain ⟨mb,hmb,hbm⟩:=hG7.b
    have hx7:IntSl wBB2 C.a C.l:=by have:=(hZ.ext e7).at hkl;rwa [←hCd] at this
    have hbar:(tget mb (C.l.getD 0 default)).getD false=barE (vals g.edges) (C.l.getD 0 default):=by
     rw [hbm];unfold barE;exact decide_eq_decide.2 aloneE_mem
    have hE14:∀ w',Ext wBB2 w'→Ext w w':=fun w' e=>((E2.trans e5).trans e7).trans e
    have hm1:minP xB2.l xB2.l.length=minP (C.l.map (wtF ws)) C.l.length:=by rw [hyl,hyd]
    have hm2:maxP xB2.l xB2.l.length=maxP (C.l.map (wtF ws)) C.l.length:=by rw [hyl,hyd]
    have hm3:belP xB2.l xB2.l.length=belP (C.l.map (wtF ws)) C.l.length:=by rw [hyl,hyd]
    have hm4:abvP xB2.l xB2.l.length=abvP (C.l.map (wtF ws)) C.l.length:=by rw [hyl,hyd]
    have hends:=ends_spec xB2.a xB2.c xB2.l wBB2 hy (by omega) (by omega) (by rw [hyd];exact hCb)
    rw [hm1,hm2,hm3,hm4] at hends
    have hbn:(-(1000000000*(C.l.length:Int))≤minP (C.l.map (wtF ws)) C.l.length∧minP (C.l.map (wtF ws)) C.l.length≤1000000000*(C.l.length:Int))∧(-(1000000000*(C.l.length:Int))≤maxP (C.l.map (wtF ws)) C.l.length∧maxP (C.l.map (wtF ws)) C.l.length≤1000000000*(C.l.length:Int)):=by
     have h1:=hCb _ (minP_spec (l:=C.l.map (wtF ws)) (k:=C.l.length) (by rw [List.length_map];omega) (by rw [List.length_map];omega)).1
     have h2:=hCb _ (maxP_spec (l:=C.l.map (wtF ws)) (k:=C.l.length) (by rw [List.length_map];omega) (by rw [List.length_map];omega)).1
     omega
    have hbm2:(-(1000000000*(C.l.length:Int))≤belP (C.l.map (wtF ws)) C.l.length∧belP (C.l.map (wtF ws)) C.l.length≤1000000000*(C.l.length:Int))∧(-(1000000000*(C.l.length:Int))≤abvP (C.l.map (wtF ws)) C.l.length∧abvP (C.l.map (wtF ws)) C.l.length≤1000000000*(C.l.length:Int)):=by
     have h1:=sm_bnd (M:=1000000000) (l:=((C.l.map (wtF ws)).take C.l.length).map fun n=>min n 0) fun x hx=>by
      obtain ⟨y,hy,rfl⟩:=List.mem_map.1 hx
      have:=hCb y (List.mem_of_mem_take hy)
      omega
     have h2:=sm_bnd (M:=1000000000) (l:=((C.l.map (wtF ws)).take C.l.length).map fun n=>max n 0) fun x hx=>by
      obtain ⟨y,hy,rfl⟩:=List.mem_map.1 hx
      have:=hCb y (List.mem_of_mem_take hy)
      omega
     rw [List.length_map,List.length_take,List.length_map,Nat.min_self] at h1 h2
     exact ⟨h1,h2⟩
    refine V.region (VL.op (R.mvS rfl) (VL.callP Tryz.call23 rfl (hends) fun w14_1 e14_1=>VL.op (R.mvT rfl) (VL.op (R.extr rfl rfl) (VL.op (R.extr rfl rfl) (VL.op (R.extr rfl rfl) (VL.op (R.extr rfl rfl) (VL.op (R.asI rfl) (VL.op (R.asI rfl) (VL.op (R.asI rfl) (VL.op (R.asI rfl) (VL.nil (V.block (V.seq (?_))))))))))))))
    have hx8:=hx7.ext e14_1
    refine V.regionQ mixed 5 (by kernel_rfl) rfl (fun w'=>Ext _ w') (Ext.drawn _) (VQ.op (fun wq eq=>R.fld' (o:=4) Tryz.runUnderlying49 rfl rfl Tryz.sizeOf47 rfl rfl) (VQ.op (fun wq eq=>R.ld1 Tryz.isAgg47 rfl ((show wq.cell? ⟨b1_5,4,none⟩=some (Value.map (some x1.2)) from ((hB7.ext e14_1).ext eq).cell 4))) (VQ.op (fun wq eq=>R.mvS rfl) (VQ.op (fun wq eq=>R.ixS Tryz.runUnderlying22 Tryz.sizeOf3 rfl rfl (by omega) (by omega) ((hx8.ext eq).some (i:=0) hC.1)) (VQ.op (fun wq eq=>R.ld1 Tryz.isAgg3 rfl ((((hx8.ext eq).row (i:=0) hC.1).cell (i:=0) rfl))) (VQ.nil fun w16q e16q=>VL.op (R.lookupV key3 Tryz.runUnderlying47 Tryz.zeroValue4 ((hmb.ext e14_1).ext e16q) ((mget_bar mb (C.l.getD 0 default)).trans (by rw [hbar])) rfl rfl) (VL.op (R.mvB rfl) (VL.and rfl rfl (fun g16_6=>VL.op (R.mvS rfl) (VL.gT rfl rfl (VL.op (R.lenS Tryz.runUnderlying22 rfl) (VL.gT rfl rfl (VL.op (R.eql rfl rfl) (VL.op (R.pickTB rfl rfl) (VL.op (R.asB rfl) (VL.nil (V.condP rfl (fun c73=>V.skip (V.region (VL.op (R.add rfl rfl (by omega) (by omega)) (VL.op (R.mvI rfl) (VL.nil (⟨k+1,?_,⟨by omega,(e7.trans e14_1).trans e16q⟩,by omega⟩)))))) (fun c73=>V.seq (V.region (VL.op (R.mvS rfl) (VL.op (R.lenS Tryz.runUnderlying22 rfl) (VL.op (R.eql rfl rfl) (VL.op (R.mvB rfl) (VL.orP rfl rfl (fun g17_3=>VL.op (R.ldA Tryz.isAgg49 Tryz.sizeOf49 rfl rfl ((show RowAt _ b1_5 0 (encGB g x1.1 x1.2) from ((hB7.ext e14_1).ext e16q).rowAt 0 5)) rfl) (VL.gT rfl rfl (VL.op (R.mvS rfl) (VL.gT rfl rfl (VL.callP Tryz.call24 rfl (block_spec g x1.1 x1.2 C.a C.c C.l _ ((hG7.ok.ext e14_1).ext e16q) hE20 (hx8.ext e16q) hC.2 hne) fun w17_6 e17_6=>VL.op (R.pickFB rfl rfl) (VL.op (R.asB rfl) (VL.nil (V.cond rfl (fun c85=>V.region (VL.op (R.mvI rfl) (VL.op (R.mvI rfl) (VL.op (R.add rfl rfl (by omega) (by omega)) (VL.op (R.mvI rfl) (VL.op (R.mvI rfl) (VL.op (R.add rfl rfl (by omega) (by omega)) (VL.op (R.asI rfl) (VL.op (R.asI rfl) (VL.nil (V.region (VL.op (R.add rfl rfl (by omega) (by omega)) (VL.op (R.mvI rfl) (VL.nil (⟨k+1,?_,⟨by omega,(e7.trans e14_1).trans (e16q.trans e17_6)⟩,by omega⟩))))))))))))))) (fun c85=>V.region (VL.op (R.mvI rfl) (VL.op (R.mvI rfl) (VL.op (R.add rfl rfl (by omega) (by omega)) (VL.op (R.mvI rfl) (VL.op (R.mvI rfl) (VL.op (R.add rfl rfl (by omega) (by omega)) (VL.op (R.asI rfl) (VL.op (R.asI rfl) (VL.nil (V.region (VL.op (R.add rfl rfl (by omega) (by omega)) (VL.op (R.mvI rfl) (VL.nil (⟨k+1,?_,⟨by omega,(e7.trans e14_1).trans (e16q.trans e17_6)⟩,by omega⟩))))))))))))))))))))))) (fun g17_3=>VL.gF rfl rfl (VL.gF rfl rfl (VL.op (R.pickTB rfl rfl) (VL.op (R.asB rfl) (VL.nil (V.condT rfl (V.region (VL.op (R.mvI rfl) (VL.op (R.mvI rfl) (VL.op (R.add rfl rfl (by omega) (by omega)) (VL.op (R.mvI rfl) (VL.op (R.mvI rfl) (VL.op (R.add rfl rfl (by omega) (by omega)) (VL.op (R.asI rfl) (VL.op (R.asI rfl) (VL.nil (V.region (VL.op (R.add rfl rfl (by omega) (by omega)) (VL.op (R.mvI rfl) (VL.nil (⟨k+1,?_,⟨by omega,(e7.trans e14_1).trans e16q⟩,by omega⟩))))))))))))))))))))))))))))))))))))) (fun g16_6=>VL.gF rfl rfl (VL.gF rfl rfl (VL.op (R.pickFB rfl rfl) (VL.op (R.asB rfl) (VL.nil (V.condF rfl (V.seq (V.region (VL.op (R.mvS rfl) (VL.op (R.lenS Tryz.runUnderlying22 rfl) (VL.op (R.eql rfl rfl) (VL.op (R.mvB rfl) (VL.orP rfl rfl (fun g17_3=>VL.op (R.ldA Tryz.isAgg49 Tryz.sizeOf49 rfl rfl ((show RowAt _ b1_5 0 (encGB g x1.1 x1.2) from ((hB7.ext e14_1).ext e16q).rowAt 0 5)) rfl) (VL.gT rfl rfl (VL.op (R.mvS rfl) (VL.gT rfl rfl (VL.callP Tryz.call24 rfl (block_spec g x1.1 x1.2 C.a C.c C.l _ ((hG7.ok.ext e14_1).ext e16q) hE20 (hx8.ext e16q) hC.2 hne) fun w17_6 e17_6=>VL.op (R.pickFB rfl rfl) (VL.op (R.asB rfl) (VL.nil (V.cond rfl (fun c85=>V.region (VL.op (R.mvI rfl) (VL.op (R.mvI rfl) (VL.op (R.add rfl rfl (by omega) (by omega)) (VL.op (R.mvI rfl) (VL.op (R.mvI rfl) (VL.op (R.add rfl rfl (by omega) (by omega)) (VL.op (R.asI rfl) (VL.op (R.asI rfl) (VL.nil (V.region (VL.op (R.add rfl rfl (by omega) (by omega)) (VL.op (R.mvI rfl) (VL.nil (⟨k+1,?_,⟨by omega,(e7.trans e14_1).trans (e16q.trans e17_6)⟩,by omega⟩))))))))))))))) (fun c85=>V.region (VL.op (R.mvI rfl) (VL.op (R.mvI rfl) (VL.op (R.add rfl rfl (by omega) (by omega)) (VL.op (R.mvI rfl) (VL.op (R.mvI rfl) (VL.op (R.add rfl rfl (by omega) (by omega)) (VL.op (R.asI rfl) (VL.op (R.asI rfl) (VL.nil (V.region (VL.op (R.add rfl rfl (by omega) (by omega)) (VL.op (R.mvI rfl) (VL.nil (⟨k+1,?_,⟨by omega,(e7.trans e14_1).trans (e16q.trans e17_6)⟩,by omega⟩))))))))))))))))))))))) (fun g17_3=>VL.gF rfl rfl (VL.gF rfl rfl (VL.op (R.pickTB rfl rfl) (VL.op (R.asB rfl) (VL.nil (V.condT rfl (V.region (VL.op (R.mvI rfl) (VL.op (R.mvI rfl) (VL.op (R.add rfl rfl (by omega) (by omega)) (VL.op (R.mvI rfl) (VL.op (R.mvI rfl) (VL.op (R.add rfl rfl (by omega) (by omega)) (VL.op (R.asI rfl) (VL.op (R.asI rfl) (VL.nil (V.region (VL.op (R.add rfl rfl (by omega) (by omega)) (VL.op (R.mvI rfl) (VL.nil (⟨k+1,?_,⟨by omega,(e7.trans e14_1).trans e16q⟩,by omega⟩))))))))))))))))))))))))))))))))))))))))))
    ·have hr:rngC (vals g.edges) ws C.l=(0,0):=by
      unfold rngC
      rw [if_pos (by rw [g16_6,decide_eq_true (show C.l.length=1 by omega)];rfl)]
     rw [hlk,hhk,hr,Int.add_zero,Int.add_zero];rfl
    ·have hr:rngC (vals g.edges) ws C.l=(minP (C.l.map (wtF ws)) C.l.length,maxP (C.l.map (wtF ws)) C.l.length):=by
      unfold rngC
      rw [if_neg (by rw [decide_eq_false (show ¬C.l.length=1 by omega),Bool.and_false];decide),if_pos (by rw [c85,Bool.or_true])]
     rw [hlk,hhk,hr];rfl
    ·have hr:rngC (vals g.edges) ws C.l=(belP (C.l.map (wtF ws)) C.l.length,abvP (C.l.map (wtF ws)) C.l.length):=by
      unfold rngC
      rw [if_neg (by rw [decide_eq_false (show ¬C.l.length=1 by omega),Bool.and_false];decide),if_neg (by rw [c85,decide_eq_false (show ¬C.l.length=1 by omega)];decide)]
     rw [hlk,hhk,hr];rfl
    ·omega
    ·have hr:rngC (vals g.edges) ws C.l=(minP (C.l.map (wtF ws)) C.l.length,maxP (C.l.map (wtF ws)) C.l.length):=by
      unfold rngC
      rw [if_neg (by rw [decide_eq_false (show ¬C.l.length=1 by omega),Bool.and_false];decide),if_pos (by rw [c85,Bool.or_true])]
     rw [hlk,hhk,hr];rfl
    ·have hr:rngC (vals g.edges) ws C.l=(belP (C.l.map (wtF ws)) C.l.length,abvP (C.l.map (wtF ws)) C.l.length):=by
      unfold rngC
      rw [if_neg (by rw [decide_eq_false (show ¬C.l.length=1 by omega),Bool.and_false];decide),if_neg (by rw [c85,decide_eq_false (show ¬C.l.length=1 by omega)];decide)]
     rw [hlk,hhk,hr];rfl
    ·have hr:rngC (vals g.edges) ws C.l=(minP (C.l.map (wtF ws)) C.l.length,maxP (C.l.map (wtF ws)) C.l.length):=by
      unfold rngC
      rw [if_neg (by rw [g16_6,Bool.false_and];decide),if_pos (by rw [decide_eq_true (show C.l.length=1 by omega),Bool.true_or])]
     rw [hlk,hhk,hr];rfl
  ·have hke:k=z.1.length:=by omega
   subst hke
   refine ⟨?_,(E2.trans e5).trans e6⟩
   have h1:lo z.1.length=sm ((compsG (grV g)).map fun c=>(rngC (vals g.edges) ws c).1):=by
    rw [hlo];dsimp only;rw [List.take_length,←hz,List.map_map];rfl
   have h2:hi z.1.length=sm ((compsG (grV g)).map fun c=>(rngC (vals g.edges) ws c).2):=by
    rw [hhi];dsimp only;rw [List.take_length,←hz,List.map_map];rfl
   unfold sumsF
   rw [if_pos hwt,h1,h2];rfl
 ·have h:¬wtB (grV g) ws=true:=fun h=>by
   have h1:=(wtB_iff.1 h).2.1
   rw [show (grV g).n=g.n from rfl] at h1
   exact absurd h1 (by simpa using g2_9)
  unfold sumsF;rw [if_neg h]
 ·have h:¬wtB (grV g) ws=true:=fun h=>by
   have h1:=(wtB_iff.1 h).1
   rw [h1] at g2_2;cases g2_2
  unfold sumsF;rw [if_neg h]
end Go.Proofs.YtjocoefpnboccaaGreatDoor
