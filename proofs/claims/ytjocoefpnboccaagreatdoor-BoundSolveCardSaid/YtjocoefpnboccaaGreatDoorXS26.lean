/- Solve: a repair in which some way holds, or none does. -/
import Derived.Test.YtjocoefpnboccaaGreatDoorXS13
import Derived.Test.YtjocoefpnboccaaGreatDoorXN9
import Derived.Test.YtjocoefpnboccaaGreatDoorXVcTct
import Derived.Test.YtjocoefpnboccaaGreatDoorXVcSrch4
namespace Go.Proofs.YtjocoefpnboccaaGreatDoor
set_option maxHeartbeats 16000000
open Go.Vc
set_option maxRecDepth 100000
set_option maxHeartbeats 16000000
structure PfX where
 a:Option Addr
 c:Nat
 S:List St4
def encPf (p:PfX):List Value:=[.slice p.a p.S.length p.c]
def srchG (g:Gr) (W:List Wy) (h:Bool):Srch:=srchF ⟨g.n,g.edges,W,h,[]⟩ 100000 (sgN g W++ptN g W) (-1) (zerS g) []
def existsF (g:Gr) (W:List Wy) (h:Bool):List Int×List St4×Int :=
 if errG g W=0 then
  match srchG g W h with
  | .full=>([],[],3)
  | .found st=>(extF g (insA st g.n.toNat),[],0)
  | .proof S=>([],S,0)
 else ([],[],errG g W)
structure ExK (w:World) (r:List Int×List St4×Int) (z:SlI×PfX×Int) (w':World):Prop where
 e:(z.1.l,z.2.1.S,z.2.2)=r
 o:OwnT Vc.encI 1 3 w.heap.size w' z.1.a z.1.c z.1.l
 s:OwnT encS4 4 112 w.heap.size w' z.2.1.a z.2.1.c z.2.1.S
theorem insA_len (s:List Int) (k:Nat):(insA s k).length≤k:=by
 unfold insA
 rw [List.length_map]
 exact Nat.le_trans (List.length_filter_le _ _) (Nat.le_of_eq List.length_range)
theorem insA_succ (s:List Int) (k:Nat):insA s (k+1)=insA s k++if s.getD k default=1 then [((k:Nat):Int)] else []:=by
 unfold insA
 rw [List.range_succ,List.filter_append,List.map_append]
 congr 1
 by_cases h:s.getD k default=1
 ·rw [if_pos h,List.filter_cons,if_pos (decide_eq_true h)];rfl
 ·rw [if_neg h,List.filter_cons,if_neg (by rw [decide_eq_false h];decide)];rfl
theorem err_ready {g:Gr} {W:List Wy} (h:errG g W=0):readyG g W=true:=by
 unfold errG at h
 by_cases e:readyG g W=true
 ·exact e
 ·rw [if_neg e] at h;cases h
theorem exists_spec (g:GrW) (wa:Option Addr) (wc:Nat) (W:List WyI) (h:Bool) (B:Nat) (w:World) (hG:GOk w g) (hl:GLen g) (hW:WL w wa W) (hWl:∀ y∈W,WLen y) (hWh:∀ y∈W,(y.p.a=none→y.p.c=0)∧(y.n.a=none→y.n.c=0)) (hWm:W.length≤1000000) (hB:B≤w.heap.size) (hT:TabW B w) :
  RetsX Tryz.prog 19 #[.agg (encGr g).toArray,.slice wa W.length wc,.bool h] w (fun z:SlI×PfX×Int=>.tuple #[.slice z.1.a z.1.l.length z.1.c,.agg (encPf z.2.1).toArray,.int .i64 z.2.2]) (ExK w (existsF (grV g) (W.map wyV) h)):=by
 refine enter (args:=[_,_,_]) Tryz.func19 rfl Tryz.ntmps19 (by kernel_rfl) rfl ?_
 refine V.seq (V.region (VL.box (v:=.agg _) rfl fun b0_0 w0_0 hb0_0 e0_0 hB0_0=>VL.op (R.asS rfl) (VL.alloc Tryz.zeroValue32 fun b0_2 w0_2 hb0_2 e0_2 hB0_2=>VL.op (R.asI rfl) (VL.nil (V.seq (V.region (VL.op (R.ldA Tryz.isAgg25 Tryz.sizeOf25 rfl rfl ((show RowAt _ _ _ (encGr g) from (hB0_0.ext e0_2).rowAt 0 3)) rfl) (VL.op (R.mvS rfl) (VL.op (R.mvB rfl) (VL.callX Tryz.call36 rfl (begin29_spec g wa wc W h B _ (hG.ext (e0_0.trans e0_2)) hl (hW.ext (e0_0.trans e0_2)) hWl hWh hWm (Nat.le_trans hB ((e0_0.trans e0_2)).size) (hT.ext hB (e0_0.trans e0_2))) fun z w1 h1 e1=>VL.op (R.mvT rfl) (VL.op (R.extr rfl rfl) (VL.op (R.extr rfl rfl) (VL.op (R.asP rfl) (VL.op (R.asI rfl) (VL.nil (V.seq (V.seq (?_))))))))))))))))))
 have hX1:=hB0_0.ext (e0_2.trans e1)
 have hC1:=hB0_2.ext e1
 have E1:Ext w w1:=(e0_0.trans e0_2).trans e1
 have s02:=e0_0.size
 have s12:=e0_2.size
 have s11:=e1.size
 refine V.region (VL.op (R.mvI rfl) (VL.op (R.neq rfl rfl) (VL.nil (V.condP rfl (fun c23=>V.seq (?_)) (fun c23=>V.skip (V.seq (?_)))))))
 ·have hne:z.2≠0:=c23
  refine V.region (VL.op (R.build Tryz.zeroValue32 Tryz.runUnderlying32 pl32 rfl) (VL.op (R.mvI rfl) (VL.op (R.asS rfl) (VL.store (v:=.agg _) Tryz.sizeOf32 rfl rfl rfl rfl hC1 rfl rfl fun w3 m3 hs3 hB3=>VL.op (R.asI rfl) (VL.nil (V.ret (fretTCT (x:=.slice _ _ _) (v:=.int _ _) rfl rfl rfl rfl rfl rfl rfl Tryz.isAgg32 Tryz.sizeOf32 rfl (hB3.rowAt 0 1) rfl (?_))))))))
  refine ⟨(⟨none,0,[]⟩,⟨none,0,[]⟩,z.2),rfl,⟨?_,OwnT.nil _ _ _ _ _,OwnT.nil _ _ _ _ _⟩,E1.ownA m3 fun q (hq:q=b0_2)=>by omega⟩
  rw [h1.e] at hne ⊢
  unfold existsF
  rw [if_neg hne]
 ·have h0:z.2=0:=by simpa using c23
  have hE:=h1.e
  rw [h0] at hE
  have hr:=err_ready hE.symm
  have hv:validG (grV g)=true:=(ready_ok hr h []).v
  obtain ⟨x,N,hz1,hxg,hxW,hxh,hxO,hN,hR,hSv,hxL,hxT⟩:=h1.ok h0
  rw [hz1]
  have hord:=ord_ok hr
  have hctx:x.ctx=⟨(grV g).n,(grV g).edges,W.map wyV,h,[]⟩:=by unfold SvX.ctx;rw [hxg,hxW,hxh];rfl
  have hzer:zerS (grV g)=List.replicate N 0:=by unfold zerS;rw [show (grV g).n=g.n from rfl,hN];rfl
  have hex:existsF (grV g) (W.map wyV) h=match srchF x.ctx 100000 (sgN (grV g) (W.map wyV)++ptN (grV g) (W.map wyV)) (-1) (List.replicate N 0) [] with
   | .full=>([],[],3)
   | .found st=>(extF (grV g) (insA st N),[],0)
   | .proof S=>([],S,0):=by
   unfold existsF srchG
   rw [if_pos hE.symm,←hctx,hzer,show (grV g).n.toNat=N by rw [show (grV g).n=g.n from rfl,hN];rfl]
  have hlo:x.O.length≤1000000:=by
   rw [hxO]
   unfold orI
   rw [List.length_append]
   have h1:=sgL_len (W.map wyV) (compsG (grV g))
   have h2:=ncomps_len hv
   have h3:=(costB_iff.1 (validG_iff.1 hv).1).2.1
   have h4:(ptI (grV g) (W.map wyV)).length≤40:=by
    unfold errG at hE
    rw [if_pos hr] at hE
    split at hE
    ·cases hE
    ·omega
   omega
  refine V.region (VL.op (R.mvP rfl) (VL.callY Tryz.call37 rfl (ends29_spec x N hR (sgN (grV g) (W.map wyV)++ptN (grV g) (W.map wyV)) (by rw [hxO];exact orI_eq hv _) hlo (List.replicate N 0) w1 (fun v hv=>⟨by have:=hord.rng v hv;rw [show (grV g).n=g.n from rfl,hN] at this;omega,by have:=zerS_at (grV g) (v:Int);rwa [hzer] at this⟩) hord.nd (List.length_replicate) hSv hxL) fun o w4 h4=>VL.op (R.asP rfl) (VL.nil (V.seq (V.seq (?_))))))
  obtain ⟨U,st,S,hU,⟨⟨sa,sc,hk⟩,hm⟩,hor⟩:=h4.r
  have hTl:∀ q,SvX.T { x with U:=U } q→w0_2.heap.size≤q:=fun q hq=>by
   rcases hq with h | h | h
   ·exact hxT q (.inl h)
   ·exact hxT q (.inr (.inl h))
   ·dsimp only at h;omega
  have E4:Ext w w4:=E1.ownA hm fun q hq=>by have:=hTl q hq;omega
  have hX4:=hX1.mod hm fun hq=>by have:=hTl _ hq;have:=hB0_0.lt;omega
  have hC4:=hC1.mod hm fun hq=>by have:=hTl _ hq;have:=hB0_2.lt;omega
  have s14:=hm.size
  rcases hor with ⟨ho,hrS,hst⟩ | ⟨q,b,ho,hQ,hbF,hbT,hst⟩
  ·rw [ho]
   rw [hrS] at hex
   have hpC:x.p≠b0_2:=fun hh=>by have:=hxT x.p (.inr (.inl rfl));have:=hB0_2.lt;omega
   refine V.region (VL.op (R.mvP rfl) (VL.op (R.lit (R.eqlPn Tryz.runUnderlying70 rfl rfl) (rfl)) (VL.nil (V.condT rfl (V.seq (V.regionQ mixed 6 (by kernel_rfl) rfl (fun w'=>Ext _ w') (Ext.drawn _) (VQ.op (fun wq eq=>R.mvP rfl) (VQ.op (fun wq eq=>R.nilCheck rfl) (VQ.op (fun wq eq=>R.fld' (o:=8) Tryz.runUnderlying74 rfl rfl Tryz.sizeOf30 rfl rfl) (VQ.op (fun wq eq=>R.ld1 Tryz.isAgg30 rfl ((show wq.cell? ⟨x.p,8,none⟩=some (Value.slice sa S.length sc) from (hk.blk.ext eq).cell 8))) (VQ.op (fun wq eq=>R.build Tryz.zeroValue32 Tryz.runUnderlying32 pl32 rfl) (VQ.op (fun wq eq=>R.asS rfl) (VQ.nil fun w6q e6q=>VL.store (v:=.agg _) Tryz.sizeOf32 rfl rfl rfl rfl (hC4.ext e6q) rfl rfl fun w6 m6 hs6 hB6=>VL.op (R.asI rfl) (VL.nil (V.ret (fretTCT (x:=.slice _ _ _) (v:=.int _ _) rfl rfl rfl rfl rfl rfl rfl Tryz.isAgg32 Tryz.sizeOf32 rfl (hB6.rowAt 0 1) rfl (?_)))))))))))))))))
   refine ⟨(⟨none,0,[]⟩,⟨sa,sc,S⟩,0),rfl,⟨hex.symm,OwnT.nil _ _ _ _ _,?_⟩,?_⟩
   ·exact ((hk.s.ext e6q).mod m6 fun q h1 (h2:q=b0_2)=>by have:=hk.s.ge q h1;have:=hB0_2.lt;dsimp only at *;omega).weaken (by have:=E1.size;dsimp only;omega)
   ·exact (show Ext w w6q from E4.trans e6q).ownA m6 fun q (hq:q=b0_2)=>by omega
  ·rw [ho]
   refine V.region (VL.op (R.mvP rfl) (VL.op (R.lit (R.eqlPn Tryz.runUnderlying70 rfl rfl) (rfl)) (VL.nil (V.condF rfl (V.skip (V.seq (V.seq (V.region (VL.op (R.mvP rfl) (VL.op (R.nilCheck rfl) (VL.op (R.fld' (o:=0) Tryz.runUnderlying76 rfl rfl Tryz.sizeOf4 rfl rfl) (VL.op (R.ld1 Tryz.isAgg4 rfl ((show _=some (Value.bool b) from hQ.cell 0))) (VL.op (R.not rfl) (VL.nil (V.cond rfl (fun c39=>V.seq (?_)) (fun c39=>V.skip (V.seq (?_))))))))))))))))))
   ·have hb:b=false:=by simpa using c39
    rw [hbF hb] at hex
    refine V.region (VL.op (R.build Tryz.zeroValue32 Tryz.runUnderlying32 pl32 rfl) (VL.op (R.asS rfl) (VL.store (v:=.agg _) Tryz.sizeOf32 rfl rfl rfl rfl hC4 rfl rfl fun w8 m8 hs8 hB8=>VL.op (R.asI rfl) (VL.nil (V.ret (fretTCT (x:=.slice _ _ _) (v:=.int _ _) rfl rfl rfl rfl rfl rfl rfl Tryz.isAgg32 Tryz.sizeOf32 rfl (hB8.rowAt 0 1) rfl (?_)))))))
    exact ⟨(⟨none,0,[]⟩,⟨none,0,[]⟩,3),rfl,⟨hex.symm,OwnT.nil _ _ _ _ _,OwnT.nil _ _ _ _ _⟩,E4.ownA m8 fun q (hq:q=b0_2)=>by omega⟩
   ·have hb:b=true:=by simpa using c39
    rw [hbT hb] at hex
    obtain ⟨tb,htb⟩:∃ tb,tb=x.tb:=⟨_,rfl⟩
    have ht:=hk.t
    have hN4:=hR.N4
    dsimp only at ht
    rw [←htb] at ht
    obtain ⟨hl1,hload,-,-⟩:=srch_best (h:=h) (M:=100000) (s':=st) hr hord (by rw [←hctx,hzer];exact hbT hb)
    refine V.region (VL.op (R.asS rfl) (VL.nil (V.seq (V.seq (V.region (VL.op (R.mvP rfl) (VL.op (R.nilCheck rfl) (VL.op (R.fld' (o:=7) Tryz.runUnderlying74 rfl rfl Tryz.sizeOf22 rfl rfl) (VL.op (R.ld1 Tryz.isAgg22 rfl ((show _=some (Value.slice (some ⟨tb,0,none⟩) st.length st.length) from by rw [htb];exact hk.blk.cell 7))) (VL.op (R.lenS Tryz.runUnderlying22 rfl) (VL.op (R.mvI rfl) (VL.nil (V.block (?_))))))))))))))
    refine V.loop [3,7,12,44,45,46] (fun x:Nat×Option Addr×Nat=>[.pointer (some ⟨b0_0,0,none⟩),.pointer (some ⟨b0_2,0,none⟩),.slice x.2.1 (insA st x.1).length x.2.2,.slice (some ⟨tb,0,none⟩) st.length st.length,.int .i64 (st.length:Nat),.int .i64 (x.1:Nat)])
     (fun x w'=>x.1≤st.length∧OwnT Vc.encI 1 3 w4.heap.size w' x.2.1 x.2.2 (insA st x.1)∧Ext w4 w') (fun x=>st.length-x.1) (0,none,0) rfl ⟨Nat.zero_le _,OwnT.nil _ _ _ _ _,Vc.Mod.refl _ _⟩ ?_
    rintro ρ ⟨k,a12,c12⟩ w5 ⟨hk5,ho5,e5⟩
    dsimp only at hk5 ho5 e5 ⊢
    have ht5:=(ht.ext e5)
    refine V.seq (V.region (VL.op (R.lss rfl rfl) (VL.nil (V.seq (V.condP rfl (fun c47=>V.skip (V.seq (V.block (V.seq (?_))))) (fun c47=>V.exit (V.seq (?_))))))))
    ·have hkl:k<st.length:=by omega
     refine V.region (VL.op (R.mvI rfl) (VL.op (R.ixS Tryz.runUnderlying22 Tryz.sizeOf3 rfl rfl (by omega) (by omega) (ht5.sl.some (i:=k) hkl)) (VL.op (R.ld1 Tryz.isAgg3 rfl (((ht5.sl.row (i:=k) hkl).cell (i:=0) rfl))) (VL.op (R.asI rfl) (VL.op (R.asI rfl) (VL.nil (V.seq (V.region (VL.op (R.mvI rfl) (VL.op (R.eql rfl rfl) (VL.nil (V.condP rfl (fun c52=>?_) (fun c52=>V.skip (V.region (VL.op (R.add rfl rfl (by omega) (by omega)) (VL.op (R.mvI rfl) (VL.nil (?_))))))))))))))))))
     ·refine V.region (VL.op (R.mvS rfl) (VL.op (R.mvI rfl) (VL.append1 el22 Tryz.runUnderlying22 Tryz.sizeOf3 Tryz.zeroValue3 rfl (((k:Nat):Int)) rfl rfl rfl ho5 rfl rfl rfl (by have:=insA_len st k;omega) (by have:=insA_len st k;unfold maxLen;omega) e5.size fun a14 c14 w14 vt14 ho14 m14 hf14=>VL.op (R.asS rfl) (VL.nil (V.region (VL.op (R.add rfl rfl (by omega) (by omega)) (VL.op (R.mvI rfl) (VL.nil (?_)))))))))
      have hs1:insA st (k+1)=insA st k++[((k:Nat):Int)]:=by rw [insA_succ,if_pos c52]
      refine ⟨(k+1,a14,c14),?_,⟨by dsimp only;omega,by dsimp only;rw [hs1];exact ho14,e5.ownA m14 fun q hq=>ho5.ge q hq⟩,by dsimp only;omega⟩
      dsimp only;rw [hs1,List.length_append];rfl
     ·have hs1:insA st (k+1)=insA st k:=by rw [insA_succ,if_neg c52,List.append_nil]
      refine ⟨(k+1,a12,c12),?_,⟨by dsimp only;omega,by dsimp only;rw [hs1];exact ho5,e5⟩,by dsimp only;omega⟩
      dsimp only;rw [hs1];rfl
    ·have hke:k=N:=by omega
     have E5:Ext w w5:=E4.trans e5
     have hla:=insA_len st k
     refine V.region (VL.op (R.ldA Tryz.isAgg25 Tryz.sizeOf25 rfl rfl ((show RowAt _ _ _ (encGr g) from (hX4.ext e5).rowAt 0 3)) rfl) (VL.op (R.mvS rfl) (VL.callX Tryz.call38 rfl (extend_spec g a12 c12 (insA st k) B _ (hG.ext E5) hl ho5.sl (by omega) (Nat.le_trans hB E5.size) (hT.ext hB E5)) fun z6 w6 h6 e6=>VL.op (R.mvT rfl) (VL.op (R.extr rfl rfl) (VL.op (R.extr rfl rfl) (VL.op (R.asS rfl) (VL.op (R.asI rfl) (VL.nil (V.seq (V.region (VL.op (R.mvS rfl) (VL.op (R.build Tryz.zeroValue32 Tryz.runUnderlying32 pl32 rfl) (VL.op (R.mvI rfl) (VL.op (R.asS rfl) (VL.store (v:=.agg _) Tryz.sizeOf32 rfl rfl rfl rfl (hC4.ext (e5.trans e6)) rfl rfl fun w17 m17 hs17 hB17=>VL.op (R.asI rfl) (VL.nil (V.ret (fretTCT (x:=.slice _ _ _) (v:=.int _ _) rfl rfl rfl rfl rfl rfl rfl Tryz.isAgg32 Tryz.sizeOf32 rfl (hB17.rowAt 0 1) rfl (?_)))))))))))))))))))
     have hke':k=(grV g).n.toNat:=by rw [show (grV g).n=g.n from rfl,hN,hke];rfl
     obtain ⟨ho6,hv6⟩:=h6
     rw [hke',hload,if_pos rfl] at hv6
     injection hv6 with hv6 hv7
     have s45:=e5.size
     have s56:=e6.size
     have s5:=E5.size
     refine ⟨(z6.1,⟨none,0,[]⟩,z6.2),rfl,⟨?_,?_,OwnT.nil _ _ _ _ _⟩,(show Ext w w6 from E5.trans e6).ownA m17 fun q (hq:q=b0_2)=>by omega⟩
     ·rw [hex]
      show (z6.1.l,_,z6.2)=_
      rw [hv6,hv7,←hke',hke]
     ·exact (ho6.mod m17 fun q h1 (h2:q=b0_2)=>by have:=ho6.ge q h1;have:=hC4.lt;omega).weaken s5
end Go.Proofs.YtjocoefpnboccaaGreatDoor

/- Solve: the verdict. -/
namespace Go.Proofs.YtjocoefpnboccaaGreatDoor
open Go.Vc
set_option maxRecDepth 100000
set_option maxHeartbeats 16000000
structure CmX where
 v:Int
 i:SlI
 o:SlI
 p:PfX
def encCm (x:CmX):List Value:=[.int .i64 x.v,.slice x.i.a x.i.l.length x.i.c,.slice x.o.a x.o.l.length x.o.c,.slice x.p.a x.p.S.length x.p.c]
def decideF (g:Gr) (W:List Wy):(Int×List Int×List Int×List St4)×Int :=
 let A:=existsF g W true
 let B:=existsF g W false
 if A.2.2≠0 then ((0,[],[],[]),A.2.2) else if B.2.2≠0 then ((0,[],[],[]),B.2.2) else
  if 0<A.2.1.length then ((3,A.1,B.1,A.2.1),0) else if 0<B.2.1.length then ((1,A.1,B.1,B.2.1),0) else ((2,A.1,B.1,[]),0)
structure DcK (w:World) (r:(Int×List Int×List Int×List St4)×Int) (z:CmX×Int) (w':World):Prop where
 e:((z.1.v,z.1.i.l,z.1.o.l,z.1.p.S),z.2)=r
 i:OwnT Vc.encI 1 3 w.heap.size w' z.1.i.a z.1.i.c z.1.i.l
 o:OwnT Vc.encI 1 3 w.heap.size w' z.1.o.a z.1.o.c z.1.o.l
 s:OwnT encS4 4 112 w.heap.size w' z.1.p.a z.1.p.c z.1.p.S
theorem decide29_spec (g:GrW) (wa:Option Addr) (wc:Nat) (W:List WyI) (B:Nat) (w:World) (hG:GOk w g) (hl:GLen g) (hW:WL w wa W) (hWl:∀ y∈W,WLen y) (hWh:∀ y∈W,(y.p.a=none→y.p.c=0)∧(y.n.a=none→y.n.c=0)) (hWm:W.length≤1000000) (hB:B≤w.heap.size) (hT:TabW B w) :
  RetsX Tryz.prog 7 #[.agg (encGr g).toArray,.slice wa W.length wc] w (fun z:CmX×Int=>.tuple #[.agg (encCm z.1).toArray,.int .i64 z.2]) (DcK w (decideF (grV g) (W.map wyV))):=by
 refine enter (args:=[_,_]) Tryz.func7 rfl Tryz.ntmps7 (by kernel_rfl) rfl ?_
 refine V.seq (V.region (VL.box (v:=.agg _) rfl fun b0_0 w0_0 hb0_0 e0_0 hB0_0=>VL.alloc Tryz.zeroValue34 fun b0_1 w0_1 hb0_1 e0_1 hB0_1=>VL.op (R.asI rfl) (VL.nil (V.seq (V.region (VL.op (R.ldA Tryz.isAgg25 Tryz.sizeOf25 rfl rfl ((show RowAt _ _ _ (encGr g) from (hB0_0.ext e0_1).rowAt 0 3)) rfl) (VL.op (R.mvS rfl) (VL.callX Tryz.call19 rfl (exists_spec g wa wc W true B _ (hG.ext (e0_0.trans e0_1)) hl (hW.ext (e0_0.trans e0_1)) hWl hWh hWm (Nat.le_trans hB ((e0_0.trans e0_1)).size) (hT.ext hB (e0_0.trans e0_1))) fun z w1 h1 e1=>VL.op (R.mvT rfl) (VL.op (R.extr rfl rfl) (VL.op (R.extr rfl rfl) (VL.op (R.extr rfl rfl) (VL.allocSt1 (v:=.agg _) (v2:=.slice _ _ _) Tryz.zeroValue32 Tryz.sizeOf32 rfl rfl rfl rfl rfl rfl rfl rfl rfl fun b1_7 w1_7 hb1_7 e1_7 hB1_7=>VL.op (R.asI rfl) (VL.nil (V.seq (V.seq (?_))))))))))))))))
 have hX1:=hB0_0.ext (e0_1.trans (e1.trans e1_7))
 have hC1:=hB0_1.ext (e1.trans e1_7)
 have E1:Ext w w1_7:=(e0_0.trans e0_1).trans (e1.trans e1_7)
 have s00:=e0_0.size
 have s01:=e0_1.size
 have s1:=e1.size
 have s17:=e1_7.size
 have hA:=h1.e
 refine V.region (VL.op (R.mvI rfl) (VL.op (R.neq rfl rfl) (VL.nil (V.condP rfl (fun c20=>V.seq (?_)) (fun c20=>V.skip (V.seq (?_)))))))
 ·refine V.region (VL.op (R.build Tryz.zeroValue34 Tryz.runUnderlying34 pl34 rfl) (VL.op (R.mvI rfl) (VL.store (v:=.agg _) Tryz.sizeOf34 rfl rfl rfl rfl hC1 rfl rfl fun w3 m3 hs3 hB3=>VL.op (R.asI rfl) (VL.nil (V.ret (fretCT (v:=.int _ _) rfl rfl rfl rfl rfl Tryz.isAgg34 Tryz.sizeOf34 rfl (hB3.rowAt 0 4) rfl (?_)))))))
  refine ⟨(⟨0,⟨none,0,[]⟩,⟨none,0,[]⟩,⟨none,0,[]⟩⟩,z.2.2),rfl,⟨?_,OwnT.nil _ _ _ _ _,OwnT.nil _ _ _ _ _,OwnT.nil _ _ _ _ _⟩,E1.ownA m3 fun q (hq:q=b0_1)=>by omega⟩
  unfold decideF
  rw [←hA,if_pos c20]
 ·have h0:z.2.2=0:=by simpa using c20
  refine V.region (VL.op (R.ldA Tryz.isAgg25 Tryz.sizeOf25 rfl rfl ((show RowAt _ _ _ (encGr g) from hX1.rowAt 0 3)) rfl) (VL.op (R.mvS rfl) (VL.callX Tryz.call19 rfl (exists_spec g wa wc W false B _ (hG.ext E1) hl (hW.ext E1) hWl hWh hWm (Nat.le_trans hB E1.size) (hT.ext hB E1)) fun z2 w4 h4 e4=>VL.op (R.mvT rfl) (VL.op (R.extr rfl rfl) (VL.op (R.extr rfl rfl) (VL.op (R.extr rfl rfl) (VL.allocSt1 (v:=.agg _) (v2:=.slice _ _ _) Tryz.zeroValue32 Tryz.sizeOf32 rfl rfl rfl rfl rfl rfl rfl rfl rfl fun b4_7 w4_7 hb4_7 e4_7 hB4_7=>VL.op (R.asI rfl) (VL.nil (V.seq (V.seq (?_)))))))))))
  have e47:=e4.trans e4_7
  have hX4:=hX1.ext e47
  have hC4:=hC1.ext e47
  have hP4:=hB1_7.ext e47
  have E4:Ext w w4_7:=E1.trans e47
  have s4:=e4.size
  have s47:=e4_7.size
  have hBB:=h4.e
  have lC:=hB0_1.lt
  have lP:=hB1_7.lt
  have lQ:=hB4_7.lt
  refine V.region (VL.op (R.mvI rfl) (VL.op (R.neq rfl rfl) (VL.nil (V.condP rfl (fun c31=>V.seq (?_)) (fun c31=>V.skip (V.seq (?_)))))))
  ·refine V.region (VL.op (R.build Tryz.zeroValue34 Tryz.runUnderlying34 pl34 rfl) (VL.op (R.mvI rfl) (VL.store (v:=.agg _) Tryz.sizeOf34 rfl rfl rfl rfl hC4 rfl rfl fun w6 m6 hs6 hB6=>VL.op (R.asI rfl) (VL.nil (V.ret (fretCT (v:=.int _ _) rfl rfl rfl rfl rfl Tryz.isAgg34 Tryz.sizeOf34 rfl (hB6.rowAt 0 4) rfl (?_)))))))
   refine ⟨(⟨0,⟨none,0,[]⟩,⟨none,0,[]⟩,⟨none,0,[]⟩⟩,z2.2.2),rfl,⟨?_,OwnT.nil _ _ _ _ _,OwnT.nil _ _ _ _ _,OwnT.nil _ _ _ _ _⟩,E4.ownA m6 fun q (hq:q=b0_1)=>by omega⟩
   unfold decideF
   rw [←hA,←hBB,if_neg (by simpa using h0),if_pos c31]
  ·have h02:z2.2.2=0:=by simpa using c31
   refine V.region (VL.op (R.mvS rfl) (VL.op (R.mvS rfl) (VL.op (R.build Tryz.zeroValue34 Tryz.runUnderlying34 pl34 rfl) (VL.allocSt (v:=.agg _) Tryz.zeroValue34 Tryz.sizeOf34 rfl rfl rfl rfl rfl fun b7_3 w7_3 hb7_3 e7_3 hB7_3=>VL.nil (V.seq (V.block (V.seq (?_))))))))
   have hP7:=hP4.ext e7_3
   have hQ7:=hB4_7.ext e7_3
   have hC7:=hC4.ext e7_3
   have E7:Ext w w7_3:=E4.trans e7_3
   have s73:=e7_3.size
   have hs1:=(h1.s.ext (e1_7.trans (e47.trans e7_3))).weaken (show b0_1<w0_1.heap.size from lC)
   have hs2:=(h4.s.ext (e4_7.trans e7_3)).weaken (show b0_1<w1_7.heap.size by omega)
   have hi7:=h1.o.ext (e1_7.trans (e47.trans e7_3))
   have ho7:=h4.o.ext (e4_7.trans e7_3)
   have li:=h1.o.lt
   have lo:=h4.o.lt
   have gi:=h1.o.ge
   have go:=h4.o.ge
   have lS1:=h1.s.lt
   have lS2:=h4.s.lt
   have hR7:Blk w7_3 b7_3 (.cells #[.int .i64 2,.slice z.1.a z.1.l.length z.1.c,.slice z2.1.a z2.1.l.length z2.1.c,.slice none 0 0] 34 (0,0)):=hB7_3
   have fin:∀ (v:Int) (p:PfX) (w' w'':World),Vc.Mod (Vc.one b7_3) w7_3 w'→Vc.Mod (Vc.one b0_1) w' w''→OwnT encS4 4 112 (b0_1+1) w7_3 p.a p.c p.S→(∀ q,aBlk p.a q→q<b7_3)→decideF (grV g) (W.map wyV)=((v,z.1.l,z2.1.l,p.S),0)→∃ y:CmX×Int,(.tuple #[.agg #[.int .i64 v,.slice z.1.a z.1.l.length z.1.c,.slice z2.1.a z2.1.l.length z2.1.c,.slice p.a p.S.length p.c],.int .i64 0]:Value)=.tuple #[.agg (encCm y.1).toArray,.int .i64 y.2]∧DcK w (decideF (grV g) (W.map wyV)) y w''∧Ext w w'':=fun v p w' w'' m m2 hp hpl hd=>by
    refine ⟨(⟨v,z.1,z2.1,p⟩,0),rfl,⟨hd.symm,?_,?_,?_⟩,(E7.ownA m fun q (hq:q=b7_3)=>by omega).ownA m2 fun q (hq:q=b0_1)=>by omega⟩
    ·exact ((hi7.mod m fun q h1 (h2:q=b7_3)=>by have:=li q h1;omega).mod m2 fun q h1 (h2:q=b0_1)=>by have:=gi q h1;omega).weaken (by omega)
    ·exact ((ho7.mod m fun q h1 (h2:q=b7_3)=>by have:=lo q h1;omega).mod m2 fun q h1 (h2:q=b0_1)=>by have:=go q h1;omega).weaken (by omega)
    ·exact ((hp.mod m fun q h1 (h2:q=b7_3)=>by have:=hpl q h1;omega).mod m2 fun q h1 (h2:q=b0_1)=>by have:=hp.ge q h1;omega).weaken (by omega)
   have hdF:∀ r,(if 0<z.2.1.S.length then ((3,z.1.l,z2.1.l,z.2.1.S),0) else if 0<z2.2.1.S.length then ((1,z.1.l,z2.1.l,z2.2.1.S),0) else (((2:Int),z.1.l,z2.1.l,([]:List St4)),(0:Int)))=r→decideF (grV g) (W.map wyV)=r:=fun r hr=>by
    unfold decideF
    rw [←hA,←hBB,if_neg (by simpa using h0),if_neg (by simpa using h02)]
    exact hr
   refine V.region (VL.op (R.fld' (o:=0) Tryz.runUnderlying32 rfl rfl Tryz.sizeOf30 rfl rfl) (VL.op (R.ld1 Tryz.isAgg30 rfl ((show _=some (Value.slice z.2.1.a z.2.1.S.length z.2.1.c) from hP7.cell 0))) (VL.op (R.lenS Tryz.runUnderlying30 rfl) (VL.op (R.gtr rfl rfl) (VL.op (R.asB rfl) (VL.nil (V.condP rfl (fun c37=>?_) (fun c37=>V.seq (?_)))))))))
   ·refine V.regionW mixed 3 2 (by kernel_rfl) rfl (fun w'=>Ext _ w') (fun w'=>PutC w7_3 b7_3 #[.int .i64 3,.slice z.1.a z.1.l.length z.1.c,.slice z2.1.a z2.1.l.length z2.1.c,.slice none 0 0] 34 w') (Ext.drawn _) (VW.op (fun wq hq=>R.ldA Tryz.isAgg32 Tryz.sizeOf32 rfl rfl ((show RowAt wq _ _ (encPf z.2.1) from hq.elim (fun h=>(hP7.ext h).rowAt 0 1) (fun h=>(hP7.mod h.1 (fun (hh:b1_7=b7_3)=>by omega)).rowAt 0 1))) rfl) (VW.op (fun wq eq=>R.fld' (o:=0) Tryz.runUnderlying34 rfl rfl Tryz.sizeOf3 rfl rfl) (VW.wr0 (fun wq eq=>R.storeB (v:=.int _ _) Tryz.sizeOf3 rfl rfl rfl rfl (hR7.ext eq) rfl rfl ((fun w' m hB=>⟨eq.mod.then m fun _ _ h=>h,hB⟩))) (VW.nil fun w9 h9=>VL.op (R.fld' (o:=3) Tryz.runUnderlying34 rfl rfl Tryz.sizeOf32 rfl rfl) (VL.store (v:=.agg _) Tryz.sizeOf32 rfl rfl rfl rfl h9.2 rfl rfl fun w10 m10 hs10 hB10=>VL.nil (V.seq (?_)))))))
    have hR10:Blk w10 b7_3 (.cells #[.int .i64 3,.slice z.1.a z.1.l.length z.1.c,.slice z2.1.a z2.1.l.length z2.1.c,.slice z.2.1.a z.2.1.S.length z.2.1.c] 34 (0,0)):=hB10
    have M10:Vc.Mod (Vc.one b7_3) w7_3 w10:=h9.1.then m10 fun _ _ h=>h
    refine V.region (VL.op (R.ldA Tryz.isAgg34 Tryz.sizeOf34 rfl rfl ((hR10.rowAt 0 4)) rfl) (VL.store (v:=.agg _) Tryz.sizeOf34 rfl rfl rfl rfl (hC7.mod M10 (fun (hh:b0_1=b7_3)=>by omega)) rfl rfl fun w12 m12 hs12 hB12=>VL.op (R.asI rfl) (VL.nil (V.ret (fretCT (v:=.int _ _) rfl rfl rfl rfl rfl Tryz.isAgg34 Tryz.sizeOf34 rfl (hB12.rowAt 0 4) rfl (?_))))))
    exact fin 3 z.2.1 w10 w12 M10 m12 hs1 (fun q hq=>by have:=lS1 q hq;omega) (hdF _ (if_pos (by omega)))
   ·refine V.region (VL.op (R.fld' (o:=0) Tryz.runUnderlying32 rfl rfl Tryz.sizeOf30 rfl rfl) (VL.op (R.ld1 Tryz.isAgg30 rfl ((show _=some (Value.slice z2.2.1.a z2.2.1.S.length z2.2.1.c) from hQ7.cell 0))) (VL.op (R.lenS Tryz.runUnderlying30 rfl) (VL.op (R.gtr rfl rfl) (VL.op (R.asB rfl) (VL.nil (V.condP rfl (fun c45=>?_) (fun c45=>V.skip (V.seq (?_))))))))))
    ·refine V.regionW mixed 3 2 (by kernel_rfl) rfl (fun w'=>Ext _ w') (fun w'=>PutC w7_3 b7_3 #[.int .i64 1,.slice z.1.a z.1.l.length z.1.c,.slice z2.1.a z2.1.l.length z2.1.c,.slice none 0 0] 34 w') (Ext.drawn _) (VW.op (fun wq hq=>R.ldA Tryz.isAgg32 Tryz.sizeOf32 rfl rfl ((show RowAt wq _ _ (encPf z2.2.1) from hq.elim (fun h=>(hQ7.ext h).rowAt 0 1) (fun h=>(hQ7.mod h.1 (fun (hh:b4_7=b7_3)=>by omega)).rowAt 0 1))) rfl) (VW.op (fun wq eq=>R.fld' (o:=0) Tryz.runUnderlying34 rfl rfl Tryz.sizeOf3 rfl rfl) (VW.wr0 (fun wq eq=>R.storeB (v:=.int _ _) Tryz.sizeOf3 rfl rfl rfl rfl (hR7.ext eq) rfl rfl ((fun w' m hB=>⟨eq.mod.then m fun _ _ h=>h,hB⟩))) (VW.nil fun w9 h9=>VL.op (R.fld' (o:=3) Tryz.runUnderlying34 rfl rfl Tryz.sizeOf32 rfl rfl) (VL.store (v:=.agg _) Tryz.sizeOf32 rfl rfl rfl rfl h9.2 rfl rfl fun w10 m10 hs10 hB10=>VL.nil (V.seq (?_)))))))
     have hR10:Blk w10 b7_3 (.cells #[.int .i64 1,.slice z.1.a z.1.l.length z.1.c,.slice z2.1.a z2.1.l.length z2.1.c,.slice z2.2.1.a z2.2.1.S.length z2.2.1.c] 34 (0,0)):=hB10
     have M10:Vc.Mod (Vc.one b7_3) w7_3 w10:=h9.1.then m10 fun _ _ h=>h
     refine V.region (VL.op (R.ldA Tryz.isAgg34 Tryz.sizeOf34 rfl rfl ((hR10.rowAt 0 4)) rfl) (VL.store (v:=.agg _) Tryz.sizeOf34 rfl rfl rfl rfl (hC7.mod M10 (fun (hh:b0_1=b7_3)=>by omega)) rfl rfl fun w12 m12 hs12 hB12=>VL.op (R.asI rfl) (VL.nil (V.ret (fretCT (v:=.int _ _) rfl rfl rfl rfl rfl Tryz.isAgg34 Tryz.sizeOf34 rfl (hB12.rowAt 0 4) rfl (?_))))))
     exact fin 1 z2.2.1 w10 w12 M10 m12 hs2 (fun q hq=>by have:=lS2 q hq;omega) (hdF _ (by rw [if_neg (by omega),if_pos (by omega)]))
    ·refine V.region (VL.op (R.ldA Tryz.isAgg34 Tryz.sizeOf34 rfl rfl ((hR7.rowAt 0 4)) rfl) (VL.store (v:=.agg _) Tryz.sizeOf34 rfl rfl rfl rfl hC7 rfl rfl fun w12 m12 hs12 hB12=>VL.op (R.asI rfl) (VL.nil (V.ret (fretCT (v:=.int _ _) rfl rfl rfl rfl rfl Tryz.isAgg34 Tryz.sizeOf34 rfl (hB12.rowAt 0 4) rfl (?_))))))
     exact fin 2 ⟨none,0,[]⟩ w7_3 w12 (Vc.Mod.refl _ _) m12 (OwnT.nil _ _ _ _ _) (fun q hq=>absurd hq (Sep.nil none q hq)) (hdF _ (by rw [if_neg (by omega),if_neg (by omega)]))
end Go.Proofs.YtjocoefpnboccaaGreatDoor

/- Solve: what is answered. Plain. -/
namespace Go.Proofs.YtjocoefpnboccaaGreatDoor
open Go.Vc
structure FstR (g:Gr) (W:List Wy) (h:Bool) (R:List Int):Prop where
 r:IsRep g R
 s:someW W R=h
 f:∀ X,IsRep g X→someW W X=h→X=R∨lexB R X=true
theorem checkA_pos {g:Gr} {W:List Wy} {h:Bool} {S:List St4} (hk:checkA g W h S=true):0<S.length∧S.length≤100000:=by
 unfold checkA at hk
 rw [Bool.and_eq_true,Bool.and_eq_true,decide_eq_true_eq] at hk
 exact hk.2.1
theorem exists_cases {g:Gr} {W:List Wy} {h:Bool} (he:errG g W=0):(∃ R,existsF g W h=(R,[],0)∧FstR g W h R)∨(∃ S,existsF g W h=([],S,0)∧checkA g W h S=true)∨existsF g W h=([],[],3):=by
 have hr:=err_ready he
 have hord:=ord_ok hr
 unfold existsF
 rw [if_pos he]
 unfold srchG
 cases hs:srchF ⟨g.n,g.edges,W,h,[]⟩ 100000 (sgN g W++ptN g W) (-1) (zerS g) [] with
 | full=>exact .inr (.inr rfl)
 | found st =>
  obtain ⟨h1,h2,h3,h4⟩:=srch_best hr hord hs
  exact .inl ⟨_,rfl,(ext_rep h2).1,h3,h4⟩
 | proof S=>exact .inr (.inl ⟨S,rfl,srch_check hr hord.rng hord.nd hs⟩)
theorem decide_cases {g:Gr} {W:List Wy} (he:errG g W=0) :
  (∃ R Q,decideF g W=((2,R,Q,[]),0)∧existsF g W true=(R,[],0)∧existsF g W false=(Q,[],0)∧FstR g W true R∧FstR g W false Q)∨(∃ R S,decideF g W=((1,R,[],S),0)∧existsF g W true=(R,[],0)∧existsF g W false=([],S,0)∧FstR g W true R∧checkA g W false S=true)∨(∃ Q S,decideF g W=((3,[],Q,S),0)∧existsF g W true=([],S,0)∧existsF g W false=(Q,[],0)∧FstR g W false Q∧checkA g W true S=true) ∨
  (decideF g W=((0,[],[],[]),3)∧(existsF g W true=([],[],3)∨existsF g W false=([],[],3))):=by
 unfold decideF
 rcases exists_cases (h:=true) he with ⟨R,h1,h2⟩ | ⟨S,h1,h2⟩ | h1
 ·rcases exists_cases (h:=false) he with ⟨Q,h3,h4⟩ | ⟨T,h3,h4⟩ | h3
  ·rw [h1,h3];exact .inl ⟨R,Q,rfl,rfl,rfl,h2,h4⟩
  ·rw [h1,h3]
   refine .inr (.inl ⟨R,T,?_,rfl,rfl,h2,h4⟩)
   dsimp only
   rw [if_neg (by decide),if_neg (by decide),if_neg (by decide),if_pos (checkA_pos h4).1]
  ·rw [h1,h3];exact .inr (.inr (.inr ⟨rfl,.inr rfl⟩))
 ·have hp:=(checkA_pos h2).1
  rcases exists_cases (h:=false) he with ⟨Q,h3,h4⟩ | ⟨T,h3,h4⟩ | h3
  ·rw [h1,h3]
   refine .inr (.inr (.inl ⟨Q,S,?_,rfl,rfl,h4,h2⟩))
   dsimp only
   rw [if_neg (by decide),if_neg (by decide),if_pos hp]
  ·exfalso
   have hv:=(ready_ok (err_ready he) true []).v
   obtain ⟨X,hX⟩:=List.exists_mem_of_ne_nil _ (reps_ne hv)
   have hX:=(reps_mem hv).1 hX
   have a1:=check_sound h2 hX
   have a2:=check_sound h4 hX
   rw [a1] at a2;cases a2
  ·rw [h1,h3];exact .inr (.inr (.inr ⟨rfl,.inr rfl⟩))
 ·rw [h1];exact .inr (.inr (.inr ⟨rfl,.inl rfl⟩))
end Go.Proofs.YtjocoefpnboccaaGreatDoor
