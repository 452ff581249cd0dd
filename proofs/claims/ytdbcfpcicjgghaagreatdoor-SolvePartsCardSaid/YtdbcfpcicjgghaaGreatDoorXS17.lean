/- Solve: a repair in which some way holds, or none does. -/
import Derived.Test.YtdbcfpcicjgghaaGreatDoorXS13
import Derived.Test.YtdbcfpcicjgghaaGreatDoorXN9
import Derived.Test.YtdbcfpcicjgghaaGreatDoorXVcTct
import Derived.Test.YtdbcfpcicjgghaaGreatDoorXQ1
namespace Go.Proofs.YtdbcfpcicjgghaaGreatDoor
set_option maxHeartbeats 16000000
open Go.Vc
set_option maxRecDepth 100000
set_option maxHeartbeats 16000000
structure PfX where
 a:Option Addr
 c:Nat
 S:List St4
def encPf (p:PfX):List Value:=[.slice p.a p.S.length p.c]
def srchG (g:Gr) (W:List Wy) (h:Bool):Srch:=srchF ⟨g.n,g.edges,W,h,[]⟩ 100000 (sgN g W++ptN g W) (-1) (zerS g) []
def existsF (g:Gr) (W:List Wy) (h:Bool):List Int×List St4×Int :=
 if errG g W=0 then
  match srchG g W h with
  | .full=>([],[],3)
  | .found st=>(extF g (insA st g.n.toNat),[],0)
  | .proof S=>([],S,0)
 else ([],[],errG g W)
structure ExK (w:World) (r:List Int×List St4×Int) (z:SlI×PfX×Int) (w':World):Prop where
 e:(z.1.l,z.2.1.S,z.2.2)=r
 o:OwnT Vc.encI 1 3 w.heap.size w' z.1.a z.1.c z.1.l
 s:OwnT encS4 4 106 w.heap.size w' z.2.1.a z.2.1.c z.2.1.S
theorem insA_len (s:List Int) (k:Nat):(insA s k).length≤k:=by
 unfold insA
 rw [List.length_map]
 exact Nat.le_trans (List.length_filter_le _ _) (Nat.le_of_eq List.length_range)
theorem insA_succ (s:List Int) (k:Nat):insA s (k+1)=insA s k++if s.getD k default=1 then [((k:Nat):Int)] else []:=by
 unfold insA
 rw [List.range_succ,List.filter_append,List.map_append]
 congr 1
 by_cases h:s.getD k default=1
 ·rw [if_pos h,List.filter_cons,if_pos (decide_eq_true h)];rfl
 ·rw [if_neg h,List.filter_cons,if_neg (by rw [decide_eq_false h];decide)];rfl
theorem err_ready {g:Gr} {W:List Wy} (h:errG g W=0):readyG g W=true:=by
 unfold errG at h
 by_cases e:readyG g W=true
 ·exact e
 ·rw [if_neg e] at h;cases h
theorem exists_spec (g:GrW) (wa:Option Addr) (wc:Nat) (W:List WyI) (h:Bool) (B:Nat) (w:World) (hG:GOk w g) (hl:GLen g) (hW:WL w wa W) (hWl:∀ y∈W,WLen y) (hWh:∀ y∈W,(y.p.a=none→y.p.c=0)∧(y.n.a=none→y.n.c=0)) (hWm:W.length≤1000000) (hB:B≤w.heap.size) (hT:TabW B w) :
  RetsX Tryz.prog 16 #[.agg (encGr g).toArray,.slice wa W.length wc,.bool h] w (fun z:SlI×PfX×Int=>.tuple #[.slice z.1.a z.1.l.length z.1.c,.agg (encPf z.2.1).toArray,.int .i64 z.2.2]) (ExK w (existsF (grV g) (W.map wyV) h)):=by
 refine enter (args:=[_,_,_]) Tryz.func16 rfl Tryz.ntmps16 (by kernel_rfl) rfl ?_
 refine V.seq (V.region (VL.box (v:=.agg _) rfl fun b0_0 w0_0 hb0_0 e0_0 hB0_0=>VL.op (R.asS rfl) (VL.alloc Tryz.zeroValue31 fun b0_2 w0_2 hb0_2 e0_2 hB0_2=>VL.op (R.asI rfl) (VL.nil (V.seq (V.region (VL.op (R.ldA Tryz.isAgg25 Tryz.sizeOf25 rfl rfl ((show RowAt _ _ _ (encGr g) from (hB0_0.ext e0_2).rowAt 0 3)) rfl) (VL.op (R.mvS rfl) (VL.op (R.mvB rfl) (VL.callX Tryz.call35 rfl (begin29_spec g wa wc W h B _ (hG.ext (e0_0.trans e0_2)) hl (hW.ext (e0_0.trans e0_2)) hWl hWh hWm (Nat.le_trans hB ((e0_0.trans e0_2)).size) (hT.ext hB (e0_0.trans e0_2))) fun z w1 h1 e1=>VL.op (R.mvT rfl) (VL.op (R.extr rfl rfl) (VL.op (R.extr rfl rfl) (VL.op (R.asP rfl) (VL.op (R.asI rfl) (VL.nil (V.seq (V.seq (?_))))))))))))))))))
 have hX1:=hB0_0.ext (e0_2.trans e1)
 have hC1:=hB0_2.ext e1
 have E1:Ext w w1:=(e0_0.trans e0_2).trans e1
 have s02:=e0_0.size
 have s12:=e0_2.size
 have s11:=e1.size
 refine V.region (VL.op (R.mvI rfl) (VL.op (R.neq rfl rfl) (VL.nil (V.condP rfl (fun c23=>V.seq (?_)) (fun c23=>V.skip (V.seq (?_)))))))
 ·have hne:z.2≠0:=c23
  refine V.region (VL.op (R.build Tryz.zeroValue31 Tryz.runUnderlying31 pl31 rfl) (VL.op (R.mvI rfl) (VL.op (R.asS rfl) (VL.store (v:=.agg _) Tryz.sizeOf31 rfl rfl rfl rfl hC1 rfl rfl fun w3 m3 hs3 hB3=>VL.op (R.asI rfl) (VL.nil (V.ret (fretTCT (x:=.slice _ _ _) (v:=.int _ _) rfl rfl rfl rfl rfl rfl rfl Tryz.isAgg31 Tryz.sizeOf31 rfl (hB3.rowAt 0 1) rfl (?_))))))))
  refine ⟨(⟨none,0,[]⟩,⟨none,0,[]⟩,z.2),rfl,⟨?_,OwnT.nil _ _ _ _ _,OwnT.nil _ _ _ _ _⟩,E1.ownA m3 fun q (hq:q=b0_2)=>by omega⟩
  rw [h1.e] at hne ⊢
  unfold existsF
  rw [if_neg hne]
 ·have h0:z.2=0:=by simpa using c23
  have hE:=h1.e
  rw [h0] at hE
  have hr:=err_ready hE.symm
  have hv:validG (grV g)=true:=(ready_ok hr h []).v
  obtain ⟨x,N,hz1,hxg,hxW,hxh,hxO,hN,hR,hSv,hxL,hxT⟩:=h1.ok h0
  rw [hz1]
  have hord:=ord_ok hr
  have hctx:x.ctx=⟨(grV g).n,(grV g).edges,W.map wyV,h,[]⟩:=by unfold SvX.ctx;rw [hxg,hxW,hxh];rfl
  have hzer:zerS (grV g)=List.replicate N 0:=by unfold zerS;rw [show (grV g).n=g.n from rfl,hN];rfl
  have hex:existsF (grV g) (W.map wyV) h=match srchF x.ctx 100000 (sgN (grV g) (W.map wyV)++ptN (grV g) (W.map wyV)) (-1) (List.replicate N 0) [] with
   | .full=>([],[],3)
   | .found st=>(extF (grV g) (insA st N),[],0)
   | .proof S=>([],S,0):=by
   unfold existsF srchG
   rw [if_pos hE.symm,←hctx,hzer,show (grV g).n.toNat=N by rw [show (grV g).n=g.n from rfl,hN];rfl]
  have hlo:x.O.length≤1000000:=by
   rw [hxO]
   unfold orI
   rw [List.length_append]
   have h1:=sgL_len (W.map wyV) (compsG (grV g))
   have h2:=ncomps_len hv
   have h3:=(costB_iff.1 (validG_iff.1 hv).1).2.1
   have h4:(ptI (grV g) (W.map wyV)).length≤40:=by
    unfold errG at hE
    rw [if_pos hr] at hE
    split at hE
    ·cases hE
    ·omega
   omega
  refine V.region (VL.op (R.mvP rfl) (VL.callY Tryz.call36 rfl (ends_spec x N hR (sgN (grV g) (W.map wyV)++ptN (grV g) (W.map wyV)) (by rw [hxO];exact orI_eq hv _) hlo (List.replicate N 0) w1 (fun v hv=>⟨by have:=hord.rng v hv;rw [show (grV g).n=g.n from rfl,hN] at this;omega,by have:=zerS_at (grV g) (v:Int);rwa [hzer] at this⟩) hord.nd (List.length_replicate) hSv hxL) fun o w4 h4=>VL.op (R.asP rfl) (VL.nil (V.seq (V.seq (?_))))))
  obtain ⟨U,st,S,hU,⟨⟨sa,sc,hk⟩,hm⟩,hor⟩:=h4.r
  have hTl:∀ q,SvX.T { x with U:=U } q→w0_2.heap.size≤q:=fun q hq=>by
   rcases hq with h | h | h
   ·exact hxT q (.inl h)
   ·exact hxT q (.inr (.inl h))
   ·dsimp only at h;omega
  have E4:Ext w w4:=E1.ownA hm fun q hq=>by have:=hTl q hq;omega
  have hX4:=hX1.mod hm fun hq=>by have:=hTl _ hq;have:=hB0_0.lt;omega
  have hC4:=hC1.mod hm fun hq=>by have:=hTl _ hq;have:=hB0_2.lt;omega
  have s14:=hm.size
  rcases hor with ⟨ho,hrS,hst⟩ | ⟨q,b,ho,hQ,hbF,hbT,hst⟩
  ·rw [ho]
   rw [hrS] at hex
   have hpC:x.p≠b0_2:=fun hh=>by have:=hxT x.p (.inr (.inl rfl));have:=hB0_2.lt;omega
   refine V.region (VL.op (R.mvP rfl) (VL.op (R.lit (R.eqlPn Tryz.runUnderlying69 rfl rfl) (rfl)) (VL.nil (V.condT rfl (V.seq (V.regionQ mixed 6 (by kernel_rfl) rfl (fun w'=>Ext _ w') (Ext.drawn _) (VQ.op (fun wq eq=>R.mvP rfl) (VQ.op (fun wq eq=>R.nilCheck rfl) (VQ.op (fun wq eq=>R.fld' (o:=8) Tryz.runUnderlying73 rfl rfl Tryz.sizeOf29 rfl rfl) (VQ.op (fun wq eq=>R.ld1 Tryz.isAgg29 rfl ((show wq.cell? ⟨x.p,8,none⟩=some (Value.slice sa S.length sc) from (hk.blk.ext eq).cell 8))) (VQ.op (fun wq eq=>R.build Tryz.zeroValue31 Tryz.runUnderlying31 pl31 rfl) (VQ.op (fun wq eq=>R.asS rfl) (VQ.nil fun w6q e6q=>VL.store (v:=.agg _) Tryz.sizeOf31 rfl rfl rfl rfl (hC4.ext e6q) rfl rfl fun w6 m6 hs6 hB6=>VL.op (R.asI rfl) (VL.nil (V.ret (fretTCT (x:=.slice _ _ _) (v:=.int _ _) rfl rfl rfl rfl rfl rfl rfl Tryz.isAgg31 Tryz.sizeOf31 rfl (hB6.rowAt 0 1) rfl (?_)))))))))))))))))
   refine ⟨(⟨none,0,[]⟩,⟨sa,sc,S⟩,0),rfl,⟨hex.symm,OwnT.nil _ _ _ _ _,?_⟩,?_⟩
   ·exact ((hk.s.ext e6q).mod m6 fun q h1 (h2:q=b0_2)=>by have:=hk.s.ge q h1;have:=hB0_2.lt;dsimp only at *;omega).weaken (by have:=E1.size;dsimp only;omega)
   ·exact (show Ext w w6q from E4.trans e6q).ownA m6 fun q (hq:q=b0_2)=>by omega
  ·rw [ho]
   refine V.region (VL.op (R.mvP rfl) (VL.op (R.lit (R.eqlPn Tryz.runUnderlying69 rfl rfl) (rfl)) (VL.nil (V.condF rfl (V.skip (V.seq (V.seq (V.region (VL.op (R.mvP rfl) (VL.op (R.nilCheck rfl) (VL.op (R.fld' (o:=0) Tryz.runUnderlying75 rfl rfl Tryz.sizeOf4 rfl rfl) (VL.op (R.ld1 Tryz.isAgg4 rfl ((show _=some (Value.bool b) from hQ.cell 0))) (VL.op (R.not rfl) (VL.nil (V.cond rfl (fun c39=>V.seq (?_)) (fun c39=>V.skip (V.seq (?_))))))))))))))))))
   ·have hb:b=false:=by simpa using c39
    rw [hbF hb] at hex
    refine V.region (VL.op (R.build Tryz.zeroValue31 Tryz.runUnderlying31 pl31 rfl) (VL.op (R.asS rfl) (VL.store (v:=.agg _) Tryz.sizeOf31 rfl rfl rfl rfl hC4 rfl rfl fun w8 m8 hs8 hB8=>VL.op (R.asI rfl) (VL.nil (V.ret (fretTCT (x:=.slice _ _ _) (v:=.int _ _) rfl rfl rfl rfl rfl rfl rfl Tryz.isAgg31 Tryz.sizeOf31 rfl (hB8.rowAt 0 1) rfl (?_)))))))
    exact ⟨(⟨none,0,[]⟩,⟨none,0,[]⟩,3),rfl,⟨hex.symm,OwnT.nil _ _ _ _ _,OwnT.nil _ _ _ _ _⟩,E4.ownA m8 fun q (hq:q=b0_2)=>by omega⟩
   ·have hb:b=true:=by simpa using c39
    rw [hbT hb] at hex
    obtain ⟨tb,htb⟩:∃ tb,tb=x.tb:=⟨_,rfl⟩
    have ht:=hk.t
    have hN4:=hR.N4
    dsimp only at ht
    rw [←htb] at ht
    obtain ⟨hl1,hload,-,-⟩:=srch_best (h:=h) (M:=100000) (s':=st) hr hord (by rw [←hctx,hzer];exact hbT hb)
    refine V.region (VL.op (R.asS rfl) (VL.nil (V.seq (V.seq (V.region (VL.op (R.mvP rfl) (VL.op (R.nilCheck rfl) (VL.op (R.fld' (o:=7) Tryz.runUnderlying73 rfl rfl Tryz.sizeOf22 rfl rfl) (VL.op (R.ld1 Tryz.isAgg22 rfl ((show _=some (Value.slice (some ⟨tb,0,none⟩) st.length st.length) from by rw [htb];exact hk.blk.cell 7))) (VL.op (R.lenS Tryz.runUnderlying22 rfl) (VL.op (R.mvI rfl) (VL.nil (V.block (?_))))))))))))))
    refine V.loop [3,7,12,44,45,46] (fun x:Nat×Option Addr×Nat=>[.pointer (some ⟨b0_0,0,none⟩),.pointer (some ⟨b0_2,0,none⟩),.slice x.2.1 (insA st x.1).length x.2.2,.slice (some ⟨tb,0,none⟩) st.length st.length,.int .i64 (st.length:Nat),.int .i64 (x.1:Nat)])
     (fun x w'=>x.1≤st.length∧OwnT Vc.encI 1 3 w4.heap.size w' x.2.1 x.2.2 (insA st x.1)∧Ext w4 w') (fun x=>st.length-x.1) (0,none,0) rfl ⟨Nat.zero_le _,OwnT.nil _ _ _ _ _,Vc.Mod.refl _ _⟩ ?_
    rintro ρ ⟨k,a12,c12⟩ w5 ⟨hk5,ho5,e5⟩
    dsimp only at hk5 ho5 e5 ⊢
    have ht5:=(ht.ext e5)
    refine V.seq (V.region (VL.op (R.lss rfl rfl) (VL.nil (V.seq (V.condP rfl (fun c47=>V.skip (V.seq (V.block (V.seq (?_))))) (fun c47=>V.exit (V.seq (?_))))))))
    ·have hkl:k<st.length:=by omega
     refine V.region (VL.op (R.mvI rfl) (VL.op (R.ixS Tryz.runUnderlying22 Tryz.sizeOf3 rfl rfl (by omega) (by omega) (ht5.sl.some (i:=k) hkl)) (VL.op (R.ld1 Tryz.isAgg3 rfl (((ht5.sl.row (i:=k) hkl).cell (i:=0) rfl))) (VL.op (R.asI rfl) (VL.op (R.asI rfl) (VL.nil (V.seq (V.region (VL.op (R.mvI rfl) (VL.op (R.eql rfl rfl) (VL.nil (V.condP rfl (fun c52=>?_) (fun c52=>V.skip (V.region (VL.op (R.add rfl rfl (by omega) (by omega)) (VL.op (R.mvI rfl) (VL.nil (?_))))))))))))))))))
     ·refine V.region (VL.op (R.mvS rfl) (VL.op (R.mvI rfl) (VL.append1 el22 Tryz.runUnderlying22 Tryz.sizeOf3 Tryz.zeroValue3 rfl (((k:Nat):Int)) rfl rfl rfl ho5 rfl rfl rfl (by have:=insA_len st k;omega) (by have:=insA_len st k;unfold maxLen;omega) e5.size fun a14 c14 w14 vt14 ho14 m14 hf14=>VL.op (R.asS rfl) (VL.nil (V.region (VL.op (R.add rfl rfl (by omega) (by omega)) (VL.op (R.mvI rfl) (VL.nil (?_)))))))))
      have hs1:insA st (k+1)=insA st k++[((k:Nat):Int)]:=by rw [insA_succ,if_pos c52]
      refine ⟨(k+1,a14,c14),?_,⟨by dsimp only;omega,by dsimp only;rw [hs1];exact ho14,e5.ownA m14 fun q hq=>ho5.ge q hq⟩,by dsimp only;omega⟩
      dsimp only;rw [hs1,List.length_append];rfl
     ·have hs1:insA st (k+1)=insA st k:=by rw [insA_succ,if_neg c52,List.append_nil]
      refine ⟨(k+1,a12,c12),?_,⟨by dsimp only;omega,by dsimp only;rw [hs1];exact ho5,e5⟩,by dsimp only;omega⟩
      dsimp only;rw [hs1];rfl
    ·have hke:k=N:=by omega
     have E5:Ext w w5:=E4.trans e5
     have hla:=insA_len st k
     refine V.region (VL.op (R.ldA Tryz.isAgg25 Tryz.sizeOf25 rfl rfl ((show RowAt _ _ _ (encGr g) from (hX4.ext e5).rowAt 0 3)) rfl) (VL.op (R.mvS rfl) (VL.callX Tryz.call21 rfl (extend_spec g a12 c12 (insA st k) B _ (hG.ext E5) hl ho5.sl (by omega) (Nat.le_trans hB E5.size) (hT.ext hB E5)) fun z6 w6 h6 e6=>VL.op (R.mvT rfl) (VL.op (R.extr rfl rfl) (VL.op (R.extr rfl rfl) (VL.op (R.asS rfl) (VL.op (R.asI rfl) (VL.nil (V.seq (V.region (VL.op (R.mvS rfl) (VL.op (R.build Tryz.zeroValue31 Tryz.runUnderlying31 pl31 rfl) (VL.op (R.mvI rfl) (VL.op (R.asS rfl) (VL.store (v:=.agg _) Tryz.sizeOf31 rfl rfl rfl rfl (hC4.ext (e5.trans e6)) rfl rfl fun w17 m17 hs17 hB17=>VL.op (R.asI rfl) (VL.nil (V.ret (fretTCT (x:=.slice _ _ _) (v:=.int _ _) rfl rfl rfl rfl rfl rfl rfl Tryz.isAgg31 Tryz.sizeOf31 rfl (hB17.rowAt 0 1) rfl (?_)))))))))))))))))))
     have hke':k=(grV g).n.toNat:=by rw [show (grV g).n=g.n from rfl,hN,hke];rfl
     obtain ⟨ho6,hv6⟩:=h6
     rw [hke',hload,if_pos rfl] at hv6
     injection hv6 with hv6 hv7
     have s45:=e5.size
     have s56:=e6.size
     have s5:=E5.size
     refine ⟨(z6.1,⟨none,0,[]⟩,z6.2),rfl,⟨?_,?_,OwnT.nil _ _ _ _ _⟩,(show Ext w w6 from E5.trans e6).ownA m17 fun q (hq:q=b0_2)=>by omega⟩
     ·rw [hex]
      show (z6.1.l,_,z6.2)=_
      rw [hv6,hv7,←hke',hke]
     ·exact (ho6.mod m17 fun q h1 (h2:q=b0_2)=>by have:=ho6.ge q h1;have:=hC4.lt;omega).weaken s5
end Go.Proofs.YtdbcfpcicjgghaaGreatDoor

/- Solve: the verdict. -/
namespace Go.Proofs.YtdbcfpcicjgghaaGreatDoor
open Go.Vc
set_option maxRecDepth 100000
set_option maxHeartbeats 16000000
structure CmX where
 v:Int
 i:SlI
 o:SlI
 p:PfX
def encCm (x:CmX):List Value:=[.int .i64 x.v,.slice x.i.a x.i.l.length x.i.c,.slice x.o.a x.o.l.length x.o.c,.slice x.p.a x.p.S.length x.p.c]
def decideF (g:Gr) (W:List Wy):(Int×List Int×List Int×List St4)×Int :=
 let A:=existsF g W true
 let B:=existsF g W false
 if A.2.2≠0 then ((0,[],[],[]),A.2.2) else if B.2.2≠0 then ((0,[],[],[]),B.2.2) else
  if 0<A.2.1.length then ((3,A.1,B.1,A.2.1),0) else if 0<B.2.1.length then ((1,A.1,B.1,B.2.1),0) else ((2,A.1,B.1,[]),0)
structure DcK (w:World) (r:(Int×List Int×List Int×List St4)×Int) (z:CmX×Int) (w':World):Prop where
 e:((z.1.v,z.1.i.l,z.1.o.l,z.1.p.S),z.2)=r
 i:OwnT Vc.encI 1 3 w.heap.size w' z.1.i.a z.1.i.c z.1.i.l
 o:OwnT Vc.encI 1 3 w.heap.size w' z.1.o.a z.1.o.c z.1.o.l
 s:OwnT encS4 4 106 w.heap.size w' z.1.p.a z.1.p.c z.1.p.S
theorem decide29_spec (g:GrW) (wa:Option Addr) (wc:Nat) (W:List WyI) (B:Nat) (w:World) (hG:GOk w g) (hl:GLen g) (hW:WL w wa W) (hWl:∀ y∈W,WLen y) (hWh:∀ y∈W,(y.p.a=none→y.p.c=0)∧(y.n.a=none→y.n.c=0)) (hWm:W.length≤1000000) (hB:B≤w.heap.size) (hT:TabW B w) :
  RetsX Tryz.prog 13 #[.agg (encGr g).toArray,.slice wa W.length wc] w (fun z:CmX×Int=>.tuple #[.agg (encCm z.1).toArray,.int .i64 z.2]) (DcK w (decideF (grV g) (W.map wyV))):=by
 refine enter (args:=[_,_]) Tryz.func13 rfl Tryz.ntmps13 (by kernel_rfl) rfl ?_
 refine V.seq (V.region (VL.box (v:=.agg _) rfl fun b0_0 w0_0 hb0_0 e0_0 hB0_0=>VL.alloc Tryz.zeroValue33 fun b0_1 w0_1 hb0_1 e0_1 hB0_1=>VL.op (R.asI rfl) (VL.nil (V.seq (V.region (VL.op (R.ldA Tryz.isAgg25 Tryz.sizeOf25 rfl rfl ((show RowAt _ _ _ (encGr g) from (hB0_0.ext e0_1).rowAt 0 3)) rfl) (VL.op (R.mvS rfl) (VL.callX Tryz.call16 rfl (exists_spec g wa wc W true B _ (hG.ext (e0_0.trans e0_1)) hl (hW.ext (e0_0.trans e0_1)) hWl hWh hWm (Nat.le_trans hB ((e0_0.trans e0_1)).size) (hT.ext hB (e0_0.trans e0_1))) fun z w1 h1 e1=>VL.op (R.mvT rfl) (VL.op (R.extr rfl rfl) (VL.op (R.extr rfl rfl) (VL.op (R.extr rfl rfl) (VL.allocSt1 (v:=.agg _) (v2:=.slice _ _ _) Tryz.zeroValue31 Tryz.sizeOf31 rfl rfl rfl rfl rfl rfl rfl rfl rfl fun b1_7 w1_7 hb1_7 e1_7 hB1_7=>VL.op (R.asI rfl) (VL.nil (V.seq (V.seq (?_))))))))))))))))
 have hX1:=hB0_0.ext (e0_1.trans (e1.trans e1_7))
 have hC1:=hB0_1.ext (e1.trans e1_7)
 have E1:Ext w w1_7:=(e0_0.trans e0_1).trans (e1.trans e1_7)
 have s00:=e0_0.size
 have s01:=e0_1.size
 have s1:=e1.size
 have s17:=e1_7.size
 have hA:=h1.e
 refine V.region (VL.op (R.mvI rfl) (VL.op (R.neq rfl rfl) (VL.nil (V.condP rfl (fun c20=>V.seq (?_)) (fun c20=>V.skip (V.seq (?_)))))))
 ·refine V.region (VL.op (R.build Tryz.zeroValue33 Tryz.runUnderlying33 pl33 rfl) (VL.op (R.mvI rfl) (VL.store (v:=.agg _) Tryz.sizeOf33 rfl rfl rfl rfl hC1 rfl rfl fun w3 m3 hs3 hB3=>VL.op (R.asI rfl) (VL.nil (V.ret (fretCT (v:=.int _ _) rfl rfl rfl rfl rfl Tryz.isAgg33 Tryz.sizeOf33 rfl (hB3.rowAt 0 4) rfl (?_)))))))
  refine ⟨(⟨0,⟨none,0,[]⟩,⟨none,0,[]⟩,⟨none,0,[]⟩⟩,z.2.2),rfl,⟨?_,OwnT.nil _ _ _ _ _,OwnT.nil _ _ _ _ _,OwnT.nil _ _ _ _ _⟩,E1.ownA m3 fun q (hq:q=b0_1)=>by omega⟩
  unfold decideF
  rw [←hA,if_pos c20]
 ·have h0:z.2.2=0:=by simpa using c20
  refine V.region (VL.op (R.ldA Tryz.isAgg25 Tryz.sizeOf25 rfl rfl ((show RowAt _ _ _ (encGr g) from hX1.rowAt 0 3)) rfl) (VL.op (R.mvS rfl) (VL.callX Tryz.call16 rfl (exists_spec g wa wc W false B _ (hG.ext E1) hl (hW.ext E1) hWl hWh hWm (Nat.le_trans hB E1.size) (hT.ext hB E1)) fun z2 w4 h4 e4=>VL.op (R.mvT rfl) (VL.op (R.extr rfl rfl) (VL.op (R.extr rfl rfl) (VL.op (R.extr rfl rfl) (VL.allocSt1 (v:=.agg _) (v2:=.slice _ _ _) Tryz.zeroValue31 Tryz.sizeOf31 rfl rfl rfl rfl rfl rfl rfl rfl rfl fun b4_7 w4_7 hb4_7 e4_7 hB4_7=>VL.op (R.asI rfl) (VL.nil (V.seq (V.seq (?_)))))))))))
  have e47:=e4.trans e4_7
  have hX4:=hX1.ext e47
  have hC4:=hC1.ext e47
  have hP4:=hB1_7.ext e47
  have E4:Ext w w4_7:=E1.trans e47
  have s4:=e4.size
  have s47:=e4_7.size
  have hBB:=h4.e
  have lC:=hB0_1.lt
  have lP:=hB1_7.lt
  have lQ:=hB4_7.lt
  refine V.region (VL.op (R.mvI rfl) (VL.op (R.neq rfl rfl) (VL.nil (V.condP rfl (fun c31=>V.seq (?_)) (fun c31=>V.skip (V.seq (?_)))))))
  ·refine V.region (VL.op (R.build Tryz.zeroValue33 Tryz.runUnderlying33 pl33 rfl) (VL.op (R.mvI rfl) (VL.store (v:=.agg _) Tryz.sizeOf33 rfl rfl rfl rfl hC4 rfl rfl fun w6 m6 hs6 hB6=>VL.op (R.asI rfl) (VL.nil (V.ret (fretCT (v:=.int _ _) rfl rfl rfl rfl rfl Tryz.isAgg33 Tryz.sizeOf33 rfl (hB6.rowAt 0 4) rfl (?_)))))))
   refine ⟨(⟨0,⟨none,0,[]⟩,⟨none,0,[]⟩,⟨none,0,[]⟩⟩,z2.2.2),rfl,⟨?_,OwnT.nil _ _ _ _ _,OwnT.nil _ _ _ _ _,OwnT.nil _ _ _ _ _⟩,E4.ownA m6 fun q (hq:q=b0_1)=>by omega⟩
   unfold decideF
   rw [←hA,←hBB,if_neg (by simpa using h0),if_pos c31]
  ·have h02:z2.2.2=0:=by simpa using c31
   refine V.region (VL.op (R.mvS rfl) (VL.op (R.mvS rfl) (VL.op (R.build Tryz.zeroValue33 Tryz.runUnderlying33 pl33 rfl) (VL.allocSt (v:=.agg _) Tryz.zeroValue33 Tryz.sizeOf33 rfl rfl rfl rfl rfl fun b7_3 w7_3 hb7_3 e7_3 hB7_3=>VL.nil (V.seq (V.block (V.seq (?_))))))))
   have hP7:=hP4.ext e7_3
   have hQ7:=hB4_7.ext e7_3
   have hC7:=hC4.ext e7_3
   have E7:Ext w w7_3:=E4.trans e7_3
   have s73:=e7_3.size
   have hs1:=(h1.s.ext (e1_7.trans (e47.trans e7_3))).weaken (show b0_1<w0_1.heap.size from lC)
   have hs2:=(h4.s.ext (e4_7.trans e7_3)).weaken (show b0_1<w1_7.heap.size by omega)
   have hi7:=h1.o.ext (e1_7.trans (e47.trans e7_3))
   have ho7:=h4.o.ext (e4_7.trans e7_3)
   have li:=h1.o.lt
   have lo:=h4.o.lt
   have gi:=h1.o.ge
   have go:=h4.o.ge
   have lS1:=h1.s.lt
   have lS2:=h4.s.lt
   have hR7:Blk w7_3 b7_3 (.cells #[.int .i64 2,.slice z.1.a z.1.l.length z.1.c,.slice z2.1.a z2.1.l.length z2.1.c,.slice none 0 0] 33 (0,0)):=hB7_3
   have fin:∀ (v:Int) (p:PfX) (w' w'':World),Vc.Mod (Vc.one b7_3) w7_3 w'→Vc.Mod (Vc.one b0_1) w' w''→OwnT encS4 4 106 (b0_1+1) w7_3 p.a p.c p.S→(∀ q,aBlk p.a q→q<b7_3)→decideF (grV g) (W.map wyV)=((v,z.1.l,z2.1.l,p.S),0)→∃ y:CmX×Int,(.tuple #[.agg #[.int .i64 v,.slice z.1.a z.1.l.length z.1.c,.slice z2.1.a z2.1.l.length z2.1.c,.slice p.a p.S.length p.c],.int .i64 0]:Value)=.tuple #[.agg (encCm y.1).toArray,.int .i64 y.2]∧DcK w (decideF (grV g) (W.map wyV)) y w''∧Ext w w'':=fun v p w' w'' m m2 hp hpl hd=>by
    refine ⟨(⟨v,z.1,z2.1,p⟩,0),rfl,⟨hd.symm,?_,?_,?_⟩,(E7.ownA m fun q (hq:q=b7_3)=>by omega).ownA m2 fun q (hq:q=b0_1)=>by omega⟩
    ·exact ((hi7.mod m fun q h1 (h2:q=b7_3)=>by have:=li q h1;omega).mod m2 fun q h1 (h2:q=b0_1)=>by have:=gi q h1;omega).weaken (by omega)
    ·exact ((ho7.mod m fun q h1 (h2:q=b7_3)=>by have:=lo q h1;omega).mod m2 fun q h1 (h2:q=b0_1)=>by have:=go q h1;omega).weaken (by omega)
    ·exact ((hp.mod m fun q h1 (h2:q=b7_3)=>by have:=hpl q h1;omega).mod m2 fun q h1 (h2:q=b0_1)=>by have:=hp.ge q h1;omega).weaken (by omega)
   have hdF:∀ r,(if 0<z.2.1.S.length then ((3,z.1.l,z2.1.l,z.2.1.S),0) else if 0<z2.2.1.S.length then ((1,z.1.l,z2.1.l,z2.2.1.S),0) else (((2:Int),z.1.l,z2.1.l,([]:List St4)),(0:Int)))=r→decideF (grV g) (W.map wyV)=r:=fun r hr=>by
    unfold decideF
    rw [←hA,←hBB,if_neg (by simpa using h0),if_neg (by simpa using h02)]
    exact hr
   refine V.region (VL.op (R.fld' (o:=0) Tryz.runUnderlying31 rfl rfl Tryz.sizeOf29 rfl rfl) (VL.op (R.ld1 Tryz.isAgg29 rfl ((show _=some (Value.slice z.2.1.a z.2.1.S.length z.2.1.c) from hP7.cell 0))) (VL.op (R.lenS Tryz.runUnderlying29 rfl) (VL.op (R.gtr rfl rfl) (VL.op (R.asB rfl) (VL.nil (V.condP rfl (fun c37=>?_) (fun c37=>V.seq (?_)))))))))
   ·refine V.regionW mixed 3 2 (by kernel_rfl) rfl (fun w'=>Ext _ w') (fun w'=>PutC w7_3 b7_3 #[.int .i64 3,.slice z.1.a z.1.l.length z.1.c,.slice z2.1.a z2.1.l.length z2.1.c,.slice none 0 0] 33 w') (Ext.drawn _) (VW.op (fun wq hq=>R.ldA Tryz.isAgg31 Tryz.sizeOf31 rfl rfl ((show RowAt wq _ _ (encPf z.2.1) from hq.elim (fun h=>(hP7.ext h).rowAt 0 1) (fun h=>(hP7.mod h.1 (fun (hh:b1_7=b7_3)=>by omega)).rowAt 0 1))) rfl) (VW.op (fun wq eq=>R.fld' (o:=0) Tryz.runUnderlying33 rfl rfl Tryz.sizeOf3 rfl rfl) (VW.wr0 (fun wq eq=>R.storeB (v:=.int _ _) Tryz.sizeOf3 rfl rfl rfl rfl (hR7.ext eq) rfl rfl ((fun w' m hB=>⟨eq.mod.then m fun _ _ h=>h,hB⟩))) (VW.nil fun w9 h9=>VL.op (R.fld' (o:=3) Tryz.runUnderlying33 rfl rfl Tryz.sizeOf31 rfl rfl) (VL.store (v:=.agg _) Tryz.sizeOf31 rfl rfl rfl rfl h9.2 rfl rfl fun w10 m10 hs10 hB10=>VL.nil (V.seq (?_)))))))
    have hR10:Blk w10 b7_3 (.cells #[.int .i64 3,.slice z.1.a z.1.l.length z.1.c,.slice z2.1.a z2.1.l.length z2.1.c,.slice z.2.1.a z.2.1.S.length z.2.1.c] 33 (0,0)):=hB10
    have M10:Vc.Mod (Vc.one b7_3) w7_3 w10:=h9.1.then m10 fun _ _ h=>h
    refine V.region (VL.op (R.ldA Tryz.isAgg33 Tryz.sizeOf33 rfl rfl ((hR10.rowAt 0 4)) rfl) (VL.store (v:=.agg _) Tryz.sizeOf33 rfl rfl rfl rfl (hC7.mod M10 (fun (hh:b0_1=b7_3)=>by omega)) rfl rfl fun w12 m12 hs12 hB12=>VL.op (R.asI rfl) (VL.nil (V.ret (fretCT (v:=.int _ _) rfl rfl rfl rfl rfl Tryz.isAgg33 Tryz.sizeOf33 rfl (hB12.rowAt 0 4) rfl (?_))))))
    exact fin 3 z.2.1 w10 w12 M10 m12 hs1 (fun q hq=>by have:=lS1 q hq;omega) (hdF _ (if_pos (by omega)))
   ·refine V.region (VL.op (R.fld' (o:=0) Tryz.runUnderlying31 rfl rfl Tryz.sizeOf29 rfl rfl) (VL.op (R.ld1 Tryz.isAgg29 rfl ((show _=some (Value.slice z2.2.1.a z2.2.1.S.length z2.2.1.c) from hQ7.cell 0))) (VL.op (R.lenS Tryz.runUnderlying29 rfl) (VL.op (R.gtr rfl rfl) (VL.op (R.asB rfl) (VL.nil (V.condP rfl (fun c45=>?_) (fun c45=>V.skip (V.seq (?_))))))))))
    ·refine V.regionW mixed 3 2 (by kernel_rfl) rfl (fun w'=>Ext _ w') (fun w'=>PutC w7_3 b7_3 #[.int .i64 1,.slice z.1.a z.1.l.length z.1.c,.slice z2.1.a z2.1.l.length z2.1.c,.slice none 0 0] 33 w') (Ext.drawn _) (VW.op (fun wq hq=>R.ldA Tryz.isAgg31 Tryz.sizeOf31 rfl rfl ((show RowAt wq _ _ (encPf z2.2.1) from hq.elim (fun h=>(hQ7.ext h).rowAt 0 1) (fun h=>(hQ7.mod h.1 (fun (hh:b4_7=b7_3)=>by omega)).rowAt 0 1))) rfl) (VW.op (fun wq eq=>R.fld' (o:=0) Tryz.runUnderlying33 rfl rfl Tryz.sizeOf3 rfl rfl) (VW.wr0 (fun wq eq=>R.storeB (v:=.int _ _) Tryz.sizeOf3 rfl rfl rfl rfl (hR7.ext eq) rfl rfl ((fun w' m hB=>⟨eq.mod.then m fun _ _ h=>h,hB⟩))) (VW.nil fun w9 h9=>VL.op (R.fld' (o:=3) Tryz.runUnderlying33 rfl rfl Tryz.sizeOf31 rfl rfl) (VL.store (v:=.agg _) Tryz.sizeOf31 rfl rfl rfl rfl h9.2 rfl rfl fun w10 m10 hs10 hB10=>VL.nil (V.seq (?_)))))))
     have hR10:Blk w10 b7_3 (.cells #[.int .i64 1,.slice z.1.a z.1.l.length z.1.c,.slice z2.1.a z2.1.l.length z2.1.c,.slice z2.2.1.a z2.2.1.S.length z2.2.1.c] 33 (0,0)):=hB10
     have M10:Vc.Mod (Vc.one b7_3) w7_3 w10:=h9.1.then m10 fun _ _ h=>h
     refine V.region (VL.op (R.ldA Tryz.isAgg33 Tryz.sizeOf33 rfl rfl ((hR10.rowAt 0 4)) rfl) (VL.store (v:=.agg _) Tryz.sizeOf33 rfl rfl rfl rfl (hC7.mod M10 (fun (hh:b0_1=b7_3)=>by omega)) rfl rfl fun w12 m12 hs12 hB12=>VL.op (R.asI rfl) (VL.nil (V.ret (fretCT (v:=.int _ _) rfl rfl rfl rfl rfl Tryz.isAgg33 Tryz.sizeOf33 rfl (hB12.rowAt 0 4) rfl (?_))))))
     exact fin 1 z2.2.1 w10 w12 M10 m12 hs2 (fun q hq=>by have:=lS2 q hq;omega) (hdF _ (by rw [if_neg (by omega),if_pos (by omega)]))
    ·refine V.region (VL.op (R.ldA Tryz.isAgg33 Tryz.sizeOf33 rfl rfl ((hR7.rowAt 0 4)) rfl) (VL.store (v:=.agg _) Tryz.sizeOf33 rfl rfl rfl rfl hC7 rfl rfl fun w12 m12 hs12 hB12=>VL.op (R.asI rfl) (VL.nil (V.ret (fretCT (v:=.int _ _) rfl rfl rfl rfl rfl Tryz.isAgg33 Tryz.sizeOf33 rfl (hB12.rowAt 0 4) rfl (?_))))))
     exact fin 2 ⟨none,0,[]⟩ w7_3 w12 (Vc.Mod.refl _ _) m12 (OwnT.nil _ _ _ _ _) (fun q hq=>absurd hq (Sep.nil none q hq)) (hdF _ (by rw [if_neg (by omega),if_neg (by omega)]))
end Go.Proofs.YtdbcfpcicjgghaaGreatDoor

/- Solve: the reference's small functions. -/
namespace Go.Proofs.YtdbcfpcicjgghaaGreatDoor
open Go.Vc
set_option maxRecDepth 100000
set_option maxHeartbeats 16000000
theorem rformed29_spec (x:WyI) (n:Int) (w:World) (hx:WyOk w x) (hl:WLen x) :
  RetsP Tryz.prog 68 #[.agg (encWy x).toArray,.int .i64 n] w (.bool (wyB n (wyV x))):=by
 have hlp:=hl.p
 have hln:=hl.n
 refine enter (args:=[_,_]) Tryz.func68 rfl Tryz.ntmps68 (by kernel_rfl) rfl ?_
 refine V.seq (V.region (VL.box (v:=.agg _) rfl fun b0_0 w0_0 hb0_0 e0_0 hB0_0=>VL.op (R.asB rfl) (VL.nil (V.seq (V.region (VL.op (R.fld' (o:=0) Tryz.runUnderlying53 rfl rfl Tryz.sizeOf22 rfl rfl) (VL.op (R.ld1 Tryz.isAgg22 rfl ((show _=some (Value.slice x.p.a x.p.l.length x.p.c) from hB0_0.cell 0))) (VL.op (R.mvI rfl) (VL.callP Tryz.call84 rfl (verts_spec x.p.a x.p.c x.p.l n _ (by omega) (hx.p.ext e0_0)) fun w1_3 e1_3=>VL.op (R.mvB rfl) (VL.and rfl rfl (fun g1_4=>VL.op (R.fld' (o:=1) Tryz.runUnderlying53 rfl rfl Tryz.sizeOf22 rfl rfl) (VL.gT rfl rfl (VL.op (R.ld1 Tryz.isAgg22 rfl ((show _=some (Value.slice x.n.a x.n.l.length x.n.c) from (hB0_0.ext e1_3).cell 1))) (VL.gT rfl rfl (VL.op (R.mvI rfl) (VL.gT rfl rfl (VL.callP Tryz.call84 rfl (verts_spec x.n.a x.n.c x.n.l n _ (by omega) (hx.n.ext (e0_0.trans e1_3))) fun w1_8 e1_8=>VL.op (R.pickTB rfl rfl) (VL.op (R.asB rfl) (VL.nil (V.ret (fret1 (v:=.bool _) rfl rfl rfl (⟨?_,((e0_0.trans e1_3).trans e1_8)⟩)))))))))))) (fun g1_4=>VL.gF rfl rfl (VL.gF rfl rfl (VL.gF rfl rfl (VL.op (R.pickFB rfl rfl) (VL.op (R.asB rfl) (VL.nil (V.ret (fret1 (v:=.bool _) rfl rfl rfl (⟨?_,(e0_0.trans e1_3)⟩)))))))))))))))))))
 ·exact congrArg Value.bool (by unfold wyB wyV;dsimp only;rw [g1_4,Bool.true_and])
 ·exact congrArg Value.bool (by unfold wyB wyV;dsimp only;rw [g1_4,Bool.false_and])
theorem rready29_spec (g:GrW) (wa:Option Addr) (wc:Nat) (W:List WyI) (w:World) (hG:GOk w g) (hl:GLen g) (hW:WL w wa W) (hWl:∀ y∈W,WLen y) (hWm:W.length≤1000000) :
  RetsP Tryz.prog 38 #[.agg (encGr g).toArray,.slice wa W.length wc] w (.bool (readyG (grV g) (W.map wyV))):=by
 refine enter (args:=[_,_]) Tryz.func38 rfl Tryz.ntmps38 (by kernel_rfl) rfl ?_
 refine V.seq (V.region (VL.box (v:=.agg _) rfl fun b0_0 w0_0 hb0_0 e0_0 hB0_0=>VL.op (R.asB rfl) (VL.nil (V.seq (V.seq (V.region (VL.op (R.ldA Tryz.isAgg25 Tryz.sizeOf25 rfl rfl ((show RowAt _ _ _ (encGr g) from hB0_0.rowAt 0 3)) rfl) (VL.callP Tryz.call65 rfl (rvalid_spec g _ (hG.ext e0_0) hl) fun w1_1 e1_1=>VL.op (R.not rfl) (VL.op (R.mvB rfl) (VL.or rfl rfl (fun g1_3=>VL.op (R.mvS rfl) (VL.gT rfl rfl (VL.op (R.lenS Tryz.runUnderlying26 rfl) (VL.gT rfl rfl (VL.op (R.gtr rfl rfl) (VL.op (R.pickFB rfl rfl) (VL.nil (V.condP rfl (fun c13=>V.seq (V.region (VL.op (R.asB rfl) (VL.nil (V.ret (fret1 (v:=.bool _) rfl rfl rfl (⟨?_,(e0_0.trans e1_1)⟩))))))) (fun c13=>V.skip (V.seq (V.seq (?_)))))))))))) (fun g1_3=>VL.gF rfl rfl (VL.gF rfl rfl (VL.op (R.pickTB rfl rfl) (VL.nil (V.condT rfl (V.seq (V.region (VL.op (R.asB rfl) (VL.nil (V.ret (fret1 (v:=.bool _) rfl rfl rfl (⟨?_,(e0_0.trans e1_1)⟩))))))))))))))))))))))
 ·refine congrArg Value.bool ?_
  unfold readyG
  rw [List.length_map,decide_eq_false (by omega),Bool.and_false,Bool.false_and]
 ·have hv:validG (grV g)=true:=by simpa using g1_3
  refine V.region (VL.op (R.asI rfl) (VL.nil (V.block (?_))))
  refine V.loop [1,2,5] (fun k:Nat=>[.slice wa W.length wc,.pointer (some ⟨b0_0,0,none⟩),.int .i64 (k:Nat)]) (fun k w'=>k≤W.length∧(∀ i,i<k→wyB g.n (wyV (W.getD i default))=true)∧Ext w0_0 w') (fun k=>W.length-k) 0 rfl ⟨Nat.zero_le _,fun i h=>absurd h (Nat.not_lt_zero i),e1_1⟩ ?_
  rintro ρ k w2 ⟨hk,hf,e⟩
  have hX2:=hB0_0.ext e
  have hW2:=hW.ext (e0_0.trans e)
  refine V.seq (V.seq (V.region (VL.op (R.mvI rfl) (VL.op (R.mvS rfl) (VL.op (R.lenS Tryz.runUnderlying26 rfl) (VL.op (R.lss rfl rfl) (VL.nil (V.condP rfl (fun c17=>V.skip (V.seq (V.block (V.seq (?_))))) (fun c17=>V.exit (V.seq (V.region (VL.op (R.asB rfl) (VL.nil (V.ret (fret1 (v:=.bool _) rfl rfl rfl (⟨?_,e0_0.trans e⟩))))))))))))))))
  ·have hkn:k<W.length:=by omega
   refine V.regionQ mixed 8 (by kernel_rfl) rfl (fun w'=>Ext _ w') (Ext.drawn _) (VQ.op (fun wq eq=>R.mvS rfl) (VQ.op (fun wq eq=>R.mvI rfl) (VQ.op (fun wq eq=>R.ixS Tryz.runUnderlying26 Tryz.sizeOf53 rfl rfl (by omega) (by omega) (hW2.sl.some (i:=k) hkn)) (VQ.op (fun wq eq=>R.ldA Tryz.isAgg53 Tryz.sizeOf53 rfl rfl ((show RowAt _ _ _ (encWy (W.getD k default)) from ((hW2.sl.ext eq).row (i:=k) hkn))) rfl) (VQ.op (fun wq eq=>R.fld' (o:=0) Tryz.runUnderlying25 rfl rfl Tryz.sizeOf3 rfl rfl) (VQ.op (fun wq eq=>R.ld1 Tryz.isAgg3 rfl ((show _=some (Value.int .i64 g.n) from (hX2.ext eq).cell 0))) (VQ.callP (fun _ _ h k=>Mod.trans h k) Tryz.call68 rfl (fun wq eq=>rformed29_spec (W.getD k default) g.n _ ((hW2.at hkn).ext eq) (hWl _ (gmem hkn))) (VQ.op (fun wq eq=>R.not rfl) (VQ.nil fun w6q e6q=>VL.nil (V.cond rfl (fun c27=>V.seq (V.region (VL.op (R.asB rfl) (VL.nil (V.ret (fret1 (v:=.bool _) rfl rfl rfl (⟨?_,e0_0.trans (e.trans e6q)⟩))))))) (fun c27=>V.skip (V.region (VL.op (R.mvI rfl) (VL.op (R.add rfl rfl (by omega) (by omega)) (VL.op (R.asI rfl) (VL.nil (⟨k+1,rfl,⟨by omega,fun i hi=>?_,e.trans e6q⟩,by omega⟩)))))))))))))))))
   ·have h1:wyB g.n (wyV (W.getD k default))=false:=by simpa using c27
    refine congrArg Value.bool (Bool.eq_false_iff.2 fun hh=>?_).symm
    unfold readyG at hh
    rw [Bool.and_eq_true,List.all_eq_true] at hh
    have h2:wyB g.n (wyV (W.getD k default))=true:=hh.2 _ (List.mem_map_of_mem (gmem hkn))
    rw [h1] at h2;cases h2
   ·by_cases h:i=k
    ·subst h;simpa using c27
    ·exact hf i (by omega)
  ·have hkn:k=W.length:=by omega
   subst hkn
   have h1:(W.map wyV).all (wyB g.n)=true:=List.all_eq_true.2 fun y hy=>by
    obtain ⟨x,hx,rfl⟩:=List.mem_map.1 hy
    obtain ⟨i,hi,rfl⟩:=List.getElem_of_mem hx
    have:=hf i hi
    rwa [gget hi] at this
   refine congrArg Value.bool ?_
   unfold readyG
   rw [List.length_map,decide_eq_true (by omega),Bool.and_true,show (grV g).n=g.n from rfl,h1,Bool.and_true,hv]
 ·have hv:validG (grV g)=false:=by simpa using g1_3
  refine congrArg Value.bool ?_
  unfold readyG
  rw [hv,Bool.false_and,Bool.false_and]
end Go.Proofs.YtdbcfpcicjgghaaGreatDoor

/- Solve: the reference: decisions of lists. -/
namespace Go.Proofs.YtdbcfpcicjgghaaGreatDoor
open Go.Vc
set_option maxRecDepth 100000
set_option maxHeartbeats 16000000
theorem rall29_spec (ta:Option Addr) (tc:Nat) (s:List Int) (a:Option Addr) (c:Nat) (l:List Int) (x:Int) (w:World) (hT:IntSl w ta s) (hL:IntSl w a l) (hr:∀ v∈l,0≤v∧v<(s.length:Int)) (_hs:s.length≤1000000) (hm:l.length≤1000000) :
  RetsP Tryz.prog 69 #[.slice ta s.length tc,.slice a l.length c,.int .i64 x] w (.bool (areA s l x)):=by
 refine enter (args:=[_,_,_]) Tryz.func69 rfl Tryz.ntmps69 (by kernel_rfl) rfl ?_
 refine V.seq (V.region (VL.op (R.asB rfl) (VL.nil (V.seq (V.seq (V.region (VL.op (R.asI rfl) (VL.nil (V.block (?_))))))))))
 refine V.loop [0,1,2,7] (fun k:Nat=>[.slice ta s.length tc,.slice a l.length c,.int .i64 x,.int .i64 (k:Nat)]) (fun k w'=>k≤l.length∧(∀ i,i<k→stA s (l.getD i default)=x)∧Ext w w') (fun k=>l.length-k) 0 rfl ⟨Nat.zero_le _,fun i h=>absurd h (Nat.not_lt_zero i),Vc.Mod.refl _ _⟩ ?_
 rintro ρ k w2 ⟨hk,hf,e⟩
 have hL2:=hL.ext e
 have hT2:=hT.ext e
 refine V.seq (V.seq (V.region (VL.op (R.mvI rfl) (VL.op (R.mvS rfl) (VL.op (R.lenS Tryz.runUnderlying22 rfl) (VL.op (R.lss rfl rfl) (VL.nil (V.condP rfl (fun c11=>V.skip (V.seq (V.block (V.seq (?_))))) (fun c11=>V.exit (V.seq (V.region (VL.op (R.asB rfl) (VL.nil (V.ret (fret1 (v:=.bool _) rfl rfl rfl (⟨?_,e⟩))))))))))))))))
 ·have hkn:k<l.length:=by omega
  obtain ⟨v,hvd⟩:∃ v:Nat,(v:Int)=l.getD k default:=⟨(l.getD k default).toNat,by have:=(hr _ (gmem hkn)).1;omega⟩
  have hvs:v<s.length:=by have:=(hr _ (gmem hkn)).2;omega
  have hst:stA s (l.getD k default)=s.getD v default:=by rw [←hvd];unfold stA;rw [Int.toNat_natCast]
  refine V.region (VL.op (R.mvS rfl) (VL.op (R.mvS rfl) (VL.op (R.mvI rfl) (VL.op (R.ixS Tryz.runUnderlying22 Tryz.sizeOf3 rfl rfl (by omega) (by omega) (hL2.some (i:=k) hkn)) (VL.op (R.ld1 Tryz.isAgg3 rfl ((((show RowAt _ _ _ [Value.int .i64 ((v:Nat):Int)] from by rw [hvd];exact hL2.row (i:=k) hkn)).cell (i:=0) rfl))) (VL.op (R.ixS Tryz.runUnderlying22 Tryz.sizeOf3 rfl rfl (by omega) (by omega) (hT2.some (i:=v) hvs)) (VL.op (R.ld1 Tryz.isAgg3 rfl (((hT2.row (i:=v) hvs).cell (i:=0) rfl))) (VL.op (R.mvI rfl) (VL.op (R.neq rfl rfl) (VL.nil (V.condP rfl (fun c22=>V.seq (V.region (VL.op (R.asB rfl) (VL.nil (V.ret (fret1 (v:=.bool _) rfl rfl rfl (⟨?_,e⟩))))))) (fun c22=>V.skip (V.region (VL.op (R.mvI rfl) (VL.op (R.add rfl rfl (by omega) (by omega)) (VL.op (R.asI rfl) (VL.nil (⟨k+1,rfl,⟨by omega,fun i hi=>?_,e⟩,by omega⟩))))))))))))))))))
  ·refine congrArg Value.bool (Bool.eq_false_iff.2 fun hh=>?_).symm
   have:=areA_iff.1 hh _ (gmem hkn)
   omega
  ·by_cases h:i=k
   ·subst h;omega
   ·exact hf i (by omega)
 ·have hkn:k=l.length:=by omega
  subst hkn
  refine congrArg Value.bool (areA_iff.2 fun v hv=>?_).symm
  obtain ⟨i,hi,rfl⟩:=List.getElem_of_mem hv
  have:=hf i hi
  rwa [gget hi] at this
theorem rsm29_spec (ta:Option Addr) (tc:Nat) (s:List Int) (a:Option Addr) (c:Nat) (l:List Int) (x:Int) (w:World) (hT:IntSl w ta s) (hL:IntSl w a l) (hr:∀ v∈l,0≤v∧v<(s.length:Int)) (_hs:s.length≤1000000) (hm:l.length≤1000000) :
  RetsP Tryz.prog 71 #[.slice ta s.length tc,.slice a l.length c,.int .i64 x] w (.bool (somA s l x)):=by
 refine enter (args:=[_,_,_]) Tryz.func71 rfl Tryz.ntmps71 (by kernel_rfl) rfl ?_
 refine V.seq (V.region (VL.op (R.asB rfl) (VL.nil (V.seq (V.seq (V.region (VL.op (R.asI rfl) (VL.nil (V.block (?_))))))))))
 refine V.loop [0,1,2,7] (fun k:Nat=>[.slice ta s.length tc,.slice a l.length c,.int .i64 x,.int .i64 (k:Nat)]) (fun k w'=>k≤l.length∧(∀ i,i<k→stA s (l.getD i default)≠x)∧Ext w w') (fun k=>l.length-k) 0 rfl ⟨Nat.zero_le _,fun i h=>absurd h (Nat.not_lt_zero i),Vc.Mod.refl _ _⟩ ?_
 rintro ρ k w2 ⟨hk,hf,e⟩
 have hL2:=hL.ext e
 have hT2:=hT.ext e
 refine V.seq (V.seq (V.region (VL.op (R.mvI rfl) (VL.op (R.mvS rfl) (VL.op (R.lenS Tryz.runUnderlying22 rfl) (VL.op (R.lss rfl rfl) (VL.nil (V.condP rfl (fun c11=>V.skip (V.seq (V.block (V.seq (?_))))) (fun c11=>V.exit (V.seq (V.region (VL.op (R.asB rfl) (VL.nil (V.ret (fret1 (v:=.bool _) rfl rfl rfl (⟨?_,e⟩))))))))))))))))
 ·have hkn:k<l.length:=by omega
  obtain ⟨v,hvd⟩:∃ v:Nat,(v:Int)=l.getD k default:=⟨(l.getD k default).toNat,by have:=(hr _ (gmem hkn)).1;omega⟩
  have hvs:v<s.length:=by have:=(hr _ (gmem hkn)).2;omega
  have hst:stA s (l.getD k default)=s.getD v default:=by rw [←hvd];unfold stA;rw [Int.toNat_natCast]
  refine V.region (VL.op (R.mvS rfl) (VL.op (R.mvS rfl) (VL.op (R.mvI rfl) (VL.op (R.ixS Tryz.runUnderlying22 Tryz.sizeOf3 rfl rfl (by omega) (by omega) (hL2.some (i:=k) hkn)) (VL.op (R.ld1 Tryz.isAgg3 rfl ((((show RowAt _ _ _ [Value.int .i64 ((v:Nat):Int)] from by rw [hvd];exact hL2.row (i:=k) hkn)).cell (i:=0) rfl))) (VL.op (R.ixS Tryz.runUnderlying22 Tryz.sizeOf3 rfl rfl (by omega) (by omega) (hT2.some (i:=v) hvs)) (VL.op (R.ld1 Tryz.isAgg3 rfl (((hT2.row (i:=v) hvs).cell (i:=0) rfl))) (VL.op (R.mvI rfl) (VL.op (R.eql rfl rfl) (VL.nil (V.condP rfl (fun c22=>V.seq (V.region (VL.op (R.asB rfl) (VL.nil (V.ret (fret1 (v:=.bool _) rfl rfl rfl (⟨?_,e⟩))))))) (fun c22=>V.skip (V.region (VL.op (R.mvI rfl) (VL.op (R.add rfl rfl (by omega) (by omega)) (VL.op (R.asI rfl) (VL.nil (⟨k+1,rfl,⟨by omega,fun i hi=>?_,e⟩,by omega⟩))))))))))))))))))
  ·refine congrArg Value.bool (somA_iff.2 ⟨_,gmem hkn,?_⟩).symm
   omega
  ·by_cases h:i=k
   ·subst h;omega
   ·exact hf i (by omega)
 ·have hkn:k=l.length:=by omega
  subst hkn
  refine congrArg Value.bool (Bool.eq_false_iff.2 fun hh=>?_).symm
  obtain ⟨v,hv,hx⟩:=somA_iff.1 hh
  obtain ⟨i,hi,rfl⟩:=List.getElem_of_mem hv
  have:=hf i hi
  rw [gget hi] at this
  exact this hx
def othK (s e:List Int) (v:Int) (k:Nat):Bool:=(e.take k).any fun u=>decide (u≠v)&&decide (stA s u=2)
theorem othK_succ {s e:List Int} {v:Int} {k:Nat} (h:k<e.length):othK s e v (k+1)=(othK s e v k||(decide (e.getD k default≠v)&&decide (stA s (e.getD k default)=2))):=by
 unfold othK
 rw [List.take_succ_eq_append_getElem h,List.any_append,gget h,List.any_cons,List.any_nil,Bool.or_false]
theorem rfree29_spec (g:GrW) (ta:Option Addr) (tc:Nat) (s:List Int) (v:Int) (w:World) (hG:GOk w g) (hl:GLen g) (hT:IntSl w ta s) (hr:∀ e∈vals g.edges,∀ u∈e,0≤u∧u<(s.length:Int)) (hn:g.n=(s.length:Int)) (_hs:s.length≤1000000) :
  RetsP Tryz.prog 70 #[.agg (encGr g).toArray,.slice ta s.length tc,.int .i64 v] w (.bool (decide (0≤v∧v<g.n∧stA s v=2)&&frA (vals g.edges) s v)):=by
 have hle:=hl.e
 refine enter (args:=[_,_,_]) Tryz.func70 rfl Tryz.ntmps70 (by kernel_rfl) rfl ?_
 refine V.seq (V.region (VL.box (v:=.agg _) rfl fun b0_0 w0_0 hb0_0 e0_0 hB0_0=>VL.op (R.asB rfl) (VL.nil (V.seq (V.seq (V.regionCut [10,11,12,13,14,15,16,17,18,19,20,21,22,23,24] 24 (.bool (!decide (0≤v∧v<g.n∧stA s v=2))) (fun w'=>Ext _ w') rfl (VL.op (R.mvI rfl) (VL.op (R.lss rfl rfl) (VL.op (R.mvB rfl) (VL.orP rfl rfl (fun g1_2=>VL.op (R.mvI rfl) (VL.gT rfl rfl (VL.op (R.fld' (o:=0) Tryz.runUnderlying25 rfl rfl Tryz.sizeOf3 rfl rfl) (VL.gT rfl rfl (VL.op (R.ld1 Tryz.isAgg3 rfl ((show _=some (Value.int .i64 g.n) from hB0_0.cell 0))) (VL.gT rfl rfl (VL.op (R.geq rfl rfl) (VL.op (R.pickFB rfl rfl) (VL.op (R.mvB rfl) (VL.orP rfl rfl (fun g1_8=>VL.op (R.mvS rfl) (VL.gT rfl rfl (VL.op (R.mvI rfl) (VL.gT rfl rfl (VL.op (R.ixS Tryz.runUnderlying22 Tryz.sizeOf3 rfl rfl (by omega) (by omega) (hT.some (i:=v.toNat) (by omega))) (VL.gT rfl rfl (VL.op (R.ld1 Tryz.isAgg3 rfl ((((hT.ext e0_0).row (i:=v.toNat) (by omega)).cell (i:=0) rfl))) (VL.gT rfl rfl (VL.op (R.neq rfl rfl) (VL.op (R.pickFB rfl rfl) (VL.nil ⟨rfl,cutB rfl ?_,Mod.refl _ _⟩))))))))))) (fun g1_8=>VL.gF rfl rfl (VL.gF rfl rfl (VL.gF rfl rfl (VL.gF rfl rfl (VL.op (R.pickTB rfl rfl) (VL.nil ⟨rfl,cutB rfl ?_,Mod.refl _ _⟩)))))))))))))))) (fun g1_2=>VL.gF rfl rfl (VL.gF rfl rfl (VL.gF rfl rfl (VL.op (R.pickTB rfl rfl) (VL.op (R.mvB rfl) (VL.gF rfl rfl (VL.gF rfl rfl (VL.gF rfl rfl (VL.gF rfl rfl (VL.gF rfl rfl (VL.op (R.pickTB rfl rfl) (VL.nil ⟨rfl,cutB rfl ?_,Mod.refl _ _⟩)))))))))))))))) (fun rg1 w1c e1c=>V.cond rfl (fun c24=>V.seq (V.region (VL.op (R.asB rfl) (VL.nil (V.ret (fret1 (v:=.bool _) rfl rfl rfl (⟨?_,(e0_0.trans e1c)⟩))))))) (fun c24=>V.skip (V.seq (V.seq (?_)))))))))))
 ·rw [←decide_not];exact decide_eq_decide.2 (by unfold stA;omega)
 ·rw [decide_eq_false (by omega)];rfl
 ·rw [decide_eq_false (by omega)];rfl
 ·have h1:decide (0≤v∧v<g.n∧stA s v=2)=false:=by revert c24;cases decide (0≤v∧v<g.n∧stA s v=2) <;> simp
  rw [h1,Bool.false_and]
 have h1:decide (0≤v∧v<g.n∧stA s v=2)=true:=by revert c24;cases decide (0≤v∧v<g.n∧stA s v=2) <;> simp
 rw [h1,Bool.true_and]
 refine V.region (VL.op (R.asI rfl) (VL.nil (V.block (?_))))
 refine V.loop [1,2,3,7] (fun k:Nat=>[.slice ta s.length tc,.int .i64 v,.pointer (some ⟨b0_0,0,none⟩),.int .i64 (k:Nat)]) (fun k w'=>k≤g.edges.length∧(∀ i,i<k→v∈(g.edges.getD i default).l→othK s (g.edges.getD i default).l v (g.edges.getD i default).l.length=true)∧Ext w0_0 w') (fun k=>g.edges.length-k) 0 rfl ⟨Nat.zero_le _,fun i h=>absurd h (Nat.not_lt_zero i),e1c⟩ ?_
 rintro ρ k w2 ⟨hk,hf,e⟩
 have hX2:=hB0_0.ext e
 have hG2:=hG.ext (e0_0.trans e)
 have hE2:=hG2.e
 have hT2:=hT.ext (e0_0.trans e)
 refine V.seq (V.seq (V.region (VL.op (R.mvI rfl) (VL.op (R.fld' (o:=2) Tryz.runUnderlying25 rfl rfl Tryz.sizeOf23 rfl rfl) (VL.op (R.ld1 Tryz.isAgg23 rfl ((show _=some (Value.slice g.ea g.edges.length g.ec) from hX2.cell 2))) (VL.op (R.lenS Tryz.runUnderlying23 rfl) (VL.op (R.lss rfl rfl) (VL.nil (V.condP rfl (fun c29=>V.skip (V.seq (V.block (V.seq (V.seq (?_)))))) (fun c29=>V.exit (V.seq (V.region (VL.op (R.asB rfl) (VL.nil (V.ret (fret1 (v:=.bool _) rfl rfl rfl (⟨?_,e0_0.trans e⟩)))))))))))))))))
 ·have hkn:k<g.edges.length:=by omega
  have hkm:=(hl.each _ (gmem hkn)).1
  have hxl:IntSl w2 (g.edges.getD k default).a (g.edges.getD k default).l:=hE2.at hkn
  refine V.region (VL.op (R.fld' (o:=2) Tryz.runUnderlying25 rfl rfl Tryz.sizeOf23 rfl rfl) (VL.op (R.ld1 Tryz.isAgg23 rfl ((show _=some (Value.slice g.ea g.edges.length g.ec) from hX2.cell 2))) (VL.op (R.mvI rfl) (VL.op (R.ixS Tryz.runUnderlying23 Tryz.sizeOf22 rfl rfl (by omega) (by omega) (hE2.sl.some (i:=k) hkn)) (VL.op (R.ld1 Tryz.isAgg22 rfl (((hE2.sl.row (i:=k) hkn).cell (i:=0) rfl))) (VL.op (R.mvI rfl) (VL.callP Tryz.call28 rfl (in_spec (g.edges.getD k default).a (g.edges.getD k default).c (g.edges.getD k default).l v w2 (by omega) hxl) fun w6_6 e6_6=>VL.op (R.not rfl) (VL.nil (V.cond rfl (fun c39=>V.exit (V.region (VL.op (R.mvI rfl) (VL.op (R.add rfl rfl (by omega) (by omega)) (VL.op (R.asI rfl) (VL.nil (⟨k+1,rfl,⟨by omega,fun i hi hv=>?_,?_⟩,by omega⟩))))))) (fun c39=>V.skip (V.seq (V.region (VL.op (R.asB rfl) (VL.nil (V.cut [1,2,3,7,8] (fun b:Bool=>[.slice ta s.length tc,.int .i64 v,.pointer (some ⟨b0_0,0,none⟩),.int .i64 (k:Nat),.bool b]) (fun b w'=>b=othK s (g.edges.getD k default).l v (g.edges.getD k default).l.length∧Ext w0_0 w') (V.seq (V.region (VL.op (R.asI rfl) (VL.nil (V.block (?_)))))) (fun rgB2 xB2 wBB2 hBB2=>V.seq (V.region (VL.op (R.mvB rfl) (VL.op (R.not rfl) (VL.nil (V.cond rfl (fun c78=>V.seq (V.region (VL.op (R.asB rfl) (VL.nil (V.ret (fret1 (v:=.bool _) rfl rfl rfl (⟨?_,e0_0.trans ?_⟩))))))) (fun c78=>V.skip (V.region (VL.op (R.mvI rfl) (VL.op (R.add rfl rfl (by omega) (by omega)) (VL.op (R.asI rfl) (VL.nil (⟨k+1,rfl,⟨by omega,fun i hi hv=>?_,?_⟩,by omega⟩))))))))))))))))))))))))))))
  ·by_cases h:i=k
   ·subst h
    rw [decide_eq_true hv] at c39;cases c39
   ·exact hf i (by omega) hv
  ·exact e.trans e6_6
  ·have e6:=e.trans e6_6
   refine V.loop [1,2,3,7,8,9] (fun j:Nat=>[.slice ta s.length tc,.int .i64 v,.pointer (some ⟨b0_0,0,none⟩),.int .i64 (k:Nat),.bool (othK s (g.edges.getD k default).l v j),.int .i64 (j:Nat)]) (fun j w'=>j≤(g.edges.getD k default).l.length∧Ext w0_0 w') (fun j=>(g.edges.getD k default).l.length-j) 0 rfl ⟨Nat.zero_le _,e6⟩ ?_
   rintro ρ j w5 ⟨hj,e5⟩
   have hX5:=hB0_0.ext e5
   have hE5:=(hG.ext (e0_0.trans e5)).e
   have hT5:=hT.ext (e0_0.trans e5)
   have hxl5:IntSl w5 (g.edges.getD k default).a (g.edges.getD k default).l:=hE5.at hkn
   refine V.seq (V.seq (V.region (VL.op (R.mvI rfl) (VL.op (R.fld' (o:=2) Tryz.runUnderlying25 rfl rfl Tryz.sizeOf23 rfl rfl) (VL.op (R.ld1 Tryz.isAgg23 rfl ((show _=some (Value.slice g.ea g.edges.length g.ec) from hX5.cell 2))) (VL.op (R.mvI rfl) (VL.op (R.ixS Tryz.runUnderlying23 Tryz.sizeOf22 rfl rfl (by omega) (by omega) (hE5.sl.some (i:=k) hkn)) (VL.op (R.ld1 Tryz.isAgg22 rfl (((hE5.sl.row (i:=k) hkn).cell (i:=0) rfl))) (VL.op (R.lenS Tryz.runUnderlying22 rfl) (VL.op (R.lss rfl rfl) (VL.nil (V.condP rfl (fun c47=>V.skip (V.seq (V.block (?_)))) (fun c47=>V.exit (?_))))))))))))))
   ·have hjn:j<(g.edges.getD k default).l.length:=by omega
    obtain ⟨u,hu⟩:∃ u,u=(g.edges.getD k default).l.getD j default:=⟨_,rfl⟩
    have hur:=hr _ (List.mem_map_of_mem (gmem hkn)) _ (gmem hjn)
    rw [←hu] at hur
    have hsu:=othK_succ (s:=s) (v:=v) hjn
    rw [←hu] at hsu
    have hxr:RowAt w5 (eAddr (g.edges.getD k default).a 1 j).block (eAddr (g.edges.getD k default).a 1 j).off (Vc.encI u):=by rw [hu];exact hxl5.row (i:=j) hjn
    refine V.region (VL.op (R.mvB rfl) (VL.op (R.mvB rfl) (VL.or rfl rfl (fun g11_1=>VL.op (R.fld' (o:=2) Tryz.runUnderlying25 rfl rfl Tryz.sizeOf23 rfl rfl) (VL.gT rfl rfl (VL.op (R.ld1 Tryz.isAgg23 rfl ((show _=some (Value.slice g.ea g.edges.length g.ec) from hX5.cell 2))) (VL.gT rfl rfl (VL.op (R.mvI rfl) (VL.gT rfl rfl (VL.op (R.ixS Tryz.runUnderlying23 Tryz.sizeOf22 rfl rfl (by omega) (by omega) (hE5.sl.some (i:=k) hkn)) (VL.gT rfl rfl (VL.op (R.ld1 Tryz.isAgg22 rfl (((hE5.sl.row (i:=k) hkn).cell (i:=0) rfl))) (VL.gT rfl rfl (VL.op (R.mvI rfl) (VL.gT rfl rfl (VL.op (R.ixS Tryz.runUnderlying22 Tryz.sizeOf3 rfl rfl (by omega) (by omega) (hxl5.some (i:=j) hjn)) (VL.gT rfl rfl (VL.op (R.ld1 Tryz.isAgg3 rfl (((hxr).cell (i:=0) rfl))) (VL.gT rfl rfl (VL.op (R.mvI rfl) (VL.gT rfl rfl (VL.op (R.neq rfl rfl) (VL.gT rfl rfl (VL.op (R.mvB rfl) (VL.andP rfl rfl (fun g11_12=>VL.op (R.mvS rfl) (VL.gT rfl rfl (VL.op (R.fld' (o:=2) Tryz.runUnderlying25 rfl rfl Tryz.sizeOf23 rfl rfl) (VL.gT rfl rfl (VL.op (R.ld1 Tryz.isAgg23 rfl ((show _=some (Value.slice g.ea g.edges.length g.ec) from hX5.cell 2))) (VL.gT rfl rfl (VL.op (R.mvI rfl) (VL.gT rfl rfl (VL.op (R.ixS Tryz.runUnderlying23 Tryz.sizeOf22 rfl rfl (by omega) (by omega) (hE5.sl.some (i:=k) hkn)) (VL.gT rfl rfl (VL.op (R.ld1 Tryz.isAgg22 rfl (((hE5.sl.row (i:=k) hkn).cell (i:=0) rfl))) (VL.gT rfl rfl (VL.op (R.mvI rfl) (VL.gT rfl rfl (VL.op (R.ixS Tryz.runUnderlying22 Tryz.sizeOf3 rfl rfl (by omega) (by omega) (hxl5.some (i:=j) hjn)) (VL.gT rfl rfl (VL.op (R.ld1 Tryz.isAgg3 rfl (((hxr).cell (i:=0) rfl))) (VL.gT rfl rfl (VL.op (R.ixS Tryz.runUnderlying22 Tryz.sizeOf3 rfl rfl (by omega) (by omega) (hT5.some (i:=u.toNat) (by omega))) (VL.gT rfl rfl (VL.op (R.ld1 Tryz.isAgg3 rfl (((hT5.row (i:=u.toNat) (by omega)).cell (i:=0) rfl))) (VL.gT rfl rfl (VL.op (R.eql rfl rfl) (VL.gT rfl rfl (VL.op (R.pickTB rfl rfl) (VL.op (R.pickFB rfl rfl) (VL.op (R.asB rfl) (VL.nil (V.region (VL.op (R.mvI rfl) (VL.op (R.add rfl rfl (by omega) (by omega)) (VL.op (R.asI rfl) (VL.nil (⟨j+1,?_,⟨by omega,e5⟩,by omega⟩)))))))))))))))))))))))))))))))))) (fun g11_12=>VL.gF rfl rfl (VL.gF rfl rfl (VL.gF rfl rfl (VL.gF rfl rfl (VL.gF rfl rfl (VL.gF rfl rfl (VL.gF rfl rfl (VL.gF rfl rfl (VL.gF rfl rfl (VL.gF rfl rfl (VL.gF rfl rfl (VL.gT rfl rfl (VL.op (R.pickFB rfl rfl) (VL.op (R.pickFB rfl rfl) (VL.op (R.asB rfl) (VL.nil (V.region (VL.op (R.mvI rfl) (VL.op (R.add rfl rfl (by omega) (by omega)) (VL.op (R.asI rfl) (VL.nil (⟨j+1,?_,⟨by omega,e5⟩,by omega⟩)))))))))))))))))))))))))))))))))))))))))))) (fun g11_1=>VL.gF rfl rfl (VL.gF rfl rfl (VL.gF rfl rfl (VL.gF rfl rfl (VL.gF rfl rfl (VL.gF rfl rfl (VL.gF rfl rfl (VL.gF rfl rfl (VL.gF rfl rfl (VL.gF rfl rfl (VL.gU rfl rfl (VL.gU rfl rfl (VL.gU rfl rfl (VL.gU rfl rfl (VL.gU rfl rfl (VL.gU rfl rfl (VL.gU rfl rfl (VL.gU rfl rfl (VL.gU rfl rfl (VL.gU rfl rfl (VL.gU rfl rfl (VL.gU rfl rfl (VL.gF rfl rfl (VL.op (R.pickTB rfl rfl) (VL.op (R.asB rfl) (VL.nil (V.region (VL.op (R.mvI rfl) (VL.op (R.add rfl rfl (by omega) (by omega)) (VL.op (R.asI rfl) (VL.nil (⟨j+1,?_,⟨by omega,e5⟩,by omega⟩)))))))))))))))))))))))))))))))))))
    ·rw [hsu,g11_1,decide_eq_true g11_12,Bool.false_or,Bool.true_and];rfl
    ·rw [hsu,g11_1,decide_eq_false g11_12,Bool.false_or,Bool.false_and];rfl
    ·rw [hsu,g11_1,Bool.true_or];rfl
   ·have hje:j=(g.edges.getD k default).l.length:=by omega
    subst hje
    exact ⟨_,rfl,rfl,e5⟩
  ·refine congrArg Value.bool (Bool.eq_false_iff.2 fun hh=>?_).symm
   have hm:=frA_iff.1 hh _ (List.mem_map_of_mem (gmem hkn)) (by simpa using c39)
   obtain ⟨u,hu,h1,h2⟩:=hm
   have h3:othK s (g.edges.getD k default).l v (g.edges.getD k default).l.length=true:=by
    unfold othK
    rw [List.take_length,List.any_eq_true]
    exact ⟨u,hu,by rw [decide_eq_true h1,decide_eq_true h2];rfl⟩
   rw [←hBB2.1] at h3
   rw [h3] at c78;cases c78
  ·exact hBB2.2
  ·by_cases h:i=k
   ·subst h
    rw [←hBB2.1];simpa using c78
   ·exact hf i (by omega) hv
  ·exact hBB2.2
 ·have hkn:k=g.edges.length:=by omega
  subst hkn
  refine congrArg Value.bool (frA_iff.2 fun x hx hv=>?_).symm
  obtain ⟨y,hy,rfl⟩:=List.mem_map.1 hx
  obtain ⟨i,hi,rfl⟩:=List.getElem_of_mem hy
  have:=hf i hi
  rw [gget hi] at this
  have:=this hv
  unfold othK at this
  rw [List.take_length,List.any_eq_true] at this
  obtain ⟨u,hu,h2⟩:=this
  rw [Bool.and_eq_true,decide_eq_true_eq,decide_eq_true_eq] at h2
  exact ⟨u,hu,h2⟩
end Go.Proofs.YtdbcfpcicjgghaaGreatDoor
