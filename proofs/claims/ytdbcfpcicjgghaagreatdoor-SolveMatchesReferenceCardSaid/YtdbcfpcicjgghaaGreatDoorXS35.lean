/- Solve: the reference: the size of the named part, the error of a question. -/
import Derived.Test.YtdbcfpcicjgghaaGreatDoorXS17
import Derived.Test.YtdbcfpcicjgghaaGreatDoorXS13
import Derived.Test.YtdbcfpcicjgghaaGreatDoorXQ6
import Derived.Test.YtdbcfpcicjgghaaGreatDoorXS30
import Derived.Test.YtdbcfpcicjgghaaGreatDoorXR34
namespace Go.Proofs.YtdbcfpcicjgghaaGreatDoor
set_option maxHeartbeats 16000000
open Go.Vc
set_option maxRecDepth 100000
set_option maxHeartbeats 16000000
theorem named_step {F:Nat→Bool} {l:List Int} {bs:List Bool} {N i v:Nat} (hb:∀ u:Nat,u<N→bs.getD u default=(F u||decide ((u:Int)∈l.take i))) (hil:i<l.length) (hv:l.getD i default=(v:Int)) (hvN:v<N) (hbl:bs.length=N):∀ u:Nat,u<N→(bs.set v true).getD u default=(F u||decide ((u:Int)∈l.take (i+1))):=fun u hu=>by
 have ht:l.take (i+1)=l.take i++[(v:Int)]:=by rw [List.take_succ_eq_append_getElem hil,←hv,gget hil]
 rw [ht]
 by_cases e:u=v
 ·subst e
  rw [setD_eq _ (by omega),decide_eq_true (by simp),Bool.or_true]
 ·rw [setD_ne _ e,hb u hu]
  congr 1
  refine decide_eq_decide.2 ?_
  rw [List.mem_append,List.mem_singleton]
  exact ⟨.inl,fun h=>h.resolve_right (by omega)⟩
theorem nmW_snoc (W:List Wy) (x:Wy) (v:Int):nmW (W++[x]) v=(nmW W v||(decide (v∈x.pos)||decide (v∈x.neg))):=by
 unfold nmW
 rw [List.any_append,List.any_cons,List.any_nil,Bool.or_false]
theorem any_take {l:List Int} {F:Int→Bool} {k:Nat} (hk:k<l.length):(l.take (k+1)).any F=((l.take k).any F||F (l.getD k default)):=by
 rw [take_snoc hk,List.any_append,List.any_cons,List.any_nil,Bool.or_false]
theorem ptI_len (g:Gr) (W:List Wy):(ptI g W).length=(ptL W (compsG g)).length:=srtF_len _
theorem rsize29_spec (g:GrW) (wa:Option Addr) (wc:Nat) (W:List WyI) (w:World) (hG:GOk w g) (hl:GLen g) (hW:WL w wa W) (hWl:∀ y∈W,WLen y) (hWm:W.length≤1000000) (hr:readyG (grV g) (W.map wyV)=true) :
  RetsP Tryz.prog 25 #[.agg (encGr g).toArray,.slice wa W.length wc] w (.int .i64 ((ptI (grV g) (W.map wyV)).length:Nat)):=by
 refine enter (args:=[_,_]) Tryz.func25 rfl Tryz.ntmps25 (by kernel_rfl) rfl ?_
 have hok:=ready_ok hr true []
 have hv:=hok.v
 have hn:=costB_iff.1 (validG_iff.1 hv).1
 have hgn:(grV g).n=g.n:=rfl
 obtain ⟨N,hN⟩:∃ N:Nat,g.n=(N:Int):=⟨g.n.toNat,by have h0:0≤g.n:=hn.1;omega⟩
 have hN4:N≤4000:=by have h0:g.n≤4000:=hn.2.1;omega
 obtain ⟨vs,hV⟩:∃ vs,vs=W.map wyV:=⟨_,rfl⟩
 have hwy:∀ y∈W,setB y.p.l g.n=true∧setB y.n.l g.n=true:=fun y hy=>by
  unfold readyG at hr
  rw [Bool.and_eq_true,List.all_eq_true] at hr
  have:=hr.2 _ (List.mem_map_of_mem hy)
  unfold wyB at this
  rwa [Bool.and_eq_true] at this
 rw [←hV]
 refine V.seq (V.region (VL.box (v:=.agg _) rfl fun b0_0 w0_0 hb0_0 e0_0 hB0_0=>VL.op (R.asI rfl) (VL.nil (V.seq (V.region (VL.op (R.fld' (o:=0) Tryz.runUnderlying25 rfl rfl Tryz.sizeOf3 rfl rfl) (VL.op (R.ld1 Tryz.isAgg3 rfl ((show _=some (Value.int .i64 ((N:Nat):Int)) from by rw [←hN];exact hB0_0.cell 0))) (VL.makeSl (enc:=encBo ) el77 ( false) rfl rfl rfl (by omega) (by unfold maxLen;omega) (Nat.le_refl _) fun b3 w3 hb3 e3 ho3=>VL.op (R.asS rfl) (VL.nil (V.seq (V.seq (?_))))))))))))
 have E3:Ext w w3:=e0_0.trans e3
 have hX3:=hB0_0.ext e3
 refine V.region (VL.op (R.asI rfl) (VL.nil (V.block (?_))))
 refine V.loop [1,2,5,6] (fun z:Nat×List Bool=>[.slice wa W.length wc,.pointer (some ⟨b0_0,0,none⟩),.slice (some ⟨b3,0,none⟩) N N,.int .i64 (z.1:Nat)])
  (fun z w'=>z.1≤W.length∧z.2.length=N∧OwnT encBo 1 4 w0_0.heap.size w' (some ⟨b3,0,none⟩) N z.2∧(∀ v:Nat,v<N→z.2.getD v default=nmW (vs.take z.1) (v:Int))∧Ext w0_0 w') (fun z=>W.length-z.1) (0,List.replicate N false) rfl ⟨Nat.zero_le _,by simp,ho3,fun v hv=>by rw [rep_at hv];rfl,e3⟩ ?_
 rintro ρ ⟨i,bs⟩ w4 ⟨hi,hbl,hbo,hbs,e4⟩
 dsimp only at hi hbl hbo hbs e4 ⊢
 have E4:Ext w w4:=e0_0.trans e4
 have hW4:=hW.ext E4
 refine V.seq (V.seq (V.region (VL.op (R.mvI rfl) (VL.op (R.mvS rfl) (VL.op (R.lenS Tryz.runUnderlying26 rfl) (VL.op (R.lss rfl rfl) (VL.nil (V.condP rfl (fun c20=>V.skip (V.seq (V.block (V.seq (V.seq (?_)))))) (fun c20=>V.exit (V.seq (?_)))))))))))
 ·have hil:i<W.length:=by omega
  obtain ⟨y,hy⟩:∃ y,y=W.getD i default:=⟨_,rfl⟩
  have hym:y∈W:=by rw [hy];exact gmem hil
  have hyl:=hWl y hym
  have hyp:=hyl.p
  have hyn:=hyl.n
  obtain ⟨hs1,hs2⟩:=hwy y hym
  have hr1:=(setB_iff.1 hs1).2
  have hr2:=(setB_iff.1 hs2).2
  have hVl:i<vs.length:=by rw [hV,List.length_map];exact hil
  have hwv:vs.getD i default=wyV y:=by rw [hy,hV];exact gmap wyV W default hil
  refine V.region (VL.op (R.asI rfl) (VL.nil (V.block (?_))))
  refine V.loop [1,2,5,6,7] (fun z:Nat×List Bool=>[.slice wa W.length wc,.pointer (some ⟨b0_0,0,none⟩),.slice (some ⟨b3,0,none⟩) N N,.int .i64 (i:Nat),.int .i64 (z.1:Nat)])
   (fun z w'=>z.1≤y.p.l.length∧z.2.length=N∧OwnT encBo 1 4 w0_0.heap.size w' (some ⟨b3,0,none⟩) N z.2∧(∀ v:Nat,v<N→z.2.getD v default=(nmW (vs.take i) (v:Int)||decide ((v:Int)∈y.p.l.take z.1)))∧Ext w0_0 w') (fun z=>y.p.l.length-z.1) (0,bs) rfl ⟨Nat.zero_le _,hbl,hbo,fun v hv=>by rw [hbs v hv];simp,e4⟩ ?_
  rintro ρ ⟨k,b2⟩ w5 ⟨hk,hbl2,hbo2,hbs2,e5⟩
  dsimp only at hk hbl2 hbo2 hbs2 e5 ⊢
  have E5:Ext w w5:=e0_0.trans e5
  have hW5:=hW.ext E5
  have hy5:WyOk w5 y:=by rw [hy];exact hW5.at hil
  have hidx:=(by rw [hy];exact hW5.sl.row (i:=i) hil:RowAt w5 _ _ (encWy y))
  refine V.seq (V.seq (V.region (VL.op (R.mvI rfl) (VL.op (R.mvS rfl) (VL.op (R.mvI rfl) (VL.op (R.ixS Tryz.runUnderlying26 Tryz.sizeOf53 rfl rfl (by omega) (by omega) (hW5.sl.some (i:=i) hil)) (VL.op (R.fld' (o:=0) Tryz.runUnderlying53 rfl rfl Tryz.sizeOf22 rfl rfl) (VL.op (R.ld1 Tryz.isAgg22 rfl (((hidx).cell (i:=0) rfl))) (VL.op (R.lenS Tryz.runUnderlying22 rfl) (VL.op (R.lss rfl rfl) (VL.nil (V.condP rfl (fun c30=>V.skip (V.seq (V.block (?_)))) (fun c30=>V.exit (V.seq (?_)))))))))))))))
  ·have hkl:k<y.p.l.length:=by omega
   have hvr:=hr1 _ (gmem hkl)
   obtain ⟨v,hvd⟩:∃ v:Nat,y.p.l.getD k default=(v:Int):=⟨(y.p.l.getD k default).toNat,by omega⟩
   have hvt:(y.p.l.getD k default).toNat=v:=by omega
   have hvN:v<N:=by omega
   refine V.region (VL.op (R.mvS rfl) (VL.op (R.mvS rfl) (VL.op (R.mvI rfl) (VL.op (R.ixS Tryz.runUnderlying26 Tryz.sizeOf53 rfl rfl (by omega) (by omega) (hW5.sl.some (i:=i) hil)) (VL.op (R.fld' (o:=0) Tryz.runUnderlying53 rfl rfl Tryz.sizeOf22 rfl rfl) (VL.op (R.ld1 Tryz.isAgg22 rfl (((hidx).cell (i:=0) rfl))) (VL.op (R.mvI rfl) (VL.op (R.ixS Tryz.runUnderlying22 Tryz.sizeOf3 rfl rfl (by omega) (by omega) (hy5.p.some (i:=k) hkl)) (VL.op (R.ld1 Tryz.isAgg3 rfl (((hy5.p.row (i:=k) hkl).cell (i:=0) rfl))) (VL.op (R.ixS Tryz.runUnderlying77 Tryz.sizeOf4 rfl rfl (by omega) (by omega) (hbo2.sl.some (i:=(y.p.l.getD k default).toNat) (by omega))) (VL.ownSt eltBo (v:=.bool _) Tryz.sizeOf4 (hbo2) (y.p.l.getD k default).toNat 0 true rfl rfl (by omega) rfl rfl rfl rfl rfl fun w8 ho8 m8 hs8=>VL.nil (V.region (VL.op (R.mvI rfl) (VL.op (R.add rfl rfl (by omega) (by omega)) (VL.op (R.asI rfl) (VL.nil (?_)))))))))))))))))
   rw [hvt] at ho8
   exact ⟨(k+1,b2.set v true),rfl,⟨by dsimp only;omega,by dsimp only;rw [List.length_set];exact hbl2,ho8,named_step hbs2 hkl hvd hvN hbl2,e5.ownA m8 fun q hq=>hbo2.ge q hq⟩,by dsimp only;omega⟩
  ·have hke:k=y.p.l.length:=by omega
   subst hke
   rw [List.take_length] at hbs2
   refine V.region (VL.op (R.asI rfl) (VL.nil (V.block (?_))))
   refine V.loop [1,2,5,6,8] (fun z:Nat×List Bool=>[.slice wa W.length wc,.pointer (some ⟨b0_0,0,none⟩),.slice (some ⟨b3,0,none⟩) N N,.int .i64 (i:Nat),.int .i64 (z.1:Nat)])
    (fun z w'=>z.1≤y.n.l.length∧z.2.length=N∧OwnT encBo 1 4 w0_0.heap.size w' (some ⟨b3,0,none⟩) N z.2∧(∀ v:Nat,v<N→z.2.getD v default=((nmW (vs.take i) (v:Int)||decide ((v:Int)∈y.p.l))||decide ((v:Int)∈y.n.l.take z.1)))∧Ext w0_0 w') (fun z=>y.n.l.length-z.1) (0,b2) rfl ⟨Nat.zero_le _,hbl2,hbo2,fun v hv=>by rw [hbs2 v hv];simp,e5⟩ ?_
   rintro ρ ⟨k,b3'⟩ w6 ⟨hk,hbl3,hbo3,hbs3,e6⟩
   dsimp only at hk hbl3 hbo3 hbs3 e6 ⊢
   have E6:Ext w w6:=e0_0.trans e6
   have hW6:=hW.ext E6
   have hy6:WyOk w6 y:=by rw [hy];exact hW6.at hil
   have hidx6:=(by rw [hy];exact hW6.sl.row (i:=i) hil:RowAt w6 _ _ (encWy y))
   refine V.seq (V.seq (V.region (VL.op (R.mvI rfl) (VL.op (R.mvS rfl) (VL.op (R.mvI rfl) (VL.op (R.ixS Tryz.runUnderlying26 Tryz.sizeOf53 rfl rfl (by omega) (by omega) (hW6.sl.some (i:=i) hil)) (VL.op (R.fld' (o:=1) Tryz.runUnderlying53 rfl rfl Tryz.sizeOf22 rfl rfl) (VL.op (R.ld1 Tryz.isAgg22 rfl (((hidx6).cell (i:=1) rfl))) (VL.op (R.lenS Tryz.runUnderlying22 rfl) (VL.op (R.lss rfl rfl) (VL.nil (V.condP rfl (fun c50=>V.skip (V.seq (V.block (?_)))) (fun c50=>V.exit (V.region (VL.op (R.mvI rfl) (VL.op (R.add rfl rfl (by omega) (by omega)) (VL.op (R.asI rfl) (VL.nil (?_)))))))))))))))))))
   ·have hkl:k<y.n.l.length:=by omega
    have hvr:=hr2 _ (gmem hkl)
    obtain ⟨v,hvd⟩:∃ v:Nat,y.n.l.getD k default=(v:Int):=⟨(y.n.l.getD k default).toNat,by omega⟩
    have hvt:(y.n.l.getD k default).toNat=v:=by omega
    have hvN:v<N:=by omega
    refine V.region (VL.op (R.mvS rfl) (VL.op (R.mvS rfl) (VL.op (R.mvI rfl) (VL.op (R.ixS Tryz.runUnderlying26 Tryz.sizeOf53 rfl rfl (by omega) (by omega) (hW6.sl.some (i:=i) hil)) (VL.op (R.fld' (o:=1) Tryz.runUnderlying53 rfl rfl Tryz.sizeOf22 rfl rfl) (VL.op (R.ld1 Tryz.isAgg22 rfl (((hidx6).cell (i:=1) rfl))) (VL.op (R.mvI rfl) (VL.op (R.ixS Tryz.runUnderlying22 Tryz.sizeOf3 rfl rfl (by omega) (by omega) (hy6.n.some (i:=k) hkl)) (VL.op (R.ld1 Tryz.isAgg3 rfl (((hy6.n.row (i:=k) hkl).cell (i:=0) rfl))) (VL.op (R.ixS Tryz.runUnderlying77 Tryz.sizeOf4 rfl rfl (by omega) (by omega) (hbo3.sl.some (i:=(y.n.l.getD k default).toNat) (by omega))) (VL.ownSt eltBo (v:=.bool _) Tryz.sizeOf4 (hbo3) (y.n.l.getD k default).toNat 0 true rfl rfl (by omega) rfl rfl rfl rfl rfl fun w8 ho8 m8 hs8=>VL.nil (V.region (VL.op (R.mvI rfl) (VL.op (R.add rfl rfl (by omega) (by omega)) (VL.op (R.asI rfl) (VL.nil (?_)))))))))))))))))
    rw [hvt] at ho8
    exact ⟨(k+1,b3'.set v true),rfl,⟨by dsimp only;omega,by dsimp only;rw [List.length_set];exact hbl3,ho8,named_step (F:=fun u:Nat=>nmW (vs.take i) (u:Int)||decide ((u:Int)∈y.p.l)) hbs3 hkl hvd hvN hbl3,e6.ownA m8 fun q hq=>hbo3.ge q hq⟩,by dsimp only;omega⟩
   ·have hke:k=y.n.l.length:=by omega
    subst hke
    rw [List.take_length] at hbs3
    refine ⟨(i+1,b3'),rfl,⟨by dsimp only;omega,hbl3,hbo3,fun v hv=>?_,e6⟩,by dsimp only;omega⟩
    dsimp only
    rw [hbs3 v hv,take_snoc hVl,nmW_snoc,hwv,Bool.or_assoc]
    rfl
 ·have hie:i=W.length:=by omega
  subst hie
  have hbs':∀ v:Nat,v<N→bs.getD v default=nmW vs (v:Int):=fun v hv=>by
   rw [hbs v hv,List.take_of_length_le (by rw [hV,List.length_map];exact Nat.le_refl _)]
  have hX4:=hB0_0.ext e4
  refine V.region (VL.op (R.asI rfl) (VL.nil (V.seq (V.region (VL.op (R.ldA Tryz.isAgg25 Tryz.sizeOf25 rfl rfl ((show RowAt _ _ _ (encGr g) from (hX4.ext (Mod.refl _ _)).rowAt 0 3)) rfl) (VL.callX Tryz.call47 rfl (rcomps_spec g _ (hG.ext (E4.trans (Mod.refl _ _))) hl) fun z w14 h14 e14=>VL.op (R.asS rfl) (VL.nil (V.seq (V.seq (?_))))))))))
  obtain ⟨hzv,hzL⟩:=h14
  obtain ⟨L,za,zc⟩:=z
  dsimp only at hzv hzL ⊢
  have hC:∀ k,k<L.length→(compsG (grV g)).getD k default=(L.getD k default).l:=fun k hk=>by rw [←hzv];exact gmap SlI.l L default hk
  have hCl:(compsG (grV g)).length=L.length:=by rw [←hzv];exact List.length_map _
  have hCn:=ncomps_len hv
  have hLm:L.length≤4000:=by rw [hgn,hN] at hCn;omega
  have hCr:∀ k,k<L.length→(L.getD k default).l.length≤4000∧∀ v∈(L.getD k default).l,0≤v∧v<(N:Int):=fun k hk=>by
   have hm:(L.getD k default).l∈compsG (grV g):=by rw [←hzv];exact List.mem_map_of_mem (gmem hk)
   have hs:=setB_iff.1 (comps_set hv hm)
   rw [hgn,hN] at hs
   have:=set_len hs.1 hs.2 (by omega)
   exact ⟨by omega,hs.2⟩
  have hpl:∀ k,k≤L.length→(ptL vs ((compsG (grV g)).take k)).length≤k*4000:=fun k hk=>ptL_len vs (compsG (grV g)) (fun c hc=>by
   rw [←hzv] at hc
   obtain ⟨y,hy,rfl⟩:=List.mem_map.1 hc
   obtain ⟨j,hj,rfl⟩:=List.getElem_of_mem hy
   have:=(hCr j hj).1
   rwa [gget hj] at this) k (by omega)
  have hbo14:=hbo.ext e14
  refine V.region (VL.op (R.asI rfl) (VL.nil (V.block (?_))))
  refine V.loop [5,9,10,11] (fun k:Nat=>[.slice (some ⟨b3,0,none⟩) N N,.int .i64 ((ptL vs ((compsG (grV g)).take k)).length:Nat),.slice za L.length zc,.int .i64 (k:Nat)])
   (fun k w'=>k≤L.length∧Ext w14 w') (fun k=>L.length-k) 0 rfl ⟨Nat.zero_le _,Vc.Mod.refl _ _⟩ ?_
  rintro ρ k w15 ⟨hk,e15⟩
  have hL15:=hzL.ext e15
  have hbo15:=hbo14.ext e15
  have hplk:=hpl k hk
  refine V.seq (V.seq (V.region (VL.op (R.mvI rfl) (VL.op (R.mvS rfl) (VL.op (R.lenS Tryz.runUnderlying23 rfl) (VL.op (R.lss rfl rfl) (VL.nil (V.condP rfl (fun c68=>V.skip (V.seq (V.block (V.seq (?_))))) (fun c68=>V.exit (V.seq (?_)))))))))))
  ·have hkl:k<L.length:=by omega
   obtain ⟨hcl,hcr⟩:=hCr k hkl
   refine V.region (VL.op (R.asB rfl) (VL.nil (V.seq (V.seq (V.region (VL.op (R.asI rfl) (VL.nil (V.block (?_)))))))))
   refine V.loop [5,9,10,11,12,13] (fun j:Nat=>[.slice (some ⟨b3,0,none⟩) N N,.int .i64 ((ptL vs ((compsG (grV g)).take k)).length:Nat),.slice za L.length zc,.int .i64 (k:Nat),.bool (((L.getD k default).l.take j).any (nmW vs)),.int .i64 (j:Nat)])
    (fun j w'=>j≤(L.getD k default).l.length∧Ext w15 w') (fun j=>(L.getD k default).l.length-j) 0 rfl ⟨Nat.zero_le _,Vc.Mod.refl _ _⟩ ?_
   rintro ρ j w16 ⟨hj,e16⟩
   have hL16:=hL15.ext e16
   have hbo16:=hbo15.ext e16
   refine V.seq (V.seq (V.region (VL.op (R.mvI rfl) (VL.op (R.mvS rfl) (VL.op (R.mvI rfl) (VL.op (R.ixS Tryz.runUnderlying23 Tryz.sizeOf22 rfl rfl (by omega) (by omega) (hL16.sl.some (i:=k) hkl)) (VL.op (R.ld1 Tryz.isAgg22 rfl (((hL16.sl.row (i:=k) hkl).cell (i:=0) rfl))) (VL.op (R.lenS Tryz.runUnderlying22 rfl) (VL.op (R.lss rfl rfl) (VL.nil (V.condP rfl (fun c77=>V.skip (V.seq (V.block (?_)))) (fun c77=>V.exit (V.seq (?_))))))))))))))
   ·have hjl:j<(L.getD k default).l.length:=by omega
    have hvr:=hcr _ (gmem hjl)
    refine V.region (VL.op (R.mvB rfl) (VL.op (R.mvB rfl) (VL.or rfl rfl (fun g22_1=>VL.op (R.mvS rfl) (VL.gT rfl rfl (VL.op (R.mvS rfl) (VL.gT rfl rfl (VL.op (R.mvI rfl) (VL.gT rfl rfl (VL.op (R.ixS Tryz.runUnderlying23 Tryz.sizeOf22 rfl rfl (by omega) (by omega) (hL16.sl.some (i:=k) hkl)) (VL.gT rfl rfl (VL.op (R.ld1 Tryz.isAgg22 rfl (((hL16.sl.row (i:=k) hkl).cell (i:=0) rfl))) (VL.gT rfl rfl (VL.op (R.mvI rfl) (VL.gT rfl rfl (VL.op (R.ixS Tryz.runUnderlying22 Tryz.sizeOf3 rfl rfl (by omega) (by omega) ((hL16.at hkl).some (i:=j) hjl)) (VL.gT rfl rfl (VL.op (R.ld1 Tryz.isAgg3 rfl ((((hL16.at hkl).row (i:=j) hjl).cell (i:=0) rfl))) (VL.gT rfl rfl (VL.op (R.ixS Tryz.runUnderlying77 Tryz.sizeOf4 rfl rfl (by omega) (by omega) (hbo16.sl.some (i:=((L.getD k default).l.getD j default).toNat) (by omega))) (VL.gT rfl rfl (VL.op (R.ld1 Tryz.isAgg4 rfl (((hbo16.sl.row (i:=((L.getD k default).l.getD j default).toNat) (by omega)).cell (i:=0) rfl))) (VL.op (R.pickFB rfl rfl) (VL.op (R.asB rfl) (VL.nil (V.region (VL.op (R.mvI rfl) (VL.op (R.add rfl rfl (by omega) (by omega)) (VL.op (R.asI rfl) (VL.nil (⟨j+1,?_,⟨by omega,e16⟩,by omega⟩)))))))))))))))))))))))))))) (fun g22_1=>VL.gF rfl rfl (VL.gF rfl rfl (VL.gF rfl rfl (VL.gF rfl rfl (VL.gF rfl rfl (VL.gF rfl rfl (VL.gF rfl rfl (VL.gF rfl rfl (VL.gF rfl rfl (VL.op (R.pickTB rfl rfl) (VL.op (R.asB rfl) (VL.nil (V.region (VL.op (R.mvI rfl) (VL.op (R.add rfl rfl (by omega) (by omega)) (VL.op (R.asI rfl) (VL.nil (⟨j+1,?_,⟨by omega,e16⟩,by omega⟩)))))))))))))))))))))
    ·have hb1:=hbs' ((L.getD k default).l.getD j default).toNat (by omega)
     rw [show ((((L.getD k default).l.getD j default).toNat:Nat):Int)=(L.getD k default).l.getD j default by omega] at hb1
     rw [any_take hjl,g22_1,Bool.false_or,←hb1]
     rfl
    ·rw [any_take hjl,g22_1]
     rfl
   ·have hje:j=(L.getD k default).l.length:=by omega
    subst hje
    rw [List.take_length]
    have hsn:(ptL vs ((compsG (grV g)).take (k+1))).length=(ptL vs ((compsG (grV g)).take k)).length+(if (L.getD k default).l.any (nmW vs)=true∧¬(L.getD k default).l.length=1 then (L.getD k default).l else []).length:=by
     rw [take_snoc (by omega),ptL_snoc,List.length_append,hC k hkl]
    refine V.region (VL.op (R.mvB rfl) (VL.op (R.mvB rfl) (VL.and rfl rfl (fun g23_1=>VL.op (R.mvS rfl) (VL.gT rfl rfl (VL.op (R.mvI rfl) (VL.gT rfl rfl (VL.op (R.ixS Tryz.runUnderlying23 Tryz.sizeOf22 rfl rfl (by omega) (by omega) (hL16.sl.some (i:=k) hkl)) (VL.gT rfl rfl (VL.op (R.ld1 Tryz.isAgg22 rfl (((hL16.sl.row (i:=k) hkl).cell (i:=0) rfl))) (VL.gT rfl rfl (VL.op (R.lenS Tryz.runUnderlying22 rfl) (VL.gT rfl rfl (VL.op (R.gtr rfl rfl) (VL.op (R.pickTB rfl rfl) (VL.nil (V.condP rfl (fun c101=>V.region (VL.op (R.mvI rfl) (VL.op (R.mvS rfl) (VL.op (R.mvI rfl) (VL.op (R.ixS Tryz.runUnderlying23 Tryz.sizeOf22 rfl rfl (by omega) (by omega) (hL16.sl.some (i:=k) hkl)) (VL.op (R.ld1 Tryz.isAgg22 rfl (((hL16.sl.row (i:=k) hkl).cell (i:=0) rfl))) (VL.op (R.lenS Tryz.runUnderlying22 rfl) (VL.op (R.add rfl rfl (by omega) (by omega)) (VL.op (R.asI rfl) (VL.nil (V.region (VL.op (R.mvI rfl) (VL.op (R.add rfl rfl (by omega) (by omega)) (VL.op (R.asI rfl) (VL.nil (⟨k+1,?_,⟨by omega,e15.trans e16⟩,by omega⟩)))))))))))))))) (fun c101=>V.skip (V.region (VL.op (R.mvI rfl) (VL.op (R.add rfl rfl (by omega) (by omega)) (VL.op (R.asI rfl) (VL.nil (⟨k+1,?_,⟨by omega,e15.trans e16⟩,by omega⟩))))))))))))))))))))) (fun g23_1=>VL.gF rfl rfl (VL.gF rfl rfl (VL.gF rfl rfl (VL.gF rfl rfl (VL.gF rfl rfl (VL.op (R.pickFB rfl rfl) (VL.nil (V.condF rfl (V.skip (V.region (VL.op (R.mvI rfl) (VL.op (R.add rfl rfl (by omega) (by omega)) (VL.op (R.asI rfl) (VL.nil (⟨k+1,?_,⟨by omega,e15.trans e16⟩,by omega⟩))))))))))))))))))
    ·rw [hsn,if_pos ⟨g23_1,by omega⟩,Int.natCast_add]
     rfl
    ·obtain ⟨u,hu,_⟩:=List.any_eq_true.1 g23_1
     have:=List.length_pos_of_mem hu
     rw [hsn,if_neg (fun h=>h.2 (by omega))]
     rfl
    ·rw [hsn,if_neg (fun h=>by rw [g23_1] at h;cases h.1)]
     rfl
  ·have hke:k=L.length:=by omega
   subst hke
   refine V.region (VL.op (R.mvI rfl) (VL.op (R.asI rfl) (VL.nil (V.ret (fret1 (v:=.int _ _) rfl rfl rfl (⟨?_,E4.trans (e14.trans e15)⟩))))))
   rw [ptI_len,List.take_of_length_le (by omega)]
theorem rerror29_spec (g:GrW) (wa:Option Addr) (wc:Nat) (W:List WyI) (w:World) (hG:GOk w g) (hl:GLen g) (hW:WL w wa W) (hWl:∀ y∈W,WLen y) (hWm:W.length≤1000000) :
  RetsP Tryz.prog 24 #[.agg (encGr g).toArray,.slice wa W.length wc] w (.int .i64 (errG (grV g) (W.map wyV))):=by
 refine enter (args:=[_,_]) Tryz.func24 rfl Tryz.ntmps24 (by kernel_rfl) rfl ?_
 refine V.seq (V.region (VL.box (v:=.agg _) rfl fun b0_0 w0_0 hb0_0 e0_0 hB0_0=>VL.op (R.asI rfl) (VL.nil (V.seq (V.seq (V.region (VL.op (R.ldA Tryz.isAgg25 Tryz.sizeOf25 rfl rfl ((show RowAt _ _ _ (encGr g) from hB0_0.rowAt 0 3)) rfl) (VL.op (R.mvS rfl) (VL.callP Tryz.call38 rfl (rready29_spec g wa wc W _ (hG.ext e0_0) hl (hW.ext e0_0) hWl hWm) fun w1_2 e1_2=>VL.op (R.not rfl) (VL.nil (V.cond rfl (fun c8=>V.seq (V.region (VL.op (R.asI rfl) (VL.nil (V.ret (fret1 (v:=.int _ _) rfl rfl rfl (⟨?_,(e0_0.trans e1_2)⟩))))))) (fun c8=>V.skip (V.seq (V.seq (?_)))))))))))))))
 ·unfold errG
  rw [if_neg (by simpa using c8)]
 have hr:readyG (grV g) (W.map wyV)=true:=by simpa using c8
 have E1:=e0_0.trans e1_2
 have hX1:=hB0_0.ext e1_2
 refine V.region (VL.op (R.ldA Tryz.isAgg25 Tryz.sizeOf25 rfl rfl ((show RowAt _ _ _ (encGr g) from hX1.rowAt 0 3)) rfl) (VL.op (R.mvS rfl) (VL.callP Tryz.call25 rfl (rsize29_spec g wa wc W _ (hG.ext E1) hl (hW.ext E1) hWl hWm hr) fun w3_2 e3_2=>VL.op (R.gtr rfl rfl) (VL.nil (V.condP rfl (fun c12=>V.seq (V.region (VL.op (R.asI rfl) (VL.nil (V.ret (fret1 (v:=.int _ _) rfl rfl rfl (⟨?_,E1.trans e3_2⟩))))))) (fun c12=>V.skip (V.seq (V.region (VL.op (R.asI rfl) (VL.nil (V.ret (fret1 (v:=.int _ _) rfl rfl rfl (⟨?_,E1.trans e3_2⟩)))))))))))))
 ·unfold errG
  rw [if_pos hr,if_pos (by omega)]
 ·unfold errG
  rw [if_pos hr,if_neg (by omega)]
end Go.Proofs.YtdbcfpcicjgghaaGreatDoor

/- Solve: the walk of law SolveErrors. -/
namespace Go.Proofs.YtdbcfpcicjgghaaGreatDoor
open Go.Vc
theorem ex_code {g:Gr} {W:List Wy} {h:Bool} (hn:g.n≤4000) (hp:errG g W=0→(ptI g W).length≤15):(existsF g W h).2.2=errG g W:=by
 by_cases he:errG g W=0
 ·rcases exists_cases (h:=h) he with ⟨R,h1,_⟩ | ⟨S,h1,_⟩ | h1
  ·rw [h1,he]
  ·rw [h1,he]
  ·exact absurd h1 (exists_small he hn (hp he))
 ·rw [exists_err he]
end Go.Proofs.YtdbcfpcicjgghaaGreatDoor

/- Solve: the reference: the first repair in which some way holds, or none does; the verdict. -/
namespace Go.Proofs.YtdbcfpcicjgghaaGreatDoor
open Go.Vc
set_option maxRecDepth 100000
set_option maxHeartbeats 16000000
theorem findL_at {α:Type} [Inhabited α] {p:α→Bool}:∀ {l:List α} {k:Nat},k<l.length→p (l.getD k default)=true→(∀ j,j<k→p (l.getD j default)=false)→l.find? p=some (l.getD k default)
 | [],k,h,_,_=>absurd h (Nat.not_lt_zero k)
 | x :: l,0,_,h,_=>by rw [List.find?_cons,show p x=true from h];rfl
 | x :: l,k+1,hk,h,hb=>by
  rw [List.find?_cons,show p x=false from hb 0 (Nat.zero_lt_succ k)]
  exact findL_at (by simpa using hk) h fun j hj=>hb (j+1) (by omega)
theorem findL_no {α:Type} [Inhabited α] {p:α→Bool} {l:List α} (hb:∀ j,j<l.length→p (l.getD j default)=false):l.find? p=none:=by
 rw [List.find?_eq_none]
 intro x hx
 obtain ⟨j,hj,rfl⟩:=List.getElem_of_mem hx
 have:=hb j hj
 rw [gget hj] at this
 rw [this];decide
def firstI (g:Gr) (W:List Wy) (h:Bool):List Int×Bool :=
 match (repsG g).find? fun X=>decide (someW W X=h) with
 | some X=>(X,true)
 | none=>([],false)
theorem first_is {g:Gr} {W:List Wy} {h:Bool} (hv:validG g=true):(∃ R,firstI g W h=(R,true)∧FstR g W h R)∨(firstI g W h=([],false)∧∀ X,IsRep g X→someW W X≠h):=by
 unfold firstI
 cases hf:(repsG g).find? fun X=>decide (someW W X=h) with
 | some R =>
  left
  refine ⟨R,rfl,?_⟩
  obtain ⟨h1,A,C,h2,h3⟩:=List.find?_eq_some_iff_append.1 hf
  have hR:R∈repsG g:=by rw [h2];simp
  refine ⟨(reps_mem hv).1 hR,of_decide_eq_true h1,fun X hX hs=>?_⟩
  have hup:=reps_up hv
  have hXm:=(reps_mem hv).2 hX
  rw [h2] at hup hXm
  rcases List.mem_append.1 hXm with h4 | h4
  ·have:=h3 X h4
   rw [decide_eq_true hs] at this
   cases this
  ·rcases List.mem_cons.1 h4 with h5 | h5
   ·exact .inl h5
   ·exact .inr ((List.pairwise_cons.1 (List.pairwise_append.1 hup).2.1).1 X h5)
 | none =>
  right
  refine ⟨rfl,fun X hX hs=>?_⟩
  have:=List.find?_eq_none.1 hf X ((reps_mem hv).2 hX)
  exact this (decide_eq_true hs)
theorem exists_first {g:Gr} {W:List Wy} {h:Bool} (he:errG g W=0) (hn:g.n≤4000) (hp:(ptI g W).length≤15):(∃ R,firstI g W h=(R,true)∧existsF g W h=(R,[],0)∧FstR g W h R)∨(firstI g W h=([],false)∧∃ S,existsF g W h=([],S,0)∧checkA g W h S=true):=by
 have hv:=(ready_ok (err_ready he) true []).v
 rcases exists_cases (h:=h) he with ⟨R,h1,h2⟩ | ⟨S,h1,h2⟩ | h1
 ·rcases first_is (W:=W) (h:=h) hv with ⟨Q,k1,k2⟩ | ⟨k1,k2⟩
  ·rw [fst_uniq k2 h2 fun _=>rfl] at k1
   exact .inl ⟨R,k1,h1,h2⟩
  ·exact absurd h2.s (k2 R h2.r)
 ·rcases first_is (W:=W) (h:=h) hv with ⟨Q,k1,k2⟩ | ⟨k1,k2⟩
  ·have:=check_sound h2 k2.r
   rw [k2.s] at this
   revert this
   cases h <;> intro this <;> cases this
  ·exact .inr ⟨k1,S,h1,h2⟩
 ·exact absurd h1 (exists_small he hn hp)
theorem list28t_spec (g:GrW) (w:World) (hG:GOk w g) (hl:GLen g) (hn:g.n≤12) :
  RetsX Tryz.prog 37 #[.agg (encGr g).toArray] w (fun x:LsR=>.tuple #[.slice x.a x.L.length x.c,.int .i64 x.e]) (fun x w'=>LL w' x.a x.L∧(∀ y∈x.L,TyA w' y.a 3)∧(vals x.L,x.e)=listG (grV g)):=by
 refine enter (args:=[_]) Tryz.func37 rfl Tryz.ntmps37 (by kernel_rfl) rfl ?_
 refine V.seq (V.region (VL.box (v:=.agg _) rfl fun b0_0 w0_0 hb0_0 e0_0 hB0_0=>VL.op (R.asS rfl) (VL.op (R.asI rfl) (VL.nil (V.seq (V.seq (V.region (VL.op (R.ldA Tryz.isAgg25 Tryz.sizeOf25 rfl rfl ((show RowAt _ _ _ (encGr g) from (hB0_0.rowAt 0 3))) rfl) (VL.callP Tryz.call65 rfl (rvalid_spec g _ (hG.ext e0_0) hl) fun w1_1 e1_1=>VL.op (R.not rfl) (VL.nil (V.cond rfl (fun c7=>V.seq (V.region (VL.op (R.asS rfl) (VL.op (R.asI rfl) (VL.nil (V.ret (fret2 (v:=.slice _ _ _) (x:=.int _ _) rfl rfl rfl rfl rfl (?_)))))))) (fun c7=>V.skip (V.seq (?_))))))))))))))
 ·have hv:¬validG (grV g)=true:=by simpa using c7
  refine ⟨⟨none,0,[],1⟩,rfl,⟨⟨TSl.nil _ _ _ _,fun x hx=>nomatch hx⟩,fun x hx=>(nomatch hx),?_⟩,e0_0.trans e1_1⟩
  unfold listG
  rw [if_neg hv]
  rfl
 have hv:validG (grV g)=true:=by simpa using c7
 have hcb:=costB_iff.1 (validG_iff.1 hv).1
 have hgn:(grV g).n=g.n:=rfl
 obtain ⟨N,hN⟩:∃ N:Nat,g.n=(N:Int):=⟨g.n.toNat,by have:=hcb.1;omega⟩
 have hX1:Blk w1_1 b0_0 (.cells (Value.agg (encGr g).toArray).cells 25 (0,0)):=hB0_0.ext e1_1
 have E1:=e0_0.trans e1_1
 refine V.region (VL.op (R.ldA Tryz.isAgg25 Tryz.sizeOf25 rfl rfl ((show RowAt _ _ _ (encGr g) from hX1.rowAt 0 3)) rfl) (VL.callX Tryz.call66 rfl (all28_spec g N hl hv hN (by omega) N 0 (by omega) none 0 [] w1_1 (hG.ext E1) (TSl.nil _ _ _ _) (TyA.none _ _) (fun _=>rfl) (setB_iff.2 ⟨List.Pairwise.nil,fun x hx=>nomatch hx⟩) (loadB_iff.1 (load_nil hv)).2.2) fun y w3 h3 e3=>VL.op (R.asS rfl) (VL.nil (V.seq (V.seq (?_))))))
 rw [allR_reps hv hN] at h3
 have hlen:=h3.len
 have hle:=reps_sper (g:=grV g) hN (by omega) (reps_up hv) fun R hR=>(reps_mem hv).1 hR
 by_cases hb:(repsG (grV g)).length≤1000
 ·refine V.region (VL.op (R.mvS rfl) (VL.op (R.lenS Tryz.runUnderlying23 rfl) (VL.op (R.lit (R.gtr rfl rfl) ((decide_eq_false (by omega)))) (VL.nil (V.condF rfl (V.skip (V.seq (?_))))))))
  have hxl:∀ x∈y.1,x.l.length≤1000000:=fun x hx=>by
   have:x.l∈repsG (grV g):=by rw [←h3.v];exact List.mem_map_of_mem hx
   have:=rep_len ((reps_mem hv).1 this) hcb.1
   omega
  have hL3:LL w3 y.2.1 y.1:=⟨OwnT.sl h3.o,fun x hx=>(h3.e x hx).s⟩
  refine V.region (VL.op (R.mvS rfl) (VL.callX Tryz.call67 rfl (sorted28_spec y.2.1 y.2.2 y.1 w3 (OwnT.hax h3.o) hL3 (by omega) hxl (by rw [h3.v];exact reps_up hv)) fun s w6 h6 e6=>VL.op (R.asS rfl) (VL.op (R.asI rfl) (VL.nil (V.ret (fret2 (v:=.slice _ _ _) (x:=.int _ _) rfl rfl rfl rfl rfl (?_)))))))
  refine ⟨⟨s.1,s.2,y.1,0⟩,rfl,⟨⟨OwnT.sl h6,fun x hx=>(hL3.each x hx).ext e6⟩,fun x hx=>(h3.e x hx).t.ext e6,?_⟩,E1.trans (e3.trans e6)⟩
  unfold listG
  rw [if_pos hv,if_pos hb,←h3.v]
 ·refine V.region (VL.op (R.mvS rfl) (VL.op (R.lenS Tryz.runUnderlying23 rfl) (VL.op (R.lit (R.gtr rfl rfl) ((decide_eq_true (by omega)))) (VL.nil (V.condT rfl (V.seq (V.region (VL.op (R.asS rfl) (VL.op (R.asI rfl) (VL.nil (V.ret (fret2 (v:=.slice _ _ _) (x:=.int _ _) rfl rfl rfl rfl rfl (?_)))))))))))))
  refine ⟨⟨none,0,[],3⟩,rfl,⟨⟨TSl.nil _ _ _ _,fun x hx=>nomatch hx⟩,fun x hx=>(nomatch hx),?_⟩,E1.trans e3⟩
  unfold listG
  rw [if_pos hv,if_neg hb]
  rfl
structure FsK (w:World) (r:List Int×Bool) (z:SlI×Bool) (w':World):Prop where
 e:(z.1.l,z.2)=r
 s:IntSl w' z.1.a z.1.l
 t:TyA w' z.1.a 3
theorem rfirst29_spec (g:GrW) (wa:Option Addr) (wc:Nat) (W:List WyI) (h:Bool) (w:World) (hG:GOk w g) (hl:GLen g) (hn:g.n≤12) (hv:validG (grV g)=true) (hW:WL w wa W) (hWl:∀ y∈W,WLen y) (hWm:W.length≤1000000) :
  RetsX Tryz.prog 17 #[.agg (encGr g).toArray,.slice wa W.length wc,.bool h] w (fun z:SlI×Bool=>.tuple #[.slice z.1.a z.1.l.length z.1.c,.bool z.2]) (FsK w (firstI (grV g) (W.map wyV) h)):=by
 refine enter (args:=[_,_,_]) Tryz.func17 rfl Tryz.ntmps17 (by kernel_rfl) rfl ?_
 refine V.seq (V.region (VL.box (v:=.agg _) rfl fun b0_0 w0_0 hb0_0 e0_0 hB0_0=>VL.op (R.asS rfl) (VL.op (R.asB rfl) (VL.nil (V.seq (V.region (VL.op (R.ldA Tryz.isAgg25 Tryz.sizeOf25 rfl rfl ((show RowAt _ _ _ (encGr g) from hB0_0.rowAt 0 3)) rfl) (VL.callX Tryz.call37 rfl (list28t_spec g _ (hG.ext e0_0) hl hn) fun x w1 h1 e1=>VL.op (R.mvT rfl) (VL.op (R.extr rfl rfl) (VL.op (R.extr rfl rfl) (VL.op (R.asS rfl) (VL.op (R.asI rfl) (VL.nil (V.seq (V.seq (?_))))))))))))))))
 have E1:Ext w w1:=e0_0.trans e1
 obtain ⟨hL,hty,hv1⟩:=h1
 have hcb:=costB_iff.1 (validG_iff.1 hv).1
 obtain ⟨N,hN⟩:∃ N:Nat,(grV g).n=(N:Int):=⟨(grV g).n.toNat,by have:=hcb.1;omega⟩
 have hN12:N≤12:=by have h1:(grV g).n=g.n:=rfl;omega
 have hle:=reps_sper hN hN12 (reps_up hv) fun R hR=>(reps_mem hv).1 hR
 have hli:vals x.L=repsG (grV g):=by
  unfold listG at hv1
  rw [if_pos hv,if_pos (by omega)] at hv1
  exact congrArg Prod.fst hv1
 have hxn:x.L.length≤924:=by rw [←hli] at hle;unfold vals at hle;rwa [List.length_map] at hle
 have hxl:∀ y∈x.L,y.l.length≤1000000:=fun y hy=>by
  have hm:y.l∈repsG (grV g):=by rw [←hli];exact List.mem_map_of_mem hy
  have:=rep_len ((reps_mem hv).1 hm) hcb.1
  omega
 have hat:∀ k,k<x.L.length→(repsG (grV g)).getD k default=(x.L.getD k default).l:=fun k hk=>by rw [←hli];exact gmap SlI.l x.L default hk
 have hrl:(repsG (grV g)).length=x.L.length:=by rw [←hli];exact List.length_map _
 refine V.region (VL.op (R.asI rfl) (VL.nil (V.block (?_))))
 refine V.loop [1,2,8,10] (fun k:Nat=>[.slice wa W.length wc,.bool h,.slice x.a x.L.length x.c,.int .i64 (k:Nat)])
  (fun k w'=>k≤x.L.length∧(∀ j,j<k→decide (someW (W.map wyV) (x.L.getD j default).l=h)=false)∧Ext w1 w') (fun k=>x.L.length-k) 0 rfl ⟨Nat.zero_le _,fun j hj=>absurd hj (Nat.not_lt_zero j),Vc.Mod.refl _ _⟩ ?_
 rintro ρ k w2 ⟨hk,hb,e2⟩
 have E2:Ext w w2:=E1.trans e2
 have hL2:=hL.ext e2
 refine V.seq (V.seq (V.region (VL.op (R.mvI rfl) (VL.op (R.mvS rfl) (VL.op (R.lenS Tryz.runUnderlying23 rfl) (VL.op (R.lss rfl rfl) (VL.nil (V.condP rfl (fun c19=>V.skip (V.seq (V.block (V.seq (?_))))) (fun c19=>V.exit (V.seq (?_)))))))))))
 ·have hkl:k<x.L.length:=by omega
  have hxk:=hxl _ (gmem hkl)
  refine V.region (VL.op (R.mvS rfl) (VL.op (R.mvS rfl) (VL.op (R.mvI rfl) (VL.op (R.ixS Tryz.runUnderlying23 Tryz.sizeOf22 rfl rfl (by omega) (by omega) (hL2.sl.some (i:=k) hkl)) (VL.op (R.ld1 Tryz.isAgg22 rfl (((hL2.sl.row (i:=k) hkl).cell (i:=0) rfl))) (VL.callP Tryz.call22 rfl (rsome29_spec wa wc W (x.L.getD k default).a (x.L.getD k default).c (x.L.getD k default).l _ (hW.ext (E2.trans (Mod.refl _ _))) hWl hWm ((hL2.at hkl).ext (Mod.refl _ _)) hxk) fun w5_5 e5_5=>VL.op (R.mvB rfl) (VL.op (R.eqlB eqW4 rfl rfl) (VL.nil (V.condP rfl (fun c29=>V.seq (V.region (VL.op (R.mvS rfl) (VL.op (R.mvI rfl) (VL.op (R.ixS Tryz.runUnderlying23 Tryz.sizeOf22 rfl rfl (by omega) (by omega) ((hL2.ext e5_5).sl.some (i:=k) hkl)) (VL.op (R.ld1 Tryz.isAgg22 rfl ((((hL2.ext e5_5).sl.row (i:=k) hkl).cell (i:=0) rfl))) (VL.op (R.asS rfl) (VL.op (R.asB rfl) (VL.nil (V.ret (fret2 (v:=.slice _ _ _) (x:=.bool _) rfl rfl rfl rfl rfl (?_)))))))))))) (fun c29=>V.skip (V.region (VL.op (R.mvI rfl) (VL.op (R.add rfl rfl (by omega) (by omega)) (VL.op (R.asI rfl) (VL.nil (?_))))))))))))))))
  ·have hf:firstI (grV g) (W.map wyV) h=((x.L.getD k default).l,true):=by
    unfold firstI
    rw [findL_at (k:=k) (by omega) (by rw [hat k hkl];exact decide_eq_true c29) fun j hj=>by rw [hat j (by omega)];exact hb j hj,hat k hkl]
   exact ⟨(x.L.getD k default,true),rfl,⟨hf.symm,(hL2.at hkl).ext e5_5,(hty _ (gmem hkl)).ext (e2.trans e5_5)⟩,E2.trans e5_5⟩
  ·refine ⟨k+1,rfl,⟨by omega,fun j hj=>?_,e2.trans e5_5⟩,by omega⟩
   by_cases e:j=k
   ·subst e;exact decide_eq_false c29
   ·exact hb j (by omega)
 ·have hke:k=x.L.length:=by omega
  subst hke
  have hf:firstI (grV g) (W.map wyV) h=([],false):=by
   unfold firstI
   rw [findL_no fun j hj=>by rw [hat j (by omega)];exact hb j (by omega)]
  refine V.region (VL.op (R.asS rfl) (VL.op (R.asB rfl) (VL.nil (V.ret (fret2 (v:=.slice _ _ _) (x:=.bool _) rfl rfl rfl rfl rfl (⟨(⟨none,0,[]⟩,false),rfl,⟨hf.symm,TSl.nil _ _ _ _,TyA.none _ _⟩,E2⟩))))))
def refD (g:Gr) (W:List Wy):(Int×List Int×List Int)×Int :=
 if errG g W≠0 then ((0,[],[]),errG g W) else
  ((if (firstI g W false).2=false then 1 else if (firstI g W true).2=false then 3 else 2,(firstI g W true).1,(firstI g W false).1),0)
structure RdK (r:(Int×List Int×List Int)×Int) (z:CmX×Int) (w':World):Prop where
 e:((z.1.v,z.1.i.l,z.1.o.l),z.2)=r
 i:IntSl w' z.1.i.a z.1.i.l
 o:IntSl w' z.1.o.a z.1.o.l
theorem rdecide29_spec (g:GrW) (wa:Option Addr) (wc:Nat) (W:List WyI) (w:World) (hG:GOk w g) (hl:GLen g) (hn:g.n≤12) (hW:WL w wa W) (hWl:∀ y∈W,WLen y) (hWm:W.length≤1000000) :
  RetsX Tryz.prog 12 #[.agg (encGr g).toArray,.slice wa W.length wc] w (fun z:CmX×Int=>.tuple #[.agg (encCm z.1).toArray,.int .i64 z.2]) (RdK (refD (grV g) (W.map wyV))):=by
 refine enter (args:=[_,_]) Tryz.func12 rfl Tryz.ntmps12 (by kernel_rfl) rfl ?_
 refine V.seq (V.region (VL.box (v:=.agg _) rfl fun b0_0 w0_0 hb0_0 e0_0 hB0_0=>VL.alloc Tryz.zeroValue33 fun b0_1 w0_1 hb0_1 e0_1 hB0_1=>VL.op (R.asI rfl) (VL.nil (V.seq (V.region (VL.op (R.ldA Tryz.isAgg25 Tryz.sizeOf25 rfl rfl ((show RowAt _ _ _ (encGr g) from (hB0_0.ext e0_1).rowAt 0 3)) rfl) (VL.op (R.mvS rfl) (VL.callP Tryz.call24 rfl (rerror29_spec g wa wc W _ (hG.ext (e0_0.trans e0_1)) hl (hW.ext (e0_0.trans e0_1)) hWl hWm) fun w1_2 e1_2=>VL.op (R.asI rfl) (VL.nil (V.seq (V.seq (?_))))))))))))
 have hX1:=hB0_0.ext (e0_1.trans e1_2)
 have hC1:=hB0_1.ext e1_2
 have E1:Ext w w1_2:=(e0_0.trans e0_1).trans e1_2
 have s00:=e0_0.size
 have s01:=e0_1.size
 have s1:=e1_2.size
 refine V.region (VL.op (R.mvI rfl) (VL.op (R.neq rfl rfl) (VL.nil (V.condP rfl (fun c16=>V.seq (?_)) (fun c16=>V.skip (V.seq (?_)))))))
 ·refine V.region (VL.op (R.build Tryz.zeroValue33 Tryz.runUnderlying33 pl33 rfl) (VL.op (R.mvI rfl) (VL.store (v:=.agg _) Tryz.sizeOf33 rfl rfl rfl rfl hC1 rfl rfl fun w3 m3 hs3 hB3=>VL.op (R.asI rfl) (VL.nil (V.ret (fretCT (v:=.int _ _) rfl rfl rfl rfl rfl Tryz.isAgg33 Tryz.sizeOf33 rfl (hB3.rowAt 0 4) rfl (?_)))))))
  refine ⟨(⟨0,⟨none,0,[]⟩,⟨none,0,[]⟩,⟨none,0,[]⟩⟩,errG (grV g) (W.map wyV)),rfl,⟨?_,TSl.nil _ _ _ _,TSl.nil _ _ _ _⟩,E1.ownA m3 fun q (hq:q=b0_1)=>by omega⟩
  unfold refD
  rw [if_pos c16]
 ·have he:errG (grV g) (W.map wyV)=0:=by simpa using c16
  have hv:=(ready_ok (err_ready he) true []).v
  refine V.region (VL.op (R.ldA Tryz.isAgg25 Tryz.sizeOf25 rfl rfl ((show RowAt _ _ _ (encGr g) from hX1.rowAt 0 3)) rfl) (VL.op (R.mvS rfl) (VL.callX Tryz.call17 rfl (rfirst29_spec g wa wc W true _ (hG.ext E1) hl hn hv (hW.ext E1) hWl hWm) fun z1 w4 h4 e4=>VL.op (R.mvT rfl) (VL.op (R.extr rfl rfl) (VL.op (R.extr rfl rfl) (VL.op (R.asS rfl) (VL.op (R.asB rfl) (VL.nil (V.seq (?_))))))))))
  have E4:Ext w w4:=E1.trans e4
  have hX4:=hX1.ext e4
  have hC4:=hC1.ext e4
  obtain ⟨⟨a1,c1,l1⟩,t1⟩:=z1
  refine V.region (VL.op (R.ldA Tryz.isAgg25 Tryz.sizeOf25 rfl rfl ((show RowAt _ _ _ (encGr g) from hX4.rowAt 0 3)) rfl) (VL.op (R.mvS rfl) (VL.callX Tryz.call17 rfl (rfirst29_spec g wa wc W false _ (hG.ext E4) hl hn hv (hW.ext E4) hWl hWm) fun z2 w5 h5 e5=>VL.op (R.mvT rfl) (VL.op (R.extr rfl rfl) (VL.op (R.extr rfl rfl) (VL.op (R.asS rfl) (VL.op (R.asB rfl) (VL.nil (V.seq (?_))))))))))
  have E5:Ext w w5:=E4.trans e5
  have hX5:=hX4.ext e5
  have hC5:=hC4.ext e5
  obtain ⟨⟨a2,c2,l2⟩,t2⟩:=z2
  have hF1:=h4.e
  have hF2:=h5.e
  have hi5:=h4.s.ext e5
  have ho5:=h5.s
  have ty1:=h4.t.ext e5
  have ty2:=h5.t
  have s4:=e4.size
  have s5:=e5.size
  have lC:=hB0_1.lt
  dsimp only at hF1 hF2 hi5 ho5 ty1 ty2 ⊢
  refine V.region (VL.op (R.mvS rfl) (VL.op (R.mvS rfl) (VL.op (R.build Tryz.zeroValue33 Tryz.runUnderlying33 pl33 rfl) (VL.allocSt (v:=.agg _) Tryz.zeroValue33 Tryz.sizeOf33 rfl rfl rfl rfl rfl fun b6_3 w6_3 hb6_3 e6_3 hB6_3=>VL.nil (V.seq (V.seq (?_)))))))
  have hC6:=hC5.ext e6_3
  have s6:=e6_3.size
  have hR6:Blk w6_3 b6_3 (.cells #[.int .i64 2,.slice a1 l1.length c1,.slice a2 l2.length c2,.slice none 0 0] 33 (0,0)):=hB6_3
  have hb63:w5.heap.size≤b6_3:=by omega
  clear hB6_3
  have fin:∀ (v:Int) (w' w'':World),Ext w5 w'→Vc.Mod (Vc.one b0_1) w' w''→refD (grV g) (W.map wyV)=((v,l1,l2),0)→∃ y:CmX×Int,(.tuple #[.agg #[.int .i64 v,.slice a1 l1.length c1,.slice a2 l2.length c2,.slice none 0 0],.int .i64 0]:Value)=.tuple #[.agg (encCm y.1).toArray,.int .i64 y.2]∧RdK (refD (grV g) (W.map wyV)) y w''∧Ext w w'':=fun v w' w'' e m hd=>by
   refine ⟨(⟨v,⟨a1,c1,l1⟩,⟨a2,c2,l2⟩,⟨none,0,[]⟩⟩,0),rfl,⟨hd.symm,?_,?_⟩,(E5.trans e).ownA m fun q (hq:q=b0_1)=>by omega⟩
   ·exact (hi5.ext e).mod m fun ad ha (hs:ad.block=b0_1)=>(ty1.ext e).apart (hs▸hC5.ext e) (by decide) ⟨ad,ha,rfl⟩
   ·exact (ho5.ext e).mod m fun ad ha (hs:ad.block=b0_1)=>(ty2.ext e).apart (hs▸hC5.ext e) (by decide) ⟨ad,ha,rfl⟩
  have hrd:∀ v,v=(if t2=false then (1:Int) else if t1=false then 3 else 2)→refD (grV g) (W.map wyV)=((v,l1,l2),0):=fun v hvv=>by
   unfold refD
   rw [if_neg c16,←hF1,←hF2,hvv]
  have hone:∀ {w':World},Vc.Mod (Vc.one b6_3) w6_3 w'→Ext w5 w':=fun m=>e6_3.ownA m fun q (hq:q=b6_3)=>by omega
  have hne:¬b0_1=b6_3:=by have:=hC5.lt;omega
  cases t1 <;> cases t2
  ·refine V.region (VL.op (R.mvB rfl) (VL.op (R.not rfl) (VL.nil (V.condT rfl (V.region (VL.op (R.fld' (o:=0) Tryz.runUnderlying33 rfl rfl Tryz.sizeOf3 rfl rfl) (VL.store (v:=.int _ _) Tryz.sizeOf3 rfl rfl rfl rfl hR6 rfl rfl fun w8 m8 hs8 hB8=>VL.nil (V.seq (V.seq (V.region (VL.op (R.mvB rfl) (VL.op (R.not rfl) (VL.nil (V.condT rfl (?_)))))))))))))))
   have hR8:Blk w8 b6_3 (.cells #[.int .i64 3,.slice a1 l1.length c1,.slice a2 l2.length c2,.slice none 0 0] 33 (0,0)):=hB8
   refine V.region (VL.op (R.fld' (o:=0) Tryz.runUnderlying33 rfl rfl Tryz.sizeOf3 rfl rfl) (VL.store (v:=.int _ _) Tryz.sizeOf3 rfl rfl rfl rfl hR8 rfl rfl fun w10 m10 hs10 hB10=>VL.nil (V.seq (?_))))
   have hR10:Blk w10 b6_3 (.cells #[.int .i64 1,.slice a1 l1.length c1,.slice a2 l2.length c2,.slice none 0 0] 33 (0,0)):=hB10
   have m80:=m8.then m10 fun _ _ h=>h
   refine V.region (VL.op (R.ldA Tryz.isAgg33 Tryz.sizeOf33 rfl rfl ((hR10.rowAt 0 4)) rfl) (VL.store (v:=.agg _) Tryz.sizeOf33 rfl rfl rfl rfl (hC6.mod m80 (fun (hh:b0_1=b6_3)=>hne hh)) rfl rfl fun w12 m12 hs12 hB12=>VL.op (R.asI rfl) (VL.nil (V.ret (fretCT (v:=.int _ _) rfl rfl rfl rfl rfl Tryz.isAgg33 Tryz.sizeOf33 rfl (hB12.rowAt 0 4) rfl (?_))))))
   exact fin 1 w10 w12 (hone m80) m12 (hrd _ rfl)
  ·refine V.region (VL.op (R.mvB rfl) (VL.op (R.not rfl) (VL.nil (V.condT rfl (V.region (VL.op (R.fld' (o:=0) Tryz.runUnderlying33 rfl rfl Tryz.sizeOf3 rfl rfl) (VL.store (v:=.int _ _) Tryz.sizeOf3 rfl rfl rfl rfl hR6 rfl rfl fun w8 m8 hs8 hB8=>VL.nil (V.seq (V.seq (V.region (VL.op (R.mvB rfl) (VL.op (R.not rfl) (VL.nil (V.condF rfl (V.skip (V.seq (?_)))))))))))))))))
   have hR8:Blk w8 b6_3 (.cells #[.int .i64 3,.slice a1 l1.length c1,.slice a2 l2.length c2,.slice none 0 0] 33 (0,0)):=hB8
   refine V.region (VL.op (R.ldA Tryz.isAgg33 Tryz.sizeOf33 rfl rfl ((hR8.rowAt 0 4)) rfl) (VL.store (v:=.agg _) Tryz.sizeOf33 rfl rfl rfl rfl (hC6.mod m8 (fun (hh:b0_1=b6_3)=>hne hh)) rfl rfl fun w12 m12 hs12 hB12=>VL.op (R.asI rfl) (VL.nil (V.ret (fretCT (v:=.int _ _) rfl rfl rfl rfl rfl Tryz.isAgg33 Tryz.sizeOf33 rfl (hB12.rowAt 0 4) rfl (?_))))))
   exact fin 3 w8 w12 (hone m8) m12 (hrd _ rfl)
  ·refine V.region (VL.op (R.mvB rfl) (VL.op (R.not rfl) (VL.nil (V.condF rfl (V.skip (V.seq (V.seq (V.region (VL.op (R.mvB rfl) (VL.op (R.not rfl) (VL.nil (V.condT rfl (?_)))))))))))))
   refine V.region (VL.op (R.fld' (o:=0) Tryz.runUnderlying33 rfl rfl Tryz.sizeOf3 rfl rfl) (VL.store (v:=.int _ _) Tryz.sizeOf3 rfl rfl rfl rfl hR6 rfl rfl fun w10 m10 hs10 hB10=>VL.nil (V.seq (?_))))
   have hR10:Blk w10 b6_3 (.cells #[.int .i64 1,.slice a1 l1.length c1,.slice a2 l2.length c2,.slice none 0 0] 33 (0,0)):=hB10
   refine V.region (VL.op (R.ldA Tryz.isAgg33 Tryz.sizeOf33 rfl rfl ((hR10.rowAt 0 4)) rfl) (VL.store (v:=.agg _) Tryz.sizeOf33 rfl rfl rfl rfl (hC6.mod m10 (fun (hh:b0_1=b6_3)=>hne hh)) rfl rfl fun w12 m12 hs12 hB12=>VL.op (R.asI rfl) (VL.nil (V.ret (fretCT (v:=.int _ _) rfl rfl rfl rfl rfl Tryz.isAgg33 Tryz.sizeOf33 rfl (hB12.rowAt 0 4) rfl (?_))))))
   exact fin 1 w10 w12 (hone m10) m12 (hrd _ rfl)
  ·refine V.region (VL.op (R.mvB rfl) (VL.op (R.not rfl) (VL.nil (V.condF rfl (V.skip (V.seq (V.seq (V.region (VL.op (R.mvB rfl) (VL.op (R.not rfl) (VL.nil (V.condF rfl (V.skip (V.seq (?_)))))))))))))))
   refine V.region (VL.op (R.ldA Tryz.isAgg33 Tryz.sizeOf33 rfl rfl ((hR6.rowAt 0 4)) rfl) (VL.store (v:=.agg _) Tryz.sizeOf33 rfl rfl rfl rfl hC6 rfl rfl fun w12 m12 hs12 hB12=>VL.op (R.asI rfl) (VL.nil (V.ret (fretCT (v:=.int _ _) rfl rfl rfl rfl rfl Tryz.isAgg33 Tryz.sizeOf33 rfl (hB12.rowAt 0 4) rfl (?_))))))
   exact fin 2 w6_3 w12 e6_3 m12 (hrd _ rfl)
end Go.Proofs.YtdbcfpcicjgghaaGreatDoor

/- Solve: the walk of law SolveMatchesReference. -/
namespace Go.Proofs.YtdbcfpcicjgghaaGreatDoor
open Go.Vc
set_option maxRecDepth 100000
set_option maxHeartbeats 16000000
theorem dec_ref {g:Gr} {W:List Wy} (hn:g.n≤15):(decideF g W).2=(refD g W).2∧(decideF g W).1.1=(refD g W).1.1∧(decideF g W).1.2.1=(refD g W).1.2.1∧(decideF g W).1.2.2.1=(refD g W).1.2.2:=by
 by_cases he:errG g W=0
 ·have hp:(ptI g W).length≤15:=by have:=named_len (err_ready he);omega
  have hv:=(ready_ok (err_ready he) true []).v
  have hD:∀ r,(if (firstI g W false).2=false then (1:Int) else if (firstI g W true).2=false then 3 else 2)=r→refD g W=((r,(firstI g W true).1,(firstI g W false).1),0):=fun r hr=>by
   unfold refD
   rw [if_neg (by omega),hr]
  unfold decideF
  rcases exists_first (h:=true) he (by omega) hp with ⟨R,k1,h1,h2⟩ | ⟨k1,S,h1,h2⟩
  ·rcases exists_first (h:=false) he (by omega) hp with ⟨Q,k3,h3,h4⟩ | ⟨k3,T,h3,h4⟩
   ·rw [h1,h3,hD 2 (by rw [k1,k3];rfl),k1,k3];exact ⟨rfl,rfl,rfl,rfl⟩
   ·rw [h1,h3,hD 1 (by rw [k3];rfl),k1,k3]
    dsimp only
    rw [if_neg (by decide),if_neg (by decide),if_neg (by decide),if_pos (checkA_pos h4).1]
    exact ⟨rfl,rfl,rfl,rfl⟩
  ·rcases exists_first (h:=false) he (by omega) hp with ⟨Q,k3,h3,h4⟩ | ⟨k3,T,h3,h4⟩
   ·rw [h1,h3,hD 3 (by rw [k1,k3];rfl),k1,k3]
    dsimp only
    rw [if_neg (by decide),if_neg (by decide),if_pos (checkA_pos h2).1]
    exact ⟨rfl,rfl,rfl,rfl⟩
   ·exfalso
    obtain ⟨X,hX⟩:=List.exists_mem_of_ne_nil _ (reps_ne hv)
    have hX:=(reps_mem hv).1 hX
    have a1:=check_sound h2 hX
    have a2:=check_sound h4 hX
    rw [a1] at a2;cases a2
 ·rw [decide_err he]
  unfold refD
  rw [if_pos he]
  exact ⟨rfl,rfl,rfl,rfl⟩
theorem matches29_law (g:GrW) (wa:Option Addr) (wc:Nat) (W:List WyI) (B:Nat) (w:World) (hI:GIn w g) (hW:WIn29 w wa W) (hB:B≤w.heap.size) (hT:TabW B w) :
  RetsP Tryz.prog 3 #[.agg (encGr g).toArray,.slice wa W.length wc] w (.bool true):=by
 refine enter (args:=[_,_]) Tryz.func3 rfl Tryz.ntmps3 (by kernel_rfl) rfl ?_
 refine V.seq (V.region (VL.box (v:=.agg _) rfl fun b0_0 w0_0 hb0_0 e0_0 hB0_0=>VL.op (R.asB rfl) (VL.nil (V.seq (V.region (VL.callP Tryz.call10 rfl (head29_spec B _ (Nat.le_trans hB (Vc.Mod.size e0_0)) (hT.ext hB e0_0)) fun w1_0 e1_0=>VL.op (R.asB rfl) (VL.nil (V.seq (V.seq (V.region (VL.op (R.ldA Tryz.isAgg25 Tryz.sizeOf25 rfl rfl ((show RowAt _ _ _ (encGr g) from (hB0_0.ext e1_0).rowAt 0 3)) rfl) (VL.op (R.mvS rfl) (VL.callX Tryz.call11 rfl (few29_spec g wa wc W 12 _ (hI.ext (e0_0.trans e1_0)) (hW.ok.ext (e0_0.trans e1_0)) hW.m hW.e) fun b2 w2 h2 e2=>VL.op (R.not rfl) (VL.nil (V.cond rfl (fun c21=>V.seq (V.region (VL.op (R.mvB rfl) (VL.op (R.asB rfl) (VL.nil (V.ret (fret1 (v:=.bool _) rfl rfl rfl (⟨rfl,((e0_0.trans e1_0).trans e2)⟩)))))))) (fun c21=>V.skip (V.seq (?_))))))))))))))))))
 have hf:=h2 (by simpa using c21)
 have hgl:=hI.glen hf.e
 have hwl:=hf.w.wl (by decide)
 have hw12:=hf.w.w
 have hgn:=hf.n
 have hgv:(grV g).n=g.n:=rfl
 have E2:Ext w w2:=e0_0.trans (e1_0.trans e2)
 have hX2:=hB0_0.ext (e1_0.trans e2)
 refine V.region (VL.op (R.ldA Tryz.isAgg25 Tryz.sizeOf25 rfl rfl ((show RowAt _ _ _ (encGr g) from hX2.rowAt 0 3)) rfl) (VL.op (R.mvS rfl) (VL.callX Tryz.call12 rfl (rdecide29_spec g wa wc W w2 (hI.ok.ext E2) hgl hgn (hW.ok.ext E2) hwl (by omega)) fun z4 w4 h4 e4=>VL.op (R.mvT rfl) (VL.op (R.extr rfl rfl) (VL.op (R.extr rfl rfl) (VL.allocSt (v:=.agg _) Tryz.zeroValue33 Tryz.sizeOf33 rfl rfl rfl rfl rfl fun b4_6 w4_6 hb4_6 e4_6 hB4_6=>VL.op (R.asI rfl) (VL.nil (V.seq (?_)))))))))
 have E4:Ext w w4_6:=E2.trans (e4.trans e4_6)
 have hX4:=hX2.ext (e4.trans e4_6)
 have hY4:Blk w4_6 b4_6 (.cells (Value.agg (encCm z4.1).toArray).cells 33 (0,0)):=hB4_6
 have hD4:=h4.e
 have hi4:=h4.i.ext e4_6
 have ho4:=h4.o.ext e4_6
 clear hB4_6
 refine V.region (VL.op (R.ldA Tryz.isAgg25 Tryz.sizeOf25 rfl rfl ((show RowAt _ _ _ (encGr g) from hX4.rowAt 0 3)) rfl) (VL.op (R.mvS rfl) (VL.callX Tryz.call13 rfl (decide29_spec g wa wc W B _ (hI.ok.ext E4) hgl (hW.ok.ext E4) hwl hW.h (by omega) (Nat.le_trans hB E4.size) (hT.ext hB E4)) fun z5 w5 h5 e5=>VL.op (R.mvT rfl) (VL.op (R.extr rfl rfl) (VL.op (R.extr rfl rfl) (VL.allocSt (v:=.agg _) Tryz.zeroValue33 Tryz.sizeOf33 rfl rfl rfl rfl rfl fun b5_6 w5_6 hb5_6 e5_6 hB5_6=>VL.op (R.asI rfl) (VL.nil (V.seq (V.seq (?_))))))))))
 have E5:Ext w w5_6:=E4.trans (e5.trans e5_6)
 have hX5:=hX4.ext (e5.trans e5_6)
 have hY5:Blk w5_6 b5_6 (.cells (Value.agg (encCm z5.1).toArray).cells 33 (0,0)):=hB5_6
 have hZ4:=hY4.ext (e5.trans e5_6)
 have hD5:=h5.e
 have hi4:=hi4.ext (e5.trans e5_6)
 have ho4:=ho4.ext (e5.trans e5_6)
 have hi5:=(h5.i.ext e5_6)
 have ho5:=(h5.o.ext e5_6)
 have hs5:=(h5.s.ext e5_6)
 clear hB5_6
 obtain ⟨q0,q1,q2,q3⟩:=dec_ref (g:=grV g) (W:=W.map wyV) (by omega)
 have hlen:=dc_len (g:=grV g) (W:=W.map wyV)
 rw [←hD4,←hD5] at q0 q1 q2 q3
 rw [←hD5] at hlen
 dsimp only at q0 q1 q2 q3 hlen
 have hcode:=(ready_len (g:=grV g) (W:=W.map wyV) (by omega)).2
 have hpv:z5.2=0→provesB (grV g) (W.map wyV) z5.1.v z5.1.i.l z5.1.o.l z5.1.p.S=true:=fun h0=>by
  have:=dc_proves (g:=grV g) (W:=W.map wyV) (by rw [←hD5];exact h0)
  rwa [←hD5] at this
 rw [←hD5] at hcode
 dsimp only at hcode
 have m2:z4.1.i.l.length≤4000:=by rw [←q2];omega
 have m3:z4.1.o.l.length≤4000:=by rw [←q3];omega
 have hprv:∀ {w':World},z5.2=0→Ext w5_6 w'→RetsP Tryz.prog 15 #[.agg (encGr g).toArray,.slice wa W.length wc,.agg (encCm z5.1).toArray] w' (.bool true):=fun h0 e=>by
  have:=rproves29_spec g wa wc W z5.1 _ (hI.ok.ext (E5.trans e)) hgl (hW.ok.ext (E5.trans e)) hwl (by omega) (hi5.ext e).sl (by omega) (fun h=>hi5.hax h) (ho5.ext e).sl (by omega) (fun h=>ho5.hax h) (hs5.ext e).sl (by omega)
  rwa [hpv h0] at this
 refine V.region (VL.op (R.mvI rfl) (VL.op (R.mvI rfl) (VL.op (R.lit (R.neq rfl rfl) ((decide_eq_false (fun h=>h q0)))) (VL.op (R.mvB rfl) (VL.gT rfl rfl (VL.op (R.fld' (o:=0) Tryz.runUnderlying33 rfl rfl Tryz.sizeOf3 rfl rfl) (VL.gT rfl rfl (VL.op (R.ld1 Tryz.isAgg3 rfl ((show _=some (Value.int .i64 z5.1.v) from hY5.cell 0))) (VL.gT rfl rfl (VL.op (R.fld' (o:=0) Tryz.runUnderlying33 rfl rfl Tryz.sizeOf3 rfl rfl) (VL.gT rfl rfl (VL.op (R.ld1 Tryz.isAgg3 rfl ((show _=some (Value.int .i64 z4.1.v) from hZ4.cell 0))) (VL.gT rfl rfl (VL.op (R.lit (R.neq rfl rfl) ((decide_eq_false (fun h=>h q1)))) (VL.op (R.pickFB rfl rfl) (VL.op (R.mvB rfl) (VL.gT rfl rfl (VL.op (R.fld' (o:=1) Tryz.runUnderlying33 rfl rfl Tryz.sizeOf22 rfl rfl) (VL.gT rfl rfl (VL.op (R.ld1 Tryz.isAgg22 rfl ((show _=some (Value.slice z5.1.i.a z5.1.i.l.length z5.1.i.c) from hY5.cell 1))) (VL.gT rfl rfl (VL.op (R.fld' (o:=2) Tryz.runUnderlying33 rfl rfl Tryz.sizeOf22 rfl rfl) (VL.gT rfl rfl (VL.op (R.ld1 Tryz.isAgg22 rfl ((show _=some (Value.slice z5.1.o.a z5.1.o.l.length z5.1.o.c) from hY5.cell 2))) (VL.gT rfl rfl (VL.buildSl Tryz.runUnderlying23 Tryz.sizeOf22 Tryz.zeroValue22 rfl rfl rfl fun b6_15 w6_15 hb6_15 e6_15 hB6_15=>VL.gT rfl rfl (VL.op (R.fld' (o:=1) Tryz.runUnderlying33 rfl rfl Tryz.sizeOf22 rfl rfl) (VL.gT rfl rfl (VL.op (R.ld1 Tryz.isAgg22 rfl ((show _=some (Value.slice z4.1.i.a z4.1.i.l.length z4.1.i.c) from (hZ4.ext e6_15).cell 1))) (VL.gT rfl rfl (VL.op (R.fld' (o:=2) Tryz.runUnderlying33 rfl rfl Tryz.sizeOf22 rfl rfl) (VL.gT rfl rfl (VL.op (R.ld1 Tryz.isAgg22 rfl ((show _=some (Value.slice z4.1.o.a z4.1.o.l.length z4.1.o.c) from (hZ4.ext e6_15).cell 2))) (VL.gT rfl rfl (VL.buildSl Tryz.runUnderlying23 Tryz.sizeOf22 Tryz.zeroValue22 rfl rfl rfl fun b6_20 w6_20 hb6_20 e6_20 hB6_20=>VL.gT rfl rfl (VL.callP Tryz.call14 rfl ((sets_is ([z5.1.i,z5.1.o]:List SlI) ([z4.1.i,z4.1.o]:List SlI) _ _ 2 2 _ (by show [z5.1.i.l,z5.1.o.l]=[z4.1.i.l,z4.1.o.l];rw [q2,q3]) (Nat.le_of_ble_eq_true rfl) (fun x hx=>by simp only [List.mem_cons,List.not_mem_nil,or_false] at hx;rcases hx with hx | hx <;> rw [hx] <;> omega) (fun x hx=>by simp only [List.mem_cons,List.not_mem_nil,or_false] at hx;rcases hx with hx | hx <;> rw [hx] <;> omega) (litL (L:=([z5.1.i,z5.1.o]:List SlI)) (hB6_15.ext e6_20) rfl (litA (hi5.sl.ext (e6_15.trans e6_20)) (litA (ho5.sl.ext (e6_15.trans e6_20)) litA0))) (litL (L:=([z4.1.i,z4.1.o]:List SlI)) hB6_20 rfl (litA (hi4.ext (e6_15.trans e6_20)) (litA (ho4.ext (e6_15.trans e6_20)) litA0))))) fun w6_21 e6_21=>VL.gT rfl rfl (VL.op (R.not rfl) (VL.op (R.pickFB rfl rfl) (VL.nil (V.condF rfl (V.skip (V.seq (V.seq (?_))))))))))))))))))))))))))))))))))))))))))))
 have eQ:=(e6_15.trans e6_20).trans e6_21
 have E6:Ext w w6_21:=E5.trans eQ
 have hX6:=hX5.ext eQ
 have hY6:=hY5.ext eQ
 by_cases he:z5.2=0
 ·have herr:errG (grV g) (W.map wyV)=0:=by omega
  refine V.region (VL.op (R.mvI rfl) (VL.op (R.lit (R.eql rfl rfl) ((decide_eq_true he))) (VL.op (R.mvB rfl) (VL.gT rfl rfl (VL.op (R.ldA Tryz.isAgg25 Tryz.sizeOf25 rfl rfl ((show RowAt _ _ _ (encGr g) from hX6.rowAt 0 3)) rfl) (VL.gT rfl rfl (VL.op (R.mvS rfl) (VL.gT rfl rfl (VL.op (R.ldA Tryz.isAgg33 Tryz.sizeOf33 rfl rfl ((show RowAt _ _ _ (encCm z5.1) from hY6.rowAt 0 4)) rfl) (VL.gT rfl rfl (VL.callP Tryz.call15 rfl ((hprv he (eQ.trans (Mod.refl _ _)))) fun w8_6 e8_6=>VL.gT rfl rfl (VL.op (R.not rfl) (VL.op (R.pickTB rfl rfl) (VL.nil (V.condF rfl (V.skip (V.seq (V.seq (?_)))))))))))))))))))
  refine V.region (VL.op (R.asI rfl) (VL.nil (V.block (?_))))
  refine V.loop [1,2,5,7,10] (fun k:Nat=>[.slice wa W.length wc,.pointer (some ⟨b0_0,0,none⟩),.bool true,.int .i64 z4.2,.int .i64 (k:Nat)])
   (fun k w'=>k≤2∧Ext w8_6 w') (fun k=>2-k) 0 rfl ⟨Nat.zero_le _,Vc.Mod.refl _ _⟩ ?_
  rintro ρ k w11 ⟨hk,e11⟩
  have E11:Ext w w11:=(E6.trans e8_6).trans e11
  have hX11:=(hX6.ext e8_6).ext e11
  refine V.seq (V.seq (V.region (VL.op (R.mvI rfl) (VL.op (R.lss rfl rfl) (VL.nil (V.condP rfl (fun c69=>V.skip (V.seq (V.block (V.seq (?_))))) (fun c69=>V.exit (V.seq (?_)))))))))
  ·have hk2:k<2:=by omega
   refine V.region (VL.op (R.mvI rfl) (VL.op (R.eql rfl rfl) (VL.op (R.asB rfl) (VL.nil (V.seq (?_))))))
   refine V.region (VL.op (R.ldA Tryz.isAgg25 Tryz.sizeOf25 rfl rfl ((show RowAt _ _ _ (encGr g) from hX11.rowAt 0 3)) rfl) (VL.op (R.mvS rfl) (VL.op (R.mvB rfl) (VL.callX Tryz.call16 rfl (exists_spec g wa wc W (decide ((k:Int)=0)) B _ (hI.ok.ext E11) hgl (hW.ok.ext E11) hwl hW.h (by omega) (Nat.le_trans hB E11.size) (hT.ext hB E11)) fun z w14 h14 e14=>VL.op (R.mvT rfl) (VL.op (R.extr rfl rfl) (VL.op (R.extr rfl rfl) (VL.op (R.extr rfl rfl) (VL.allocSt1 (v:=.agg _) (v2:=.slice _ _ _) Tryz.zeroValue31 Tryz.sizeOf31 rfl rfl rfl rfl rfl rfl rfl rfl rfl fun b14_8 w14_8 hb14_8 e14_8 hB14_8=>VL.op (R.asI rfl) (VL.nil (V.seq (V.seq (?_))))))))))))
   have E14:Ext w w14_8:=E11.trans (e14.trans e14_8)
   have hX14:=hX11.ext (e14.trans e14_8)
   have hP:Blk w14_8 b14_8 (.cells (Value.agg (encPf z.2.1).toArray).cells 31 (0,0)):=hB14_8
   have hZ:=h14.e
   have hzo:=h14.o.ext e14_8
   have hzs:=h14.s.ext e14_8
   clear hB14_8
   have hp15:(ptI (grV g) (W.map wyV)).length≤15:=by have:=named_len (err_ready herr);omega
   have hv:=(ready_ok (err_ready herr) true []).v
   have hcz:z.2.2=0:=by
    have:=ex_code (g:=grV g) (W:=W.map wyV) (h:=decide ((k:Int)=0)) (by omega) (fun _=>hp15)
    rw [herr,←hZ] at this
    exact this
   refine V.region (VL.op (R.mvI rfl) (VL.op (R.mvI rfl) (VL.op (R.lit (R.neq rfl rfl) ((decide_eq_false (by omega)))) (VL.nil (V.condF rfl (V.skip (V.seq (V.seq (V.region (VL.op (R.mvI rfl) (VL.op (R.lit (R.neq rfl rfl) ((decide_eq_false (by omega)))) (VL.nil (V.condF rfl (V.skip (V.seq (V.region (VL.op (R.ldA Tryz.isAgg25 Tryz.sizeOf25 rfl rfl ((show RowAt _ _ _ (encGr g) from hX14.rowAt 0 3)) rfl) (VL.op (R.mvS rfl) (VL.op (R.mvB rfl) (VL.callX Tryz.call17 rfl (rfirst29_spec g wa wc W (decide ((k:Int)=0)) _ (hI.ok.ext E14) hgl hgn hv (hW.ok.ext E14) hwl (by omega)) fun y w20 h20 e20=>VL.op (R.mvT rfl) (VL.op (R.extr rfl rfl) (VL.op (R.extr rfl rfl) (VL.op (R.asS rfl) (VL.op (R.asB rfl) (VL.nil (V.seq (?_)))))))))))))))))))))))))))
   have E20:Ext w w20:=E14.trans e20
   have hX20:=hX14.ext e20
   have hP20:=hP.ext e20
   have hF:=h20.e
   have hys:=h20.s
   have hzo:=(hzo.ext e20).sl
   have hzs:=(hzs.ext e20).sl
   obtain ⟨y,t⟩:=y
   dsimp only at hF hys ⊢
   have key:z.1.l=y.l∧z.1.l.length≤4000∧((t=true∧z.2.1.S.length=0)∨(t=false∧0<z.2.1.S.length∧z.2.1.S.length≤100000∧checkA (grV g) (W.map wyV) (decide ((k:Int)=0)) z.2.1.S=true)):=by
    rcases exists_first (h:=decide ((k:Int)=0)) herr (by omega) hp15 with ⟨Q,k1,k2,k3⟩ | ⟨k1,S,k2,k3⟩
    ·rw [k1] at hF
     rw [k2] at hZ
     simp only [Prod.mk.injEq] at hF hZ
     have:=fst_len k3 hv
     exact ⟨by rw [hZ.1,hF.1],by rw [hZ.1];exact this,.inl ⟨hF.2,by rw [hZ.2.1];rfl⟩⟩
    ·rw [k1] at hF
     rw [k2] at hZ
     simp only [Prod.mk.injEq] at hF hZ
     have:=checkA_pos k3
     exact ⟨by rw [hZ.1,hF.1],by rw [hZ.1];exact Nat.zero_le _,.inr ⟨hF.2,by rw [hZ.2.1];exact this.1,by rw [hZ.2.1];exact this.2,by rw [hZ.2.1];exact k3⟩⟩
   obtain ⟨k1,k2,k3⟩:=key
   rcases k3 with ⟨k3,k4⟩ | ⟨k3,k4,k5,k6⟩
   ·subst k3
    refine V.region (VL.op (R.mvS rfl) (VL.buildSl Tryz.runUnderlying23 Tryz.sizeOf22 Tryz.zeroValue22 rfl rfl rfl fun b21_1 w21_1 hb21_1 e21_1 hB21_1=>VL.op (R.mvS rfl) (VL.buildSl Tryz.runUnderlying23 Tryz.sizeOf22 Tryz.zeroValue22 rfl rfl rfl fun b21_3 w21_3 hb21_3 e21_3 hB21_3=>VL.callP Tryz.call14 rfl ((sets_is ([z.1]:List SlI) ([y]:List SlI) _ _ 1 1 _ (by show [z.1.l]=[y.l];rw [k1]) (Nat.le_of_ble_eq_true rfl) (fun x hx=>by rw [List.mem_singleton.1 hx];omega) (fun x hx=>by rw [List.mem_singleton.1 hx,←k1];omega) (litL (L:=([z.1]:List SlI)) (hB21_1.ext e21_3) rfl (litA (hzo.ext (e21_1.trans e21_3)) litA0)) (litL (L:=([y]:List SlI)) hB21_3 rfl (litA (hys.ext (e21_1.trans e21_3)) litA0)))) fun w21_4 e21_4=>VL.op (R.not rfl) (VL.op (R.mvB rfl) (VL.gT rfl rfl (VL.op (R.mvB rfl) (VL.gT rfl rfl (VL.op (R.mvB rfl) (VL.gT rfl rfl (VL.op (R.fld' (o:=0) Tryz.runUnderlying31 rfl rfl Tryz.sizeOf29 rfl rfl) (VL.gT rfl rfl (VL.op (R.ld1 Tryz.isAgg29 rfl ((show _=some (Value.slice z.2.1.a z.2.1.S.length z.2.1.c) from (hP20.ext ((e21_1.trans e21_3).trans e21_4)).cell 0))) (VL.gT rfl rfl (VL.op (R.lenS Tryz.runUnderlying29 rfl) (VL.gT rfl rfl (VL.op (R.lit (R.gtr rfl rfl) ((decide_eq_false (by omega)))) (VL.gT rfl rfl (VL.op (R.pickTB rfl rfl) (VL.op (R.pickFB rfl rfl) (VL.op (R.mvB rfl) (VL.gT rfl rfl (VL.op (R.mvB rfl) (VL.gT rfl rfl (VL.op (R.not rfl) (VL.gT rfl rfl (VL.op (R.mvB rfl) (VL.gF rfl rfl (VL.gF rfl rfl (VL.gF rfl rfl (VL.gF rfl rfl (VL.gF rfl rfl (VL.gF rfl rfl (VL.gT rfl rfl (VL.op (R.pickFB rfl rfl) (VL.op (R.pickFB rfl rfl) (VL.nil (V.condF rfl (V.skip (V.region (VL.op (R.mvI rfl) (VL.op (R.add rfl rfl (by omega) (by omega)) (VL.op (R.asI rfl) (VL.nil (?_))))))))))))))))))))))))))))))))))))))))))))
    exact ⟨k+1,rfl,⟨by omega,e11.trans ((e14.trans e14_8).trans (e20.trans ((e21_1.trans e21_3).trans e21_4)))⟩,by omega⟩
   ·subst k3
    have hsh:∀ {w':World},Ext w20 w'→RetsP Tryz.prog 18 #[.agg (encGr g).toArray,.slice wa W.length wc,.bool (decide ((k:Int)=0)),.agg #[.slice z.2.1.a z.2.1.S.length z.2.1.c]] w' (.bool true):=fun e=>by
     have:=rshows29_spec g wa wc W (decide ((k:Int)=0)) z.2.1.a z.2.1.c z.2.1.S _ (hI.ok.ext (E20.trans e)) hgl (hW.ok.ext (E20.trans e)) hwl (by omega) (hzs.ext e) (by omega)
     rwa [k6] at this
    refine V.region (VL.op (R.mvS rfl) (VL.buildSl Tryz.runUnderlying23 Tryz.sizeOf22 Tryz.zeroValue22 rfl rfl rfl fun b21_1 w21_1 hb21_1 e21_1 hB21_1=>VL.op (R.mvS rfl) (VL.buildSl Tryz.runUnderlying23 Tryz.sizeOf22 Tryz.zeroValue22 rfl rfl rfl fun b21_3 w21_3 hb21_3 e21_3 hB21_3=>VL.callP Tryz.call14 rfl ((sets_is ([z.1]:List SlI) ([y]:List SlI) _ _ 1 1 _ (by show [z.1.l]=[y.l];rw [k1]) (Nat.le_of_ble_eq_true rfl) (fun x hx=>by rw [List.mem_singleton.1 hx];omega) (fun x hx=>by rw [List.mem_singleton.1 hx,←k1];omega) (litL (L:=([z.1]:List SlI)) (hB21_1.ext e21_3) rfl (litA (hzo.ext (e21_1.trans e21_3)) litA0)) (litL (L:=([y]:List SlI)) hB21_3 rfl (litA (hys.ext (e21_1.trans e21_3)) litA0)))) fun w21_4 e21_4=>VL.op (R.not rfl) (VL.op (R.mvB rfl) (VL.gT rfl rfl (VL.op (R.mvB rfl) (VL.gT rfl rfl (VL.op (R.mvB rfl) (VL.gF rfl rfl (VL.gF rfl rfl (VL.gF rfl rfl (VL.gF rfl rfl (VL.gT rfl rfl (VL.op (R.pickFB rfl rfl) (VL.op (R.pickFB rfl rfl) (VL.op (R.mvB rfl) (VL.gT rfl rfl (VL.op (R.mvB rfl) (VL.gT rfl rfl (VL.op (R.not rfl) (VL.gT rfl rfl (VL.op (R.mvB rfl) (VL.gT rfl rfl (VL.op (R.ldA Tryz.isAgg25 Tryz.sizeOf25 rfl rfl ((show RowAt _ _ _ (encGr g) from (hX20.ext ((e21_1.trans e21_3).trans e21_4)).rowAt 0 3)) rfl) (VL.gT rfl rfl (VL.op (R.mvS rfl) (VL.gT rfl rfl (VL.op (R.mvB rfl) (VL.gT rfl rfl (VL.op (R.ldA Tryz.isAgg31 Tryz.sizeOf31 rfl rfl ((show RowAt _ _ _ (encPf z.2.1) from (hP20.ext ((e21_1.trans e21_3).trans e21_4)).rowAt 0 1)) rfl) (VL.gT rfl rfl (VL.callP Tryz.call18 rfl (hsh ((e21_1.trans e21_3).trans e21_4)) fun w21_23 e21_23=>VL.gT rfl rfl (VL.op (R.not rfl) (VL.gT rfl rfl (VL.op (R.pickTB rfl rfl) (VL.op (R.pickFB rfl rfl) (VL.nil (V.condF rfl (V.skip (V.region (VL.op (R.mvI rfl) (VL.op (R.add rfl rfl (by omega) (by omega)) (VL.op (R.asI rfl) (VL.nil (?_)))))))))))))))))))))))))))))))))))))))))))))
    exact ⟨k+1,rfl,⟨by omega,e11.trans ((e14.trans e14_8).trans (e20.trans (((e21_1.trans e21_3).trans e21_4).trans e21_23)))⟩,by omega⟩
  ·refine V.region (VL.op (R.mvB rfl) (VL.op (R.asB rfl) (VL.nil (V.ret (fret1 (v:=.bool _) rfl rfl rfl (⟨rfl,E11⟩))))))
 ·have herr:errG (grV g) (W.map wyV)≠0:=by omega
  refine V.region (VL.op (R.mvI rfl) (VL.op (R.lit (R.eql rfl rfl) ((decide_eq_false he))) (VL.op (R.mvB rfl) (VL.gF rfl rfl (VL.gF rfl rfl (VL.gF rfl rfl (VL.gF rfl rfl (VL.gF rfl rfl (VL.op (R.pickFB rfl rfl) (VL.nil (V.condF rfl (V.skip (V.seq (V.seq (?_)))))))))))))))
  refine V.region (VL.op (R.asI rfl) (VL.nil (V.block (?_))))
  refine V.loop [1,2,5,7,10] (fun k:Nat=>[.slice wa W.length wc,.pointer (some ⟨b0_0,0,none⟩),.bool true,.int .i64 z4.2,.int .i64 (k:Nat)])
   (fun k w'=>k≤2∧Ext w6_21 w') (fun k=>2-k) 0 rfl ⟨Nat.zero_le _,Vc.Mod.refl _ _⟩ ?_
  rintro ρ k w11 ⟨hk,e11⟩
  have E11:Ext w w11:=(E6).trans e11
  have hX11:=hX6.ext e11
  refine V.seq (V.seq (V.region (VL.op (R.mvI rfl) (VL.op (R.lss rfl rfl) (VL.nil (V.condP rfl (fun c69=>V.skip (V.seq (V.block (V.seq (?_))))) (fun c69=>V.exit (V.seq (?_)))))))))
  ·have hk2:k<2:=by omega
   refine V.region (VL.op (R.mvI rfl) (VL.op (R.eql rfl rfl) (VL.op (R.asB rfl) (VL.nil (V.seq (?_))))))
   refine V.region (VL.op (R.ldA Tryz.isAgg25 Tryz.sizeOf25 rfl rfl ((show RowAt _ _ _ (encGr g) from hX11.rowAt 0 3)) rfl) (VL.op (R.mvS rfl) (VL.op (R.mvB rfl) (VL.callX Tryz.call16 rfl (exists_spec g wa wc W (decide ((k:Int)=0)) B _ (hI.ok.ext E11) hgl (hW.ok.ext E11) hwl hW.h (by omega) (Nat.le_trans hB E11.size) (hT.ext hB E11)) fun z w14 h14 e14=>VL.op (R.mvT rfl) (VL.op (R.extr rfl rfl) (VL.op (R.extr rfl rfl) (VL.op (R.extr rfl rfl) (VL.allocSt1 (v:=.agg _) (v2:=.slice _ _ _) Tryz.zeroValue31 Tryz.sizeOf31 rfl rfl rfl rfl rfl rfl rfl rfl rfl fun b14_8 w14_8 hb14_8 e14_8 hB14_8=>VL.op (R.asI rfl) (VL.nil (V.seq (V.seq (?_))))))))))))
   have E14:Ext w w14_8:=E11.trans (e14.trans e14_8)
   have hX14:=hX11.ext (e14.trans e14_8)
   have hP:Blk w14_8 b14_8 (.cells (Value.agg (encPf z.2.1).toArray).cells 31 (0,0)):=hB14_8
   have hZ:=h14.e
   have hzo:=h14.o.ext e14_8
   have hzs:=h14.s.ext e14_8
   clear hB14_8
   rw [exists_err herr] at hZ
   simp only [Prod.mk.injEq] at hZ
   obtain ⟨k1,k2,k3⟩:=hZ
   have l1:z.1.l.length=0:=by rw [k1];rfl
   have l2:z.2.1.S.length=0:=by rw [k2];rfl
   refine V.region (VL.op (R.mvI rfl) (VL.op (R.mvI rfl) (VL.op (R.lit (R.neq rfl rfl) ((decide_eq_false (by omega)))) (VL.nil (V.condF rfl (V.skip (V.seq (V.seq (V.region (VL.op (R.mvI rfl) (VL.op (R.lit (R.neq rfl rfl) ((decide_eq_true (by omega)))) (VL.nil (V.condT rfl (V.seq (V.seq (V.region (VL.op (R.mvS rfl) (VL.op (R.lenS Tryz.runUnderlying22 rfl) (VL.op (R.lit (R.gtr rfl rfl) ((decide_eq_false (by omega)))) (VL.op (R.mvB rfl) (VL.gT rfl rfl (VL.op (R.fld' (o:=0) Tryz.runUnderlying31 rfl rfl Tryz.sizeOf29 rfl rfl) (VL.gT rfl rfl (VL.op (R.ld1 Tryz.isAgg29 rfl ((show _=some (Value.slice z.2.1.a z.2.1.S.length z.2.1.c) from hP.cell 0))) (VL.gT rfl rfl (VL.op (R.lenS Tryz.runUnderlying29 rfl) (VL.gT rfl rfl (VL.op (R.lit (R.gtr rfl rfl) ((decide_eq_false (by omega)))) (VL.op (R.pickFB rfl rfl) (VL.nil (V.condF rfl (V.skip (V.exit (V.region (VL.op (R.mvI rfl) (VL.op (R.add rfl rfl (by omega) (by omega)) (VL.op (R.asI rfl) (VL.nil (?_)))))))))))))))))))))))))))))))))))))))
   exact ⟨k+1,rfl,⟨by omega,e11.trans (e14.trans e14_8)⟩,by omega⟩
  ·refine V.region (VL.op (R.mvB rfl) (VL.op (R.asB rfl) (VL.nil (V.ret (fret1 (v:=.bool _) rfl rfl rfl (⟨rfl,E11⟩))))))
end Go.Proofs.YtdbcfpcicjgghaaGreatDoor
