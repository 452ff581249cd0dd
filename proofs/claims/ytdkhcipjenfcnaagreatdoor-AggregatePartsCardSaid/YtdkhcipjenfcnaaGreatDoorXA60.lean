/- Aggregate: the walk of law AggregateParts. -/
import Derived.Test.YtdkhcipjenfcnaaGreatDoorXA56
import Derived.Test.YtdkhcipjenfcnaaGreatDoorXL7
namespace Go.Proofs.YtdkhcipjenfcnaaGreatDoor
set_option maxRecDepth 100000
set_option maxHeartbeats 16000000
open Go.Vc Go.Proofs.Tryz
theorem conf_part {g:Gr} (hg:validG g=true) {c:List Int} (hc:c∈compsG g):confI (partG g c).edges c.length≤confI g.edges g.n.toNat:=by
 have hset:=setB_iff.1 (comps_set hg hc)
 have hci:=comp_inc hg hc
 have hnd:((((List.range c.length).filter fun v:Nat=>inE (partG g c).edges (v:Int))).map fun v=>c.getD v default).Nodup:=by
  refine List.pairwise_map.2 ?_
  refine List.Pairwise.imp_of_mem ?_ (List.Pairwise.filter _ List.nodup_range)
  intro a b ha hb hne e
  have ha:=List.mem_range.1 (List.mem_filter.1 ha).1
  have hb:=List.mem_range.1 (List.mem_filter.1 hb).1
  exact hne (inc_getD hci ha hb e)
 have h:=nodup_sub (b:=((List.range g.n.toNat).filter fun v:Nat=>inE g.edges (v:Int)).map fun v:Nat=>(v:Int)) hnd fun x hx=>by
  obtain ⟨i,hi,rfl⟩:=List.mem_map.1 hx
  obtain ⟨h1,h2⟩:=List.mem_filter.1 hi
  have h1:=List.mem_range.1 h1
  obtain ⟨f,hf,hif⟩:=inE_iff.1 h2
  obtain ⟨e,he,hs,rfl⟩:=part_edges.1 hf
  obtain ⟨v,hv,hvi⟩:=List.mem_map.1 hif
  obtain ⟨i1,i2,i3⟩:=ix_at (subB_iff.1 hs v hv)
  have hvr:=hset.2 v (subB_iff.1 hs v hv)
  have hcv:c.getD i default=v:=by rw [←i3,hvi,Int.toNat_natCast]
  rw [hcv]
  refine List.mem_map.2 ⟨v.toNat,List.mem_filter.2 ⟨List.mem_range.2 (by omega),?_⟩,by omega⟩
  rw [show ((v.toNat:Nat):Int)=v by omega]
  exact inE_iff.2 ⟨e,he,hv⟩
 rw [List.length_map,List.length_map] at h
 exact h
theorem chk_part {g:Gr} {ws:List Int} (h:chkF g ws (-1000000000)=0) (hn:g.n≤40) {c:List Int} (hc:c∈compsG g):chkF (partG g c) (wtsC ws c) (-1000000000)=0:=by
 obtain ⟨hv,hl,hb,hf⟩:=chk_zero h
 have hset:=comps_set hv hc
 have hi:=setB_iff.1 hset
 have hl2:=set_len hi.1 hi.2 (by omega)
 have hw:wtsB (partG g c) (wtsC ws c) (-1000000000)=true:=by
  unfold wtsB
  rw [Bool.and_eq_true,decide_eq_true_eq,List.all_eq_true]
  refine ⟨by unfold wtsC;rw [List.length_map];rfl,fun x hx=>decide_eq_true ?_⟩
  obtain ⟨v,hv',rfl⟩:=List.mem_map.1 hx
  have hr:=hi.2 v hv'
  unfold wtF
  exact hb _ (gmem (by omega))
 unfold chkF
 rw [if_pos ⟨part_valid hv hset,hw⟩,if_neg]
 have:(partG g c).n=(c.length:Int):=rfl
 omega
def miC (ws:List Int) (g:Gr) (c:List Int):Int:=totW (wtsC ws c) (extG (wtsC ws c) (partG g c))
def maC (ws:List Int) (g:Gr) (c:List Int):Int:=totW (wtsC ws c) (extG (negW (wtsC ws c)) (partG g c))
theorem miC_min {g:Gr} (hg:validG g=true) (ws:List Int) {c:List Int} (hc:c∈compsG g):MinV (partG g c) (wtsC ws c) (miC ws g c):=by
 have L:=ext_least (part_valid hg (comps_set hg hc)) (wtsC ws c)
 exact ⟨⟨_,L.rep,rfl⟩,L.le⟩
theorem maC_max {g:Gr} (hg:validG g=true) (ws:List Int) {c:List Int} (hc:c∈compsG g):MaxV (partG g c) (wtsC ws c) (maC ws g c):=by
 have L:=ext_least (part_valid hg (comps_set hg hc)) (negW (wtsC ws c))
 refine ⟨⟨_,L.rep,rfl⟩,fun Z hZ=>?_⟩
 have:=L.le Z hZ
 rw [totW_neg,totW_neg] at this
 unfold maC
 omega
theorem wtsC_take {ws c:List Int} {k:Nat} (h:k<c.length):wtsC ws (c.take (k+1))=wtsC ws (c.take k)++[wtF ws (c.getD k default)]:=by
 unfold wtsC
 rw [List.take_succ_eq_append_getElem h,List.map_append,gget h];rfl
theorem end_bnd {g:Gr} (hg:validG g=true) (hn:g.n≤20) {ws:List Int} (hb:∀ x∈ws,-1000000000≤x∧x≤1000000000) (hl:(ws.length:Int)=g.n) {Z:List Int} (hZ:IsRep g Z):-20000000000≤totW ws Z∧totW ws Z≤20000000000:=by
 have i1:=setB_iff.1 hZ.set
 have i2:=set_len i1.1 i1.2 (costB_iff.1 (validG_iff.1 hg).1).1
 have:=tot_bnd hb (fun x hx=>by have:=i1.2 x hx;omega) Z.length (S:=Z)
 rw [List.take_length] at this
 omega
theorem sm_takeS {α:Type} [Inhabited α] {f:α→Int} {L:List α} {k:Nat} (h:k<L.length):sm ((L.take (k+1)).map f)=sm ((L.take k).map f)+f (L.getD k default):=by
 rw [List.take_succ_eq_append_getElem h,List.map_append,sm_app,gget h]
 show _+(f L[k]+0)=_
 omega
theorem parts31_law (g:GrW) (wa:Option Addr) (wc:Nat) (ws:List Int) (B:Nat) (w:World) (hI:GIn w g) (hW:IntSl w wa ws) (hwm:ws.length≤9223372036854775807) (hB:B≤w.heap.size) (hT:TabW B w) :
  RetsP prog 7 #[.agg (encGr g).toArray,.slice wa ws.length wc] w (.bool true):=by
 refine enter (args:=[_,_]) func7 rfl ntmps7 (by kernel_rfl) rfl ?_
 have ht:∀ {b:Bool},(!b)=false→b=true:=fun h=>by simpa using h
 refine Vs (Vr (VL.box (v:=.agg _) rfl fun b0_0 w0_0 hb0_0 e0_0 hB0_0=>oA rfl (Vn (Vs (Vr (VL.callP call11 rfl (head31_spec B _ (Nat.le_trans hB (e0_0).size) (hT.ext hB e0_0)) fun w1_0 e1_0=>oA rfl (Vn (Vs (Vs (Vr (Vo (R.ldA isAgg25 sizeOf25 rfl rfl ((show RowAt _ _ _ (encGr g) from (hB0_0.ext e1_0).rowAt 0 3)) rfl) (oS rfl (VL.callP call12 rfl (small31_spec g 20 wa wc ws _ (hI.ext (e0_0.trans e1_0)) (by decide) (by decide) hwm) fun w2_2 e2_2=>Vo (R.not rfl) (Vn (V.cond rfl (fun c22=>Vs (Vr (oB rfl (oA rfl (Vn (V.ret (fret1 (v:=.bool _) rfl rfl rfl (⟨rfl,((e0_0.trans e1_0).trans e2_2)⟩)))))))) (fun c22=>V.skip (Vs (?_))))))))))))))))))
 have hs31:=ht c22
 obtain ⟨hs1,hs2,hs3⟩:=small31_iff hs31
 have hgl:=small_glen hI hs1
 have hn:=(smallB_iff.1 hs1).1
 have hgn:(grV g).n=g.n:=rfl
 have E2:=(e0_0.trans e1_0).trans e2_2
 have hX0:=hB0_0.ext (e1_0.trans e2_2)
 refine Vr (Vo (R.ldA isAgg25 sizeOf25 rfl rfl ((show RowAt _ _ _ (encGr g) from hX0.rowAt 0 3)) rfl) (oS rfl (VL.callX call13 rfl (sumS hI hs31 (by decide) (hW.ext E2) hB hT E2) fun z4 w4 h4 e4=>Vo (R.mvT rfl) (Vo (R.extr rfl rfl) (Vo (R.extr rfl rfl) (VL.allocSt (v:=.agg (encSp z4.1).toArray) zeroValue32 sizeOf32 rfl rfl rfl rfl rfl fun b4_6 w4_6 hb4_6 e4_6 hB4_6=>oJ rfl (Vn (Vs (Vs (Vr (oI rfl (Vo (R.neq rfl rfl) (Vn (V.condP rfl (fun c31=>Vs (Vr (oB rfl (oA rfl (Vn (V.ret (fret1 (v:=.bool _) rfl rfl rfl (⟨rfl,E2.trans (((Vc.Mod.refl Vc.nob w2_2).trans e4).trans e4_6)⟩)))))))) (fun c31=>V.skip (Vs (?_)))))))))))))))))
 obtain ⟨s,er⟩:=z4
 obtain ⟨k4,j4⟩:=h4
 dsimp only at k4 j4 c31 hB4_6 ⊢
 have her:er=0:=by omega
 subst her
 have hck:=j4.e.symm
 obtain ⟨hv,hwn,hwb,_⟩:=chk_zero hck
 have hSp:Blk w4_6 b4_6 (.cells (encSp s).toArray 32 (0,0)):=hB4_6
 have F4:=e4.trans e4_6
 have E4:=E2.trans F4
 have hX4:=hX0.ext F4
 obtain ⟨hcl,hce⟩:=compsL31 hv
 refine Vr (oJ rfl (Vn (Vs (Vr (oJ rfl (Vn (Vs (Vr (Vo (R.ldA isAgg25 sizeOf25 rfl rfl ((show RowAt _ _ _ (encGr g) from hX4.rowAt 0 3)) rfl) (VL.callX call24 rfl (comps_specG g B w4_6 (hI.ok.ext E4) hgl (Nat.le_trans hB E4.size) (hT.ext hB E4)) fun z w5 hz5 e5=>oT rfl (Vn (V.cut [5,6,8,9] (fun _:Unit=>[.bool true,.pointer (some ⟨b4_6,0,none⟩),.int .i64 (sm ((compsG (grV g)).map (miC ws (grV g)))),.int .i64 (sm ((compsG (grV g)).map (maC ws (grV g))))]) (fun _ w'=>Ext w5 w') (Vs (Vr (oJ rfl (Vn (V.block (?_)))))) (fun rgB0 xB0 wBB0 hBB0=>Vs (?_))))))))))))))
 ·obtain ⟨hz,hL⟩:=hz5
  have E5:=E4.trans e5
  have hzl:z.1.length=(compsG (grV g)).length:=by rw [←hz,List.length_map]
  have hzn:z.1.length≤20:=by
   have h2:(compsG (grV g)).length≤(grV g).n.toNat:=by unfold compsG;rw [if_pos hv,grpsK_len];exact hdsK_len _ _
   omega
  refine V.loop [1,2,5,6,8,9,10,11] (fun i:Nat=>[.slice wa ws.length wc,.pointer (some ⟨b0_0,0,none⟩),.bool true,.pointer (some ⟨b4_6,0,none⟩),.int .i64 (sm (((compsG (grV g)).take i).map (miC ws (grV g)))),.int .i64 (sm (((compsG (grV g)).take i).map (maC ws (grV g)))),.slice z.2.1 z.1.length z.2.2,.int .i64 (i:Nat)]) (fun i w'=>i≤z.1.length∧Ext w5 w') (fun i=>z.1.length-i) 0 rfl ⟨Nat.zero_le _,Vc.Mod.refl _ _⟩ ?_
  rintro ρ i w6 ⟨hi,e6⟩
  refine Vs (Vs (Vr (oI rfl (oS rfl (Vo (R.lenS runUnderlying23 rfl) (oL rfl rfl (Vn (V.condP rfl (fun c38=>V.skip (Vs (V.block (Vs (?_))))) (fun c38=>V.exit (?_))))))))))
  ·have hil:i<z.1.length:=by omega
   have hL6:=hL.LL.ext e6
   have E6:=E5.trans e6
   have hb6:Blk w6 b0_0 (.cells (Value.agg (encGr g).toArray).cells 25 (0,0)):=hX4.ext (e5.trans e6)
   have hxc:(z.1.getD i default).l∈compsG (grV g):=by rw [←hz];exact List.mem_map_of_mem (gmem hil)
   have hxs:=comps_set hv hxc
   have hxl:(z.1.getD i default).l.length≤60:=by
    have:=set_len (setB_iff.1 hxs).1 (setB_iff.1 hxs).2 (by omega)
    omega
   have hpf:partF (grV g) (z.1.getD i default).l=(partG (grV g) (z.1.getD i default).l,0):=by unfold partF;rw [if_pos ⟨hv,hxs⟩]
   have hpv:=part_valid hv hxs
   refine V.regionD (T:=(TG w6.heap.size (partG (grV g) (z.1.getD i default).l))) mixed 11 (by kernel_rfl) rfl (fun us=>VD.op (fun wq eq=>R.ldA isAgg25 sizeOf25 rfl rfl ((show RowAt _ _ _ (encGr g) from (hb6.ext (TG.old eq)).rowAt 0 3)) rfl) (VD.op (fun wq eq=>R.mvS rfl) (VD.op (fun wq eq=>R.mvI rfl) (VD.op (fun wq eq=>R.ixS runUnderlying23 sizeOf22 rfl rfl (by omega) (by omega) (hL6.sl.some (i:=i) hil)) (VD.op (fun wq eq=>R.ld1 isAgg22 rfl ((((hL6.sl.ext (TG.old eq)).row (i:=i) hil).cell (i:=0) rfl))) (VD.callX (fun _=>fun u w'=>∃ y:GrW,u=.tuple #[.agg (encGr y).toArray,.int .i64 0]∧PtR (partG (grV g) (z.1.getD i default).l) w' y) (DepS.const _) (fun u a b _ ⟨y,h1,h2⟩ eb=>⟨y,h1,h2.turn eb⟩) call25 rfl (fun wq eq hq=>by
     have eo:=TG.old eq
     refine Rets.mono (part_spec g (z.1.getD i default).a (z.1.getD i default).c (z.1.getD i default).l B wq (hI.ok.ext (E6.trans eo)) hgl ((hL6.ext eo).at hil) (by omega) (Nat.le_trans hB (E6.trans eo).size) (hT.ext hB (E6.trans eo))) ?_
     rintro u w' ⟨y,rfl,⟨h1,h2,h3⟩,he⟩
     rw [hpf] at h1
     have h4:y.2=0:=congrArg Prod.snd h1
     exact ⟨⟨y.1,by dsimp only;rw [h4],congrArg Prod.fst h1,⟨h2.ok,h2.cc,h2.each⟩,h3⟩,he⟩) (VD.spec (fun _=>fun u w'=>∃ y:GrW,u=.tuple #[.agg (encGr y).toArray,.int .i64 0]∧PtR (partG (grV g) (z.1.getD i default).l) w' y) (DepS.const _) (fun u a b _ ⟨y,h1,h2⟩ eb=>⟨y,h1,h2.turn eb⟩) rfl (fun wq eq hq=>by
     obtain ⟨y,hy,h1⟩:=hq 5 (by kernel_rfl)
     exact yieldsR_op (R.mv hy) ⟨⟨y,rfl,h1⟩,Turn.refl _⟩) (VD.spec (fun _=>fun u w'=>∃ y:GrW,u=.agg (encGr y).toArray∧PtR (partG (grV g) (z.1.getD i default).l) w' y) (DepS.const _) (fun u a b _ ⟨y,h1,h2⟩ eb=>⟨y,h1,h2.turn eb⟩) rfl (fun wq eq hq=>by
     obtain ⟨y,hy,h1⟩:=hq 6 (by kernel_rfl)
     exact yieldsR_op (R.extr hy rfl) ⟨⟨y,rfl,h1⟩,Turn.refl _⟩) (VD.spec (fun _=>fun u _=>u=.int .i64 0) (DepS.const _) (fun u a b _ h eb=>h) rfl (fun wq eq hq=>by
     obtain ⟨y,hy,h1⟩:=hq 6 (by kernel_rfl)
     exact yieldsR_op (R.extr hy rfl) ⟨rfl,Turn.refl _⟩) (VD.spec (fun _=>fun u w'=>∃ b,u=.pointer (some ⟨b,0,none⟩)∧w6.heap.size≤b∧∃ c:Array Value,Blk w' b (.cells c 25 (0,0))∧c.size=3) (DepS.const _) (fun u a b _ ⟨k,h1,h2,c,h3,h4⟩ eb=>⟨k,h1,h2,eb.ty k c h3 h4⟩) rfl (fun wq eq hq=>yieldsR_op (runAlloc33 wq) ⟨⟨_,rfl,(TG.old eq).size,_,Blk.alloc _ _,rfl⟩,Turn.ext (Ext.alloc _ _)⟩) (VD.spec (fun vs _ w'=>∃ b y,vs 9=.pointer (some ⟨b,0,none⟩)∧w6.heap.size≤b∧Blk w' b (.cells (encGr y).toArray 25 (0,0))∧PtR (partG (grV g) (z.1.getD i default).l) w' y) (fun v v' u w1 hvv ⟨k,y,h1,h2⟩=>⟨k,y,by rw [←hvv 9 (by kernel_rfl)];exact h1,h2⟩) (fun u a b _ ⟨k,y,h1,h2,h3,h4⟩ eb=>by
      obtain ⟨y',h5,h6⟩:=eb.good k h2 ⟨y,h3,h4⟩
      exact ⟨k,y',h1,h2,h5,h6⟩) rfl (fun wq eq hq=>by
     obtain ⟨b,hb,hbs,c,hBk,hc⟩:=hq 9 (by kernel_rfl)
     obtain ⟨y,hy,hP⟩:=hq 7 (by kernel_rfl)
     refine yieldsR_store (ad:=⟨b,0,none⟩) (v:=.agg (encGr y).toArray) (c:=c) (T:=25) (s:=3) sizeOf25 rfl ?_ rfl ?_ hBk ?_ rfl ?_
     ·exact hb
     ·exact hy
     ·rw [hc];rfl
     intro w' m hs hBw
     have hput:=putGr hc y
     have hBw:Blk w' b (.cells (encGr y).toArray 25 (0,0)):=by rw [←hput];exact hBw
     have hS:∀ k,Vc.one b k→∃ c z,Blk wq k (.cells c 25 z):=fun k hk=>by rw [show k=b from hk];exact ⟨_,_,hBk⟩
     refine ⟨⟨b,y,hb,hbs,hBw,hP.mod m hS⟩,m.weaken fun k _ hk=>⟨by rw [show k=b from hk];exact hbs,hS k hk⟩,fun k hk ⟨x,h1,h2⟩=>?_,fun k c' h1 h2=>?_⟩
     ·by_cases e:k=b
      ·rw [e];exact ⟨y,hBw,hP.mod m hS⟩
      ·exact ⟨x,h1.mod m e,h2.mod m hS⟩
     ·by_cases e:k=b
      ·rw [e];exact ⟨_,hBw,rfl⟩
      ·exact ⟨c',h1.mod m e,h2⟩) (VD.nil (fun w10 e10 h10=>?_))))))))))))) rfl
   have h8:us 8=.int .i64 0:=h10 8
   obtain ⟨b,y,hb,hbs,hBk,hP⟩:=h10 10
   have e10:=TG.old e10
   rw [hb,h8]
   have hyn:y.n=((z.1.getD i default).l.length:Nat):=congrArg Gr.n hP.v
   have hyv:validG (grV y)=true:=by rw [hP.v];exact hpv
   have hyl:=hP.n.valid hyv
   have E10:=E6.trans e10
   have hL10:=hL6.ext e10
   obtain ⟨c,hcd⟩:∃ c,c=(z.1.getD i default).l:=⟨_,rfl⟩
   refine oJ rfl (Vn (Vs (Vr (oT rfl (Vn (V.cut [1,2,5,6,8,9,10,11,12,13,14] (fun x:Option Addr×Nat=>[.slice wa ws.length wc,.pointer (some ⟨b0_0,0,none⟩),.bool true,.pointer (some ⟨b4_6,0,none⟩),.int .i64 (sm (((compsG (grV g)).take i).map (miC ws (grV g)))),.int .i64 (sm (((compsG (grV g)).take i).map (maC ws (grV g)))),.slice z.2.1 z.1.length z.2.2,.int .i64 (i:Nat),.pointer (some ⟨b,0,none⟩),.int .i64 0,.slice x.1 (wtsC ws (z.1.getD i default).l).length x.2]) (fun x w'=>Ext w10 w'∧OwnT Vc.encI 1 3 w10.heap.size w' x.1 x.2 (wtsC ws (z.1.getD i default).l)) (Vs (Vr (oJ rfl (Vn (V.block (?_)))))) (fun rgB2 xB2 wBB2 hBB2=>Vs (?_))))))))
   ·refine V.loop [1,2,5,6,8,9,10,11,12,13,14,15] (fun x:Nat×Option Addr×Nat=>[.slice wa ws.length wc,.pointer (some ⟨b0_0,0,none⟩),.bool true,.pointer (some ⟨b4_6,0,none⟩),.int .i64 (sm (((compsG (grV g)).take i).map (miC ws (grV g)))),.int .i64 (sm (((compsG (grV g)).take i).map (maC ws (grV g)))),.slice z.2.1 z.1.length z.2.2,.int .i64 (i:Nat),.pointer (some ⟨b,0,none⟩),.int .i64 0,.slice x.2.1 (wtsC ws ((z.1.getD i default).l.take x.1)).length x.2.2,.int .i64 (x.1:Nat)])
     (fun x w'=>x.1≤(z.1.getD i default).l.length∧Ext w10 w'∧OwnT Vc.encI 1 3 w10.heap.size w' x.2.1 x.2.2 (wtsC ws ((z.1.getD i default).l.take x.1))) (fun x=>(z.1.getD i default).l.length-x.1) (0,none,0) rfl ⟨Nat.zero_le _,Vc.Mod.refl _ _,OwnT.nil _ _ _ _ _⟩ ?_
    rintro ρ ⟨k,a,cp⟩ w12 ⟨hk,e12,ho⟩
    dsimp only at hk e12 ho ⊢
    have hL12:=hL10.ext e12
    have hx12:=hL12.at hil
    have hlk:(wtsC ws ((z.1.getD i default).l.take k)).length=k:=by unfold wtsC;rw [List.length_map,List.length_take];omega
    refine Vs (Vs (Vr (oI rfl (oS rfl (oI rfl (Vo (R.ixS runUnderlying23 sizeOf22 rfl rfl (by omega) (by omega) (hL12.sl.some (i:=i) hil)) (Vo (R.ld1 isAgg22 rfl (((hL12.sl.row (i:=i) hil).cell (i:=0) rfl))) (Vo (R.lenS runUnderlying22 rfl) (oL rfl rfl (Vn (V.condP rfl (fun c56=>V.skip (Vs (V.block (?_)))) (fun c56=>V.exit (?_)))))))))))))
    ·have hkl:k<(z.1.getD i default).l.length:=by omega
     have hwst:=wtsC_take (ws:=ws) hkl
     have hvr:=(setB_iff.1 hxs).2 _ (gmem hkl)
     have hW12:=hW.ext ((E10.trans e12))
     refine Vr (oS rfl (oS rfl (oS rfl (oI rfl (Vo (R.ixS runUnderlying23 sizeOf22 rfl rfl (by omega) (by omega) (hL12.sl.some (i:=i) hil)) (Vo (R.ld1 isAgg22 rfl (((hL12.sl.row (i:=i) hil).cell (i:=0) rfl))) (oI rfl (Vo (R.ixS runUnderlying22 sizeOf3 rfl rfl (by omega) (by omega) (hx12.some (i:=k) hkl)) (Vo (R.ld1 isAgg3 rfl (((hx12.row (i:=k) hkl).cell (i:=0) rfl))) (Vo (R.ixS runUnderlying22 sizeOf3 rfl rfl (by omega) (by omega) (hW12.some (i:=((z.1.getD i default).l.getD k default).toNat) (by omega))) (Vo (R.ld1 isAgg3 rfl (((hW12.row (i:=((z.1.getD i default).l.getD k default).toNat) (by omega)).cell (i:=0) rfl))) (VL.append1 el22 runUnderlying22 sizeOf3 zeroValue3 rfl ((ws.getD ((z.1.getD i default).l.getD k default).toNat default)) rfl rfl rfl ho rfl rfl rfl (by omega) (by unfold maxLen;omega) e12.size fun a18 c18 w18 vt18 ho18 m18 hf18=>oT rfl (Vn (Vr (oI rfl (Vo (R.add rfl rfl (by omega) (by omega)) (oJ rfl (Vn (?_)))))))))))))))))))
     refine ⟨(k+1,a18,c18),?_,⟨by dsimp only;omega,e12.ownA m18 fun q hq=>ho.ge q hq,?_⟩,by dsimp only;omega⟩
     ·dsimp only
      rw [hwst,List.length_append]
      rfl
     ·dsimp only
      rw [hwst]
      exact ho18
    ·have hke:k=(z.1.getD i default).l.length:=by omega
     rw [hke,List.take_length] at ho ⊢
     exact ⟨(a,cp),rfl,e12,ho⟩
   ·obtain ⟨a14,c14⟩:=xB2
    obtain ⟨e12,ho12⟩:=hBB2
    dsimp only at ho12 ⊢
    have E12:=E10.trans e12
    have hP12:=hP.ext e12
    have hB12:=hBk.ext e12
    have hcN:(partG (grV g) (z.1.getD i default).l).n=((z.1.getD i default).l.length:Int):=rfl
    have hcp:=chk_part hck (by omega) hxc
    have hcf:chkF (grV y) (wtsC ws (z.1.getD i default).l) (-1000000000)=0→confI (grV y).edges y.n.toNat≤12:=fun _=>by
     rw [hyn,Int.toNat_natCast,hP.v]
     exact Nat.le_trans (conf_part hv hxc) hs2
    have hwl14:(wtsC ws (z.1.getD i default).l).length≤1000000:=by unfold wtsC;rw [List.length_map];omega
    refine Vr (Vo (R.ldA isAgg25 sizeOf25 rfl rfl ((show RowAt _ _ _ (encGr y) from hB12.rowAt 0 3)) rfl) (oS rfl (VL.callX call13 rfl (sum31_spec y a14 c14 (wtsC ws (z.1.getD i default).l) B wBB2 hP12.n.ok hyl ho12.sl hwl14 (Nat.le_trans hB E12.size) (hT.ext hB E12) hcf) fun z19 w19 h19 e19=>Vo (R.mvT rfl) (Vo (R.extr rfl rfl) (Vo (R.extr rfl rfl) (VL.allocSt (v:=.agg (encSp z19.1).toArray) zeroValue32 sizeOf32 rfl rfl rfl rfl rfl fun b19_6 w19_6 hb19_6 e19_6 hB19_6=>oJ rfl (Vn (Vs (Vs (?_))))))))))
    obtain ⟨t,er⟩:=z19
    obtain ⟨k19,j19⟩:=h19
    rw [hP.v] at j19
    dsimp only at k19 j19 hB19_6 ⊢
    have her:er=0:=by rw [j19.e];exact hcp
    subst her
    have hTp:Blk w19_6 b19_6 (.cells (encSp t).toArray 32 (0,0)):=hB19_6
    have f1:t.fr=miC ws (grV g) (z.1.getD i default).l:=by have:=j19.fr rfl;rw [j19.lo rfl] at this;exact this
    have f2:t.to=maC ws (grV g) (z.1.getD i default).l:=by have:=j19.to rfl;rw [j19.hi rfl] at this;exact this
    have hci:(compsG (grV g)).getD i default=(z.1.getD i default).l:=by rw [←hz];exact gmap SlI.l z.1 default hil
    have s1:=sm_takeS (f:=miC ws (grV g)) (L:=compsG (grV g)) (k:=i) (by omega)
    have s2:=sm_takeS (f:=maC ws (grV g)) (L:=compsG (grV g)) (k:=i) (by omega)
    rw [hci] at s1 s2
    have bb:∀ d∈compsG (grV g),(-20000000000≤miC ws (grV g) d∧miC ws (grV g) d≤20000000000)∧(-20000000000≤maC ws (grV g) d∧maC ws (grV g) d≤20000000000):=fun d hd=>by
     have hds:=setB_iff.1 (comps_set hv hd)
     have hdl:=set_len hds.1 hds.2 (by omega)
     have hdb:∀ x∈wtsC ws d,-1000000000≤x∧x≤1000000000:=(chk_zero (chk_part hck (by omega) hd)).2.2.1
     have hdw:((wtsC ws d).length:Int)=(partG (grV g) d).n:=by unfold wtsC;rw [List.length_map];rfl
     have hdn:(partG (grV g) d).n≤20:=by show (d.length:Int)≤20;omega
     have hpd:=part_valid hv (comps_set hv hd)
     exact ⟨end_bnd hpd hdn hdb hdw (ext_least hpd _).rep,end_bnd hpd hdn hdb hdw (ext_least hpd _).rep⟩
    have b1:=sm_bnd (M:=20000000000) (l:=((compsG (grV g)).take i).map (miC ws (grV g))) fun x hx=>by obtain ⟨d,hd,rfl⟩:=List.mem_map.1 hx;exact (bb d (List.mem_of_mem_take hd)).1
    have b2:=sm_bnd (M:=20000000000) (l:=((compsG (grV g)).take i).map (maC ws (grV g))) fun x hx=>by obtain ⟨d,hd,rfl⟩:=List.mem_map.1 hx;exact (bb d (List.mem_of_mem_take hd)).2
    rw [List.length_map,List.length_take] at b1 b2
    have b3:=bb _ hxc
    rw [←f1,←f2] at b3
    have hmi:min i (compsG (grV g)).length≤20:=by omega
    refine Vr (oI rfl (Vo (R.lit (R.neq rfl rfl) ((decide_eq_false (fun h=>h rfl)))) (oB rfl (VL.gT rfl rfl (oI rfl (VL.gT rfl rfl (Vo (R.lit (R.neq rfl rfl) ((decide_eq_false (fun h=>h rfl)))) (oQ rfl rfl (Vn (V.condF rfl (V.skip (Vs (Vr (oI rfl (Vo (R.fld' (o:=0) runUnderlying32 rfl rfl sizeOf3 rfl rfl) (Vo (R.ld1 isAgg3 rfl ((show _=some (Value.int .i64 t.fr) from hTp.cell 0))) (Vo (R.add rfl rfl (by omega) (by omega)) (oJ rfl (Vn (Vr (oI rfl (Vo (R.fld' (o:=1) runUnderlying32 rfl rfl sizeOf3 rfl rfl) (Vo (R.ld1 isAgg3 rfl ((show _=some (Value.int .i64 t.to) from hTp.cell 1))) (Vo (R.add rfl rfl (by omega) (by omega)) (oJ rfl (Vn (Vr (oI rfl (Vo (R.add rfl rfl (by omega) (by omega)) (oJ rfl (Vn (?_))))))))))))))))))))))))))))))))
    refine ⟨i+1,?_,⟨by omega,e6.trans (e10.trans (e12.trans (e19.trans e19_6)))⟩,by omega⟩
    rw [s1,s2,←f1,←f2]
    rfl
  ·have hie:i=z.1.length:=by omega
   refine ⟨(),?_,e6⟩
   rw [hie,hzl,List.take_length]
   rfl
 have E9:=E4.trans (e5.trans hBB0)
 have q1:=(min_parts hv fun c hc=>miC_min hv ws hc).uniq (j4.min hv)
 have q2:=(max_parts hv fun c hc=>maC_max hv ws hc).uniq (j4.max hv)
 rw [q1,q2]
 have hSp9:=hSp.ext (e5.trans hBB0)
 refine Vr (oB rfl (oB rfl (VL.gT rfl rfl (oI rfl (VL.gT rfl rfl (Vo (R.fld' (o:=0) runUnderlying32 rfl rfl sizeOf3 rfl rfl) (VL.gT rfl rfl (Vo (R.ld1 isAgg3 rfl ((show _=some (Value.int .i64 s.fr) from hSp9.cell 0))) (VL.gT rfl rfl (Vo (R.lit (R.eql rfl rfl) ((decide_eq_true rfl))) (oP rfl rfl (oB rfl (VL.gT rfl rfl (oI rfl (VL.gT rfl rfl (Vo (R.fld' (o:=1) runUnderlying32 rfl rfl sizeOf3 rfl rfl) (VL.gT rfl rfl (Vo (R.ld1 isAgg3 rfl ((show _=some (Value.int .i64 s.to) from hSp9.cell 1))) (VL.gT rfl rfl (Vo (R.lit (R.eql rfl rfl) ((decide_eq_true rfl))) (oP rfl rfl (oA rfl (Vn (V.ret (fret1 (v:=.bool _) rfl rfl rfl (⟨rfl,E9⟩))))))))))))))))))))))))))
end Go.Proofs.YtdkhcipjenfcnaaGreatDoor
