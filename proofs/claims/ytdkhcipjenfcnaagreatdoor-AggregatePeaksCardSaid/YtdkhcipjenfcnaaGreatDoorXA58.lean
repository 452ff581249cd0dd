/- Aggregate: the walk of law AggregatePeaks. -/
import Derived.Test.YtdkhcipjenfcnaaGreatDoorXA56
import Derived.Test.YtdkhcipjenfcnaaGreatDoorXR31
namespace Go.Proofs.YtdkhcipjenfcnaaGreatDoor
set_option maxRecDepth 100000
set_option maxHeartbeats 16000000
open Go.Vc Go.Proofs.Tryz
def mxO (ws out:List Int) (k:Nat):Int:=(List.range k).foldl (fun m (v:Nat)=>if (v:Int)∈out then m else max m (wtF ws (v:Nat))) 0
theorem mxO_succ (ws out:List Int) (k:Nat):mxO ws out (k+1)=if (k:Int)∈out then mxO ws out k else max (mxO ws out k) (wtF ws (k:Nat)):=by
 unfold mxO
 rw [List.range_succ,List.foldl_append];rfl
theorem mxO_spec (ws out:List Int):∀ k,0≤mxO ws out k∧(∀ v:Nat,v<k→(v:Int)∉out→wtF ws (v:Nat)≤mxO ws out k)∧(mxO ws out k=0∨∃ v:Nat,v<k∧(v:Int)∉out∧mxO ws out k=wtF ws (v:Nat))
 | 0=>⟨Int.le_refl _,fun v h=>absurd h (Nat.not_lt_zero _),.inl rfl⟩
 | k+1=>by
  obtain ⟨h1,h2,h3⟩:=mxO_spec ws out k
  rw [mxO_succ]
  by_cases h:(k:Int)∈out
  ·rw [if_pos h]
   refine ⟨h1,fun v hv hn=>?_,?_⟩
   ·by_cases e:v=k
    ·subst e;exact absurd h hn
    ·exact h2 v (by omega) hn
   ·rcases h3 with h3 | ⟨v,a,b,c⟩
    ·exact .inl h3
    ·exact .inr ⟨v,by omega,b,c⟩
  ·rw [if_neg h]
   refine ⟨by omega,fun v hv hn=>?_,?_⟩
   ·by_cases e:v=k
    ·subst e;omega
    ·have:=h2 v (by omega) hn;omega
   ·by_cases q:mxO ws out k≤wtF ws (k:Nat)
    ·exact .inr ⟨k,by omega,h,by omega⟩
    ·rcases h3 with h3 | ⟨v,a,b,c⟩
     ·exact .inl (by omega)
     ·exact .inr ⟨v,by omega,b,by omega⟩
theorem most_top {g:Gr} (hg:validG g=true) (ws:List Int):mxO ws (fixF g).2 g.n.toNat=toG ws g:=by
 have hfx:(fixF g).2=aloneK g.edges g.n.toNat:=by unfold fixF;rw [if_pos hg]
 obtain ⟨h1,h2,h3⟩:=mxO_spec ws (fixF g).2 g.n.toNat
 have hH:=(high_peak hg ws).1
 have hal:∀ v:Nat,v<g.n.toNat→((v:Int)∈(fixF g).2↔[(v:Int)]∈g.edges):=fun v hv=>by
  rw [hfx,aloneK_mem]
  exact ⟨fun h=>h.2.2,fun h=>⟨by omega,by omega,h⟩⟩
 have a:toG ws g≤mxO ws (fixF g).2 g.n.toNat:=by
  rw [←hH.ok]
  refine (gmx_iff ws _ _ rfl _).2 ⟨h1,fun v hv=>?_⟩
  have hr:=(setB_iff.1 hH.rep.set).2 v hv
  have he:((v.toNat:Nat):Int)=v:=by omega
  have:=h2 v.toNat (by omega) fun h=>by
   have h5:=(hal v.toNat (by omega)).1 h
   rw [he] at h5
   exact (fix_none hg hr.1 hr.2).2 h5 _ hH.rep hv
  rwa [he] at this
 have b:mxO ws (fixF g).2 g.n.toNat≤toG ws g:=by
  rcases h3 with h3 | ⟨v,hv,hn,h3⟩
  ·rw [h3];rw [←hH.ok];exact gmx_nn _ _
  ·rw [h3]
   have hne:¬ ∀ S,IsRep g S→(v:Int)∉S:=fun h=>hn ((hal v hv).2 ((fix_none hg (by omega) (by omega)).1 h))
   have:∃ S,IsRep g S∧(v:Int)∈S:=Classical.byContradiction fun hc=>hne fun S hS hm=>hc ⟨S,hS,hm⟩
   obtain ⟨S,hS,hm⟩:=this
   have h4:=(to_le hg ws hS).1
   have h5:=((gmx_iff ws _ S rfl _).1 (Int.le_refl _)).2 _ hm
   omega
 omega
theorem peakS {g:GrW} {wa:Option Addr} {wc:Nat} {ws:List Int} {n:Int} {B:Nat} {w w':World} (hI:GIn w g) (hs:smallB (grV g) n=true) (hW:IntSl w' wa ws) (hwl:ws.length≤1000000) (hB:B≤w.heap.size) (hT:TabW B w) (e:Ext w w') :
  RetsX prog 15 #[.agg (encGr g).toArray,.slice wa ws.length wc] w' (fun z:SpX×Int=>.tuple #[.agg (encSp z.1).toArray,.int .i64 z.2]) (fun z w2=>SpOk w'.heap.size w2 z.1∧PeakR (grV g) ws z.1 z.2) :=
 peak31_spec g wa wc ws B w' (hI.ok.ext e) (small_glen hI hs) hW hwl (Nat.le_trans hB e.size) (hT.ext hB e)
theorem peaks31_law (g:GrW) (wa:Option Addr) (wc:Nat) (ws:List Int) (sa:Option Addr) (sc:Nat) (S:List Int) (B:Nat) (w:World) (hI:GIn w g) (hW:IntSl w wa ws) (hwm:ws.length≤9223372036854775807) (hS:IntSl w sa S) (hsm:S.length≤9223372036854775807) (hB:B≤w.heap.size) (hT:TabW B w) :
  RetsP prog 10 #[.agg (encGr g).toArray,.slice wa ws.length wc,.slice sa S.length sc] w (.bool true):=by
 refine enter (args:=[_,_,_]) func10 rfl ntmps10 (by kernel_rfl) rfl ?_
 have ht:∀ {b:Bool},(!b)=false→b=true:=fun h=>by simpa using h
 refine Vs (Vr (VL.box (v:=.agg _) rfl fun b0_0 w0_0 hb0_0 e0_0 hB0_0=>oA rfl (Vn (Vs (Vr (VL.callP call11 rfl (head31_spec B _ (Nat.le_trans hB (e0_0).size) (hT.ext hB e0_0)) fun w1_0 e1_0=>oA rfl (Vn (Vs (Vs (Vr (Vo (R.ldA isAgg25 sizeOf25 rfl rfl ((show RowAt _ _ _ (encGr g) from (hB0_0.ext e1_0).rowAt 0 3)) rfl) (oS rfl (VL.callP call12 rfl (small31_spec g 20 wa wc ws _ (hI.ext (e0_0.trans e1_0)) (by decide) (by decide) hwm) fun w2_2 e2_2=>Vo (R.not rfl) (oB rfl (VL.or rfl rfl (fun g2_4=>oS rfl (VL.gT rfl rfl (Vo (R.lenS runUnderlying22 rfl) (VL.gT rfl rfl (Vo (R.gtr rfl rfl) (oQ rfl rfl (Vn (V.condP rfl (fun c25=>Vs (Vr (oB rfl (oA rfl (Vn (V.ret (fret1 (v:=.bool _) rfl rfl rfl (⟨rfl,((e0_0.trans e1_0).trans e2_2)⟩)))))))) (fun c25=>V.skip (Vs (?_))))))))))) (fun g2_4=>VL.gF rfl rfl (VL.gF rfl rfl (oP rfl rfl (Vn (V.condT rfl (Vs (Vr (oB rfl (oA rfl (Vn (V.ret (fret1 (v:=.bool _) rfl rfl rfl (⟨rfl,((e0_0.trans e1_0).trans e2_2)⟩))))))))))))))))))))))))))))
 have hs31:=ht g2_4
 obtain ⟨hs1,hs2,hs3⟩:=small31_iff hs31
 have hgl:=small_glen hI hs1
 have hn:=(smallB_iff.1 hs1).1
 have hgn:(grV g).n=g.n:=rfl
 have E2:=(e0_0.trans e1_0).trans e2_2
 have hX0:=hB0_0.ext (e1_0.trans e2_2)
 refine Vr (Vo (R.ldA isAgg25 sizeOf25 rfl rfl ((show RowAt _ _ _ (encGr g) from hX0.rowAt 0 3)) rfl) (oS rfl (VL.callX call15 rfl (peakS hI hs1 (hW.ext E2) (by omega) hB hT E2) fun z4 w4 h4 e4=>Vo (R.mvT rfl) (Vo (R.extr rfl rfl) (Vo (R.extr rfl rfl) (VL.allocSt (v:=.agg (encSp z4.1).toArray) zeroValue32 sizeOf32 rfl rfl rfl rfl rfl fun b4_6 w4_6 hb4_6 e4_6 hB4_6=>oJ rfl (Vn (Vs (Vs (Vr (oI rfl (Vo (R.neq rfl rfl) (Vn (V.condP rfl (fun c34=>Vs (?_)) (fun c34=>V.skip (Vs (Vs (?_))))))))))))))))))
 ·obtain ⟨s,er⟩:=z4
  obtain ⟨k4,j4⟩:=h4
  dsimp only at k4 j4 c34 hB4_6 ⊢
  have hSp:Blk w4_6 b4_6 (.cells (encSp s).toArray 32 (0,0)):=hB4_6
  have hz:=j4.no c34
  rw [hz] at hSp
  have F4:=e4.trans e4_6
  refine Vr (oB rfl (oB rfl (VL.gT rfl rfl (Vo (R.fld' (o:=2) runUnderlying32 rfl rfl sizeOf22 rfl rfl) (VL.gT rfl rfl (Vo (R.ld1 isAgg22 rfl ((show _=some (Value.slice none 0 0) from hSp.cell 2))) (VL.gT rfl rfl (Vo (R.lenS runUnderlying22 rfl) (VL.gT rfl rfl (Vo (R.lit (R.eql rfl rfl) ((decide_eq_true rfl))) (oP rfl rfl (oB rfl (VL.gT rfl rfl (Vo (R.fld' (o:=3) runUnderlying32 rfl rfl sizeOf22 rfl rfl) (VL.gT rfl rfl (Vo (R.ld1 isAgg22 rfl ((show _=some (Value.slice none 0 0) from hSp.cell 3))) (VL.gT rfl rfl (Vo (R.lenS runUnderlying22 rfl) (VL.gT rfl rfl (Vo (R.lit (R.eql rfl rfl) ((decide_eq_true rfl))) (oP rfl rfl (oA rfl (Vn (V.ret (fret1 (v:=.bool _) rfl rfl rfl (⟨rfl,E2.trans F4⟩))))))))))))))))))))))))))
 obtain ⟨s,er⟩:=z4
 obtain ⟨k4,j4⟩:=h4
 dsimp only at k4 j4 c34 hB4_6 ⊢
 have her:er=0:=by omega
 subst her
 obtain ⟨hv,hwn,hwb,_⟩:=chk_zero j4.e.symm
 have hSp:Blk w4_6 b4_6 (.cells (encSp s).toArray 32 (0,0)):=hB4_6
 have F4:=e4.trans e4_6
 have E4:=E2.trans F4
 have hX4:=hX0.ext F4
 obtain ⟨p1,p2,p3⟩:=low_peak hv ws
 have p4:=(high_peak hv ws).1
 rw [←j4.lo rfl] at p2 p3
 rw [←j4.hi rfl] at p4
 rw [←j4.fr rfl] at p1 p2
 have p5:=p4.ok
 rw [←j4.to rfl] at p5
 have rng:∀ {Z:List Int},IsRep (grV g) Z→Z.length≤20∧∀ v∈Z,0≤v∧v<(ws.length:Int):=fun hZ=>by
  have h1:=setB_iff.1 hZ.set
  have h2:=set_len h1.1 h1.2 (by omega)
  exact ⟨by omega,fun v hv=>by have:=h1.2 v hv;omega⟩
 have k4':=k4.ext e4_6
 have his:∀ {a:Option Addr} {c:Nat} {Z:List Int} {w':World},IsRep (grV g) Z→Ext w w'→IntSl w' a Z→RetsP prog 28 #[.agg (encGr g).toArray,.slice a Z.length c] w' (.bool true):=fun {a c Z w'} hZ e hz=>by
  have h:=is_spec28 g a c Z B w' (hI.ok.ext e) hgl hz (by have:=(rng hZ).1;omega) (Nat.le_trans hB (Vc.Mod.size e)) (hT.ext hB e)
  rwa [(isB_iff hv).2 hZ] at h
 have hgr:∀ {a:Option Addr} {c:Nat} {Z:List Int} {w':World},IsRep (grV g) Z→Ext w w'→IntSl w' a Z→RetsP prog 29 #[.slice wa ws.length wc,.slice a Z.length c] w' (.int .i64 (gmx ws Z)):=fun hZ e hz =>
  lgreat31_spec wa wc ws _ _ _ _ (hW.ext e) (by omega) hz (by have:=(rng hZ).1;omega) (rng hZ).2
 refine V.regionQ mixed 28 (by kernel_rfl) rfl (fun w'=>Ext _ w') (Ext.drawn _) (VQ.op (fun wq eq=>R.ldA isAgg25 sizeOf25 rfl rfl ((show RowAt _ _ _ (encGr g) from (hX4.ext eq).rowAt 0 3)) rfl) (VQ.op (fun wq eq=>R.fld' (o:=2) runUnderlying32 rfl rfl sizeOf22 rfl rfl) (VQ.op (fun wq eq=>R.ld1 isAgg22 rfl ((show _=some (Value.slice s.lo.a s.lo.l.length s.lo.c) from (hSp.ext eq).cell 2))) (VQ.callP (fun _ _ h k=>Mod.trans h k) call28 rfl (fun wq eq=>(his p3.rep (E4.trans eq) (k4'.lo.ext eq).sl)) (VQ.op (fun wq eq=>R.not rfl) (VQ.op (fun wq eq=>R.mvB rfl) (VQ.gT rfl rfl (VQ.op (fun wq eq=>R.ldA isAgg25 sizeOf25 rfl rfl ((show RowAt _ _ _ (encGr g) from (hX4.ext eq).rowAt 0 3)) rfl) (VQ.gT rfl rfl (VQ.op (fun wq eq=>R.fld' (o:=3) runUnderlying32 rfl rfl sizeOf22 rfl rfl) (VQ.gT rfl rfl (VQ.op (fun wq eq=>R.ld1 isAgg22 rfl ((show _=some (Value.slice s.hi.a s.hi.l.length s.hi.c) from (hSp.ext eq).cell 3))) (VQ.gT rfl rfl (VQ.callP (fun _ _ h k=>Mod.trans h k) call28 rfl (fun wq eq=>(his p4.rep (E4.trans eq) (k4'.hi.ext eq).sl)) (VQ.gT rfl rfl (VQ.op (fun wq eq=>R.not rfl) (VQ.op (fun wq eq=>R.pickFB rfl rfl) (VQ.op (fun wq eq=>R.mvB rfl) (VQ.gT rfl rfl (VQ.op (fun wq eq=>R.mvS rfl) (VQ.gT rfl rfl (VQ.op (fun wq eq=>R.fld' (o:=2) runUnderlying32 rfl rfl sizeOf22 rfl rfl) (VQ.gT rfl rfl (VQ.op (fun wq eq=>R.ld1 isAgg22 rfl ((show _=some (Value.slice s.lo.a s.lo.l.length s.lo.c) from (hSp.ext eq).cell 2))) (VQ.gT rfl rfl (VQ.callP (fun _ _ h k=>Mod.trans h k) call29 rfl (fun wq eq=>hgr p3.rep (E4.trans eq) (k4'.lo.ext eq).sl) (VQ.gT rfl rfl (VQ.op (fun wq eq=>R.fld' (o:=0) runUnderlying32 rfl rfl sizeOf3 rfl rfl) (VQ.gT rfl rfl (VQ.op (fun wq eq=>R.ld1 isAgg3 rfl ((show _=some (Value.int .i64 s.fr) from (hSp.ext eq).cell 0))) (VQ.gT rfl rfl (VQ.op (fun wq eq=>R.lit (R.neq rfl rfl) ((decide_eq_false (fun h=>h p2)))) (VQ.op (fun wq eq=>R.pickFB rfl rfl) (VQ.op (fun wq eq=>R.mvB rfl) (VQ.gT rfl rfl (VQ.op (fun wq eq=>R.mvS rfl) (VQ.gT rfl rfl (VQ.op (fun wq eq=>R.fld' (o:=3) runUnderlying32 rfl rfl sizeOf22 rfl rfl) (VQ.gT rfl rfl (VQ.op (fun wq eq=>R.ld1 isAgg22 rfl ((show _=some (Value.slice s.hi.a s.hi.l.length s.hi.c) from (hSp.ext eq).cell 3))) (VQ.gT rfl rfl (VQ.callP (fun _ _ h k=>Mod.trans h k) call29 rfl (fun wq eq=>hgr p4.rep (E4.trans eq) (k4'.hi.ext eq).sl) (VQ.gT rfl rfl (VQ.op (fun wq eq=>R.fld' (o:=1) runUnderlying32 rfl rfl sizeOf3 rfl rfl) (VQ.gT rfl rfl (VQ.op (fun wq eq=>R.ld1 isAgg3 rfl ((show _=some (Value.int .i64 s.to) from (hSp.ext eq).cell 1))) (VQ.nil fun w7q e7q=>VL.gT rfl rfl (Vo (R.lit (R.neq rfl rfl) ((decide_eq_false (fun h=>h p5)))) (oQ rfl rfl (Vn (V.condF rfl (V.skip (Vs (?_))))))))))))))))))))))))))))))))))))))))))))))))))))))
 have E7:=E4.trans e7q
 have hX7:=hX4.ext e7q
 refine Vr (Vo (R.ldA isAgg25 sizeOf25 rfl rfl ((show RowAt _ _ _ (encGr g) from hX7.rowAt 0 3)) rfl) (VL.callX call22 rfl (fixed_spec g B w7q (hI.ok.ext E7) hgl (Nat.le_trans hB E7.size) (hT.ext hB E7)) fun f9 w9 h9 e9=>Vo (R.mvT rfl) (Vo (R.extr rfl rfl) (Vo (R.extr rfl rfl) (oT rfl (oT rfl (Vn (Vs (Vr (oJ rfl (Vn (V.cut [1,2,3,7,8,12] (fun _:Unit=>[.slice wa ws.length wc,.slice sa S.length sc,.pointer (some ⟨b0_0,0,none⟩),.bool true,.pointer (some ⟨b4_6,0,none⟩),.int .i64 (mxO ws (fixF (grV g)).2 g.n.toNat)]) (fun _ w'=>Ext w9 w') (Vs (Vr (oJ rfl (Vn (V.block (?_)))))) (fun rgB0 xB0 wBB0 hBB0=>Vs (?_))))))))))))))
 ·obtain ⟨hf1,hf2,hf3⟩:=h9
  have hfo:f9.2.l=(fixF (grV g)).2:=congrArg Prod.snd hf1
  have hfl:f9.2.l.length≤1000000:=by
   rw [hfo]
   have h1:(fixF (grV g)).2=aloneK (grV g).edges (grV g).n.toNat:=by unfold fixF;rw [if_pos hv]
   rw [h1]
   have h2:(aloneK (grV g).edges (grV g).n.toNat).length≤(grV g).n.toNat:=by
    unfold aloneK
    rw [List.length_map]
    exact Nat.le_trans (List.length_filter_le _ _) (Nat.le_of_eq List.length_range)
   omega
  refine V.loop [1,2,3,7,8,11,12,13] (fun k:Nat=>[.slice wa ws.length wc,.slice sa S.length sc,.pointer (some ⟨b0_0,0,none⟩),.bool true,.pointer (some ⟨b4_6,0,none⟩),.slice f9.2.a f9.2.l.length f9.2.c,.int .i64 (mxO ws (fixF (grV g)).2 k),.int .i64 (k:Nat)]) (fun k w'=>k≤g.n.toNat∧Ext w9 w') (fun k=>g.n.toNat-k) 0 rfl ⟨Nat.zero_le _,Vc.Mod.refl _ _⟩ ?_
  rintro ρ k w10 ⟨hk,e10⟩
  have hsu:=mxO_succ ws (fixF (grV g)).2 k
  refine Vs (Vs (Vr (oI rfl (Vo (R.fld' (o:=0) runUnderlying25 rfl rfl sizeOf3 rfl rfl) (Vo (R.ld1 isAgg3 rfl ((show _=some (Value.int .i64 g.n) from (hX7.ext (e9.trans e10)).cell 0))) (oL rfl rfl (Vn (V.condP rfl (fun c86=>V.skip (Vs (V.block (Vs (?_))))) (fun c86=>V.exit (?_))))))))))
  ·have hkn:k<ws.length:=by omega
   have hW10:=hW.ext (E7.trans (e9.trans e10))
   refine Vr (oS rfl (oI rfl (VL.callP call23 rfl (in_spec _ _ _ (k:Int) _ (by omega) (hf3.ext e10)) fun w14_2 e14_2=>Vo (R.not rfl) (Vn (V.cond rfl (fun c92=>Vr (oI rfl (oS rfl (oI rfl (Vo (R.ixS runUnderlying22 sizeOf3 rfl rfl (by omega) (by omega) ((hW10.ext ((Vc.Mod.refl Vc.nob w10).trans e14_2)).some (i:=k) hkn)) (Vo (R.ld1 isAgg3 rfl ((((hW10.ext ((Vc.Mod.refl Vc.nob w10).trans e14_2)).row (i:=k) hkn).cell (i:=0) rfl))) (Vo (R.max rfl rfl) (oJ rfl (Vn (Vr (oI rfl (Vo (R.add rfl rfl (by omega) (by omega)) (oJ rfl (Vn (?_))))))))))))))) (fun c92=>V.skip (Vr (oI rfl (Vo (R.add rfl rfl (by omega) (by omega)) (oJ rfl (Vn (?_))))))))))))
   ·have hm:(k:Int)∉(fixF (grV g)).2:=by
     rw [←hfo]
     simpa using c92
    rw [if_neg hm] at hsu
    refine ⟨k+1,?_,⟨by omega,e10.trans e14_2⟩,by omega⟩
    rw [hsu]
    rfl
   ·have hm:(k:Int)∈(fixF (grV g)).2:=by
     rw [←hfo]
     simpa using c92
    rw [if_pos hm] at hsu
    refine ⟨k+1,?_,⟨by omega,e10.trans e14_2⟩,by omega⟩
    rw [hsu]
    rfl
  ·have hke:k=g.n.toNat:=by omega
   subst hke
   exact ⟨(),rfl,e10⟩
 have hmt:mxO ws (fixF (grV g)).2 g.n.toNat=s.to:=by rw [j4.to rfl,←most_top hv ws];rfl
 rw [hmt]
 have F9:Ext w4_6 wBB0:=e7q.trans (e9.trans hBB0)
 have E9:=E4.trans F9
 refine Vr (Vo (R.ldA isAgg25 sizeOf25 rfl rfl ((show RowAt _ _ _ (encGr g) from (hX4.ext F9).rowAt 0 3)) rfl) (oS rfl (VL.callX call26 rfl (extend_spec g sa sc S B wBB0 (hI.ok.ext E9) hgl (hS.ext E9) (by omega) (Nat.le_trans hB E9.size) (hT.ext hB E9)) fun x5 w5 h5 e5=>Vo (R.mvT rfl) (Vo (R.extr rfl rfl) (Vo (R.extr rfl rfl) (oT rfl (oJ rfl (Vn (Vs (?_))))))))))
 obtain ⟨⟨a5,c5,Q⟩,r5⟩:=x5
 obtain ⟨ho5,hv5⟩:=h5
 dsimp only at hv5 ho5 ⊢
 have hSp5:=hSp.ext (F9.trans e5)
 cases hlb:loadB (grV g) S with
 | false =>
  rw [hlb,if_neg (by decide)] at hv5
  have h1:Q=[]:=congrArg Prod.fst hv5
  have h2:r5=1:=congrArg Prod.snd hv5
  subst h1 h2
  refine V.regionQ mixed 23 (by kernel_rfl) rfl (fun w'=>Ext _ w') (Ext.drawn _) (VQ.op (fun wq eq=>R.mvB rfl) (VQ.op (fun wq eq=>R.mvB rfl) (VQ.gT rfl rfl (VQ.op (fun wq eq=>R.mvI rfl) (VQ.gT rfl rfl (VQ.op (fun wq eq=>R.fld' (o:=1) runUnderlying32 rfl rfl sizeOf3 rfl rfl) (VQ.gT rfl rfl (VQ.op (fun wq eq=>R.ld1 isAgg3 rfl ((show _=some (Value.int .i64 s.to) from (hSp5.ext eq).cell 1))) (VQ.gT rfl rfl (VQ.op (fun wq eq=>R.lit (R.eql rfl rfl) ((decide_eq_true rfl))) (VQ.op (fun wq eq=>R.pickTB rfl rfl) (VQ.op (fun wq eq=>R.mvB rfl) (VQ.gT rfl rfl (VQ.op (fun wq eq=>R.mvI rfl) (VQ.gT rfl rfl (VQ.op (fun wq eq=>R.lit (R.neq rfl rfl) ((decide_eq_true (by decide)))) (VQ.gT rfl rfl (VQ.op (fun wq eq=>R.mvB rfl) (VQ.gF rfl rfl (VQ.gF rfl rfl (VQ.gF rfl rfl (VQ.gF rfl rfl (VQ.gF rfl rfl (VQ.gF rfl rfl (VQ.gF rfl rfl (VQ.gU rfl rfl (VQ.gU rfl rfl (VQ.gU rfl rfl (VQ.gU rfl rfl (VQ.gU rfl rfl (VQ.nil fun w17q e17q=>VL.gU rfl rfl (VL.gF rfl rfl (VL.gT rfl rfl (oP rfl rfl (oP rfl rfl (oA rfl (Vn (V.ret (fret1 (v:=.bool _) rfl rfl rfl (⟨rfl,(E9.trans e5).trans ((Vc.Mod.refl Vc.nob w5).trans e17q)⟩))))))))))))))))))))))))))))))))))))))))
 | true =>
  rw [hlb,if_pos rfl] at hv5
  have hR:IsRep (grV g) Q:=by rw [show Q=extF (grV g) S from congrArg Prod.fst hv5];exact (ext_rep hlb).1
  have h2:r5=0:=congrArg Prod.snd hv5
  subst h2
  have b1:=p1 Q hR
  have b2:=(to_le hv ws hR).1
  rw [←j4.to rfl] at b2
  have hgq:∀ {w'},Ext w5 w'→RetsP prog 29 #[.slice wa ws.length wc,.slice a5 Q.length c5] w' (.int .i64 (gmx ws Q)):=fun e=>hgr hR ((E9.trans e5).trans e) (ho5.ext e).sl
  refine V.regionQ mixed 23 (by kernel_rfl) rfl (fun w'=>Ext _ w') (Ext.drawn _) (VQ.op (fun wq eq=>R.mvB rfl) (VQ.op (fun wq eq=>R.mvB rfl) (VQ.gT rfl rfl (VQ.op (fun wq eq=>R.mvI rfl) (VQ.gT rfl rfl (VQ.op (fun wq eq=>R.fld' (o:=1) runUnderlying32 rfl rfl sizeOf3 rfl rfl) (VQ.gT rfl rfl (VQ.op (fun wq eq=>R.ld1 isAgg3 rfl ((show _=some (Value.int .i64 s.to) from (hSp5.ext eq).cell 1))) (VQ.gT rfl rfl (VQ.op (fun wq eq=>R.lit (R.eql rfl rfl) ((decide_eq_true rfl))) (VQ.op (fun wq eq=>R.pickTB rfl rfl) (VQ.op (fun wq eq=>R.mvB rfl) (VQ.gT rfl rfl (VQ.op (fun wq eq=>R.mvI rfl) (VQ.gT rfl rfl (VQ.op (fun wq eq=>R.lit (R.neq rfl rfl) ((decide_eq_false (fun h=>h rfl)))) (VQ.gT rfl rfl (VQ.op (fun wq eq=>R.mvB rfl) (VQ.gT rfl rfl (VQ.op (fun wq eq=>R.mvS rfl) (VQ.gT rfl rfl (VQ.op (fun wq eq=>R.mvS rfl) (VQ.gT rfl rfl (VQ.callP (fun _ _ h k=>Mod.trans h k) call29 rfl (fun wq eq=>hgq eq) (VQ.gT rfl rfl (VQ.op (fun wq eq=>R.fld' (o:=0) runUnderlying32 rfl rfl sizeOf3 rfl rfl) (VQ.gT rfl rfl (VQ.op (fun wq eq=>R.ld1 isAgg3 rfl ((show _=some (Value.int .i64 s.fr) from (hSp5.ext eq).cell 0))) (VQ.gT rfl rfl (VQ.op (fun wq eq=>R.lit (R.geq rfl rfl) ((decide_eq_true b1))) (VQ.gT rfl rfl (VQ.op (fun wq eq=>R.mvB rfl) (VQ.gT rfl rfl (VQ.op (fun wq eq=>R.mvS rfl) (VQ.gT rfl rfl (VQ.op (fun wq eq=>R.mvS rfl) (VQ.gT rfl rfl (VQ.callP (fun _ _ h k=>Mod.trans h k) call29 rfl (fun wq eq=>hgq eq) (VQ.gT rfl rfl (VQ.op (fun wq eq=>R.fld' (o:=1) runUnderlying32 rfl rfl sizeOf3 rfl rfl) (VQ.gT rfl rfl (VQ.op (fun wq eq=>R.ld1 isAgg3 rfl ((show _=some (Value.int .i64 s.to) from (hSp5.ext eq).cell 1))) (VQ.nil fun w17q e17q=>VL.gT rfl rfl (Vo (R.lit (R.leq rfl rfl) ((decide_eq_true b2))) (VL.gT rfl rfl (oP rfl rfl (VL.gT rfl rfl (oQ rfl rfl (oP rfl rfl (oA rfl (Vn (V.ret (fret1 (v:=.bool _) rfl rfl rfl (⟨rfl,(E9.trans e5).trans ((Vc.Mod.refl Vc.nob w5).trans e17q)⟩))))))))))))))))))))))))))))))))))))))))))))))))))))))
end Go.Proofs.YtdkhcipjenfcnaaGreatDoor
