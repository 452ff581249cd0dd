/- Aggregate: the walk of law AggregateMatchesReference. -/
import Derived.Test.YtdkhcipjenfcnaaGreatDoorXA62
import Derived.Test.YtdkhcipjenfcnaaGreatDoorXA58
namespace Go.Proofs.YtdkhcipjenfcnaaGreatDoor
set_option maxRecDepth 100000
set_option maxHeartbeats 16000000
open Go.Vc Go.Proofs.Tryz
theorem fst_at {g:Gr} (hg:validG g=true) (F:List Int→Int):IsRep g ((repsG g).getD (loI F (repsG g) (repsG g).length) default)∧(∀ Z,IsRep g Z→F ((repsG g).getD (loI F (repsG g) (repsG g).length) default)≤F Z)∧∀ Z,IsRep g Z→F Z=F ((repsG g).getD (loI F (repsG g) (repsG g).length) default)→lexB Z ((repsG g).getD (loI F (repsG g) (repsG g).length) default)=false:=by
 obtain ⟨h1,h2,h3⟩:=loI_spec F (repsG g) (repsG g).length
 have hne:=reps_ne hg
 have hlen:0<(repsG g).length:=List.length_pos_iff.2 hne
 have h1:=h1 hlen
 have hup:=reps_up hg
 obtain ⟨i,hi⟩:∃ i,i=loI F (repsG g) (repsG g).length:=⟨_,rfl⟩
 rw [←hi] at h1 h2 h3 ⊢
 have hgi:(repsG g).getD i default=(repsG g)[i]:=gget h1
 refine ⟨(reps_mem hg).1 (gmem h1),fun Z hZ=>?_,fun Z hZ he=>?_⟩
 ·obtain ⟨j,hj,rfl⟩:=List.getElem_of_mem ((reps_mem hg).2 hZ)
  have:=h2 j hj
  rwa [gget hj] at this
 ·obtain ⟨j,hj,rfl⟩:=List.getElem_of_mem ((reps_mem hg).2 hZ)
  have hgj:(repsG g).getD j default=(repsG g)[j]:=gget hj
  rw [hgi] at he ⊢
  have hij:i≤j:=Nat.le_of_not_lt fun h=>by
   have:=h3 j h
   rw [hgi,hgj,he] at this
   exact absurd this (Int.lt_irrefl _)
  by_cases e:i=j
  ·subst e;exact lexB_sto.irr _
  ·have:=List.pairwise_iff_getElem.1 hup i j h1 hj (by omega)
   cases hb:lexB (repsG g)[j] (repsG g)[i] with
   | false=>rfl
   | true=>exact absurd (lexB_sto.trans _ _ _ this hb) (by rw [lexB_sto.irr];decide)
theorem fnS_sum (ws:List Int):fnS ws true=totW ws:=by funext Z;exact if_pos rfl
theorem fnS_peak (ws:List Int):fnS ws false=gmx ws:=by funext Z;exact if_neg (by decide)
theorem lowP_is {g:Gr} (hg:validG g=true) (ws:List Int):(repsG g).getD (loI (gmx ws) (repsG g) (repsG g).length) default=lowG ws g:=by
 obtain ⟨h1,h2,h3⟩:=fst_at hg (gmx ws)
 obtain ⟨p1,p2,p3⟩:=low_peak hg ws
 have a:=h2 _ p3.rep
 have b:=p1 _ h1
 refine FstG.unique ⟨h1,by omega,fun Z hZ hp=>h3 Z hZ ?_⟩ p3
 have:=h2 Z hZ
 omega
theorem highP_is {g:Gr} (hg:validG g=true) (ws:List Int):(repsG g).getD (loI (ngF (gmx ws)) (repsG g) (repsG g).length) default=highG ws g:=by
 obtain ⟨h1,h2,h3⟩:=fst_at hg (ngF (gmx ws))
 obtain ⟨Y,hY⟩:∃ Y,Y=(repsG g).getD (loI (ngF (gmx ws)) (repsG g) (repsG g).length) default:=⟨_,rfl⟩
 rw [←hY] at h1 h2 h3 ⊢
 have p:=(high_peak hg ws).1
 have a:-gmx ws Y≤-gmx ws (highG ws g):=h2 _ p.rep
 have b:=(to_le hg ws h1).1
 have c:=p.ok
 refine FstG.unique ⟨h1,by omega,fun Z hZ hp=>h3 Z hZ (show -gmx ws Z=-gmx ws Y by omega)⟩ p
structure SameR (x y:SpX) (e f:Int) (w:World):Prop where
 e:e=f
 fr:x.fr=y.fr
 to:x.to=y.to
 lo:x.lo.l=y.lo.l
 hi:x.hi.l=y.hi.l
 il:IntSl w y.lo.a y.lo.l
 ih:IntSl w y.hi.a y.hi.l
 l1:x.lo.l.length≤4000
 l2:x.hi.l.length≤4000
theorem SameR.zero {e:Int} {w:World}:SameR spZ spZ e e w:=⟨rfl,rfl,rfl,rfl,rfl,TSl.nil _ _ _ _,TSl.nil _ _ _ _,Nat.zero_le _,Nat.zero_le _⟩
theorem rep_short {g:Gr} (hg:validG g=true) {Z:List Int} (h:IsRep g Z):Z.length≤4000:=by
 have i1:=setB_iff.1 h.set
 have hc:=costB_iff.1 (validG_iff.1 hg).1
 have i2:=set_len i1.1 i1.2 hc.1
 have:=hc.2.1
 omega
theorem same_sum {g:Gr} {ws:List Int} {x y:SpX} {e f:Int} {w:World} (h:SumR g ws x e) (k:RefR g ws (-1000000000) (fnS ws true) w y f):SameR x y e f w:=by
 have he:e=f:=by rw [h.e,k.e]
 subst he
 by_cases h0:e=0
 ·subst h0
  have hv:=(chk_zero h.e.symm).1
  have r:=k.r rfl
  have l:=h.lo rfl
  have hh:=h.hi rfl
  have rl:=r.l
  have rh:=r.h
  rw [fnS_sum] at rl rh
  rw [low_is hv] at rl
  have e2:ngF (totW ws)=fun R=>-totW ws R:=rfl
  rw [e2,high_is hv] at rh
  have f1:=r.fr
  have f2:=r.to
  rw [fnS_sum] at f1 f2
  have L1:=(ext_least hv ws).rep
  have L2:=(ext_least hv (negW ws)).rep
  exact ⟨rfl,by rw [h.fr rfl,f1,l,rl],by rw [h.to rfl,f2,hh,rh],by rw [l,rl],by rw [hh,rh],r.lo,r.hi,by rw [l];exact rep_short hv L1,by rw [hh];exact rep_short hv L2⟩
 ·rw [h.no h0,k.no h0];exact SameR.zero
theorem same_peak {g:Gr} {ws:List Int} {x y:SpX} {e f:Int} {w:World} (h:PeakR g ws x e) (k:RefR g ws 0 (fnS ws false) w y f):SameR x y e f w:=by
 have he:e=f:=by rw [h.e,k.e]
 subst he
 by_cases h0:e=0
 ·subst h0
  have hv:=(chk_zero h.e.symm).1
  have r:=k.r rfl
  have l:=h.lo rfl
  have hh:=h.hi rfl
  have rl:=r.l
  have rh:=r.h
  rw [fnS_peak] at rl rh
  rw [lowP_is hv] at rl
  rw [highP_is hv] at rh
  have f1:=r.fr
  have f2:=r.to
  rw [fnS_peak] at f1 f2
  obtain ⟨_,p2,p3⟩:=low_peak hv ws
  have p4:=(high_peak hv ws).1
  exact ⟨rfl,by rw [h.fr rfl,f1,rl,p2],by rw [h.to rfl,f2,rh,p4.ok],by rw [l,rl],by rw [hh,rh],r.lo,r.hi,by rw [l];exact rep_short hv p3.rep,by rw [hh];exact rep_short hv p4.rep⟩
 ·rw [h.no h0,k.no h0];exact SameR.zero
theorem matches31_law (g:GrW) (wa:Option Addr) (wc:Nat) (ws:List Int) (va:Option Addr) (vc:Nat) (vs:List Int) (B:Nat) (w:World) (hI:GIn w g) (hW:IntSl w wa ws) (hwm:ws.length≤9223372036854775807) (hV:IntSl w va vs) (hvm:vs.length≤9223372036854775807) (hB:B≤w.heap.size) (hT:TabW B w) :
  RetsP prog 3 #[.agg (encGr g).toArray,.slice wa ws.length wc,.slice va vs.length vc] w (.bool true):=by
 refine eN (args:=[_,_,_]) func3 rfl ntmps3 ?_
 have ht:∀ {b:Bool},(!b)=false→b=true:=fun h=>by simpa using h
 refine Vs<|Vr<|VL.box (v:=.agg _) rfl fun b0_0 w0_0 hb0_0 e0_0 hB0_0=>oA rfl<|Vn<|Vs<|Vr<|Vp call11 rfl (head31_spec B _ (Nat.le_trans hB (e0_0).size) (hT.ext hB e0_0)) fun w1_0 e1_0=>oA rfl<|Vn<|Vs<|Vs<|Vr<|Vo (R.ldA ag25 sz25 rfl rfl (show RowAt _ _ _ (encGr g) from (hB0_0.ext e1_0).rowAt 0 3) rfl)<|oS rfl<|Vp call12 rfl (small31_spec g 20 wa wc ws _ (hI.ext (e0_0.trans e1_0)) (by decide) (by decide) hwm) fun w2_2 e2_2=>Vo (R.not rfl)<|oB rfl<|VL.or rfl rfl (fun g2_4=>oS rfl<|lT<|Vo (R.lenS ru22 rfl)<|lT<|Vo (R.gtr rfl rfl)<|oQ rfl rfl<|Vn<|Vd rfl (fun c25=>Vs<|Vr<|oB rfl<|oA rfl<|Vn<|Vt<|tB rfl rfl rfl (⟨rfl,((e0_0.trans e1_0).trans e2_2)⟩)) (fun c25=>Vk<|Vs (?_))) (fun g2_4=>lF<|lF<|oP rfl rfl<|Vn<|Vg rfl<|Vs<|Vr<|oB rfl<|oA rfl<|Vn<|Vt<|tB rfl rfl rfl (⟨rfl,((e0_0.trans e1_0).trans e2_2)⟩))
 have hs31:=ht g2_4
 obtain ⟨hs1,hs2,hs3⟩:=small31_iff hs31
 have hgl:=small_glen hI hs1
 have hn:=(smallB_iff.1 hs1).1
 have hgn:(grV g).n=g.n:=rfl
 have E2:=(e0_0.trans e1_0).trans e2_2
 have hX0:=hB0_0.ext (e1_0.trans e2_2)
 refine Vr<|Vo (R.ldA ag25 sz25 rfl rfl (show RowAt _ _ _ (encGr g) from hX0.rowAt 0 3) rfl)<|oS rfl<|VL.callX call13 rfl (sumS hI hs31 (by decide) (hW.ext E2) hB hT E2) fun z4 w4 h4 e4=>Vo (R.mvT rfl)<|Vo (R.extr rfl rfl)<|Vo (R.extr rfl rfl)<|VL.allocSt (v:=.agg (encSp z4.1).toArray) zv32 sz32 rfl rfl rfl rfl rfl fun b4_6 w4_6 hb4_6 e4_6 hB4_6=>oJ rfl<|Vn<|Vs (?_)
 obtain ⟨s,es⟩:=z4
 obtain ⟨k4,j4⟩:=h4
 dsimp only at k4 j4 hB4_6 ⊢
 have hSp:Blk w4_6 b4_6 (.cells (encSp s).toArray 32 (0,0)):=hB4_6
 have F4:=e4.trans e4_6
 have E4:=E2.trans F4
 have hX4:=hX0.ext F4
 have k4':=k4.ext e4_6
 refine Vr<|Vo (R.ldA ag25 sz25 rfl rfl (show RowAt _ _ _ (encGr g) from hX4.rowAt 0 3) rfl)<|oS rfl<|VL.callX call14 rfl (rsumS g wa wc ws w4_6 (hI.ok.ext E4) hgl (by omega) hs2 (hW.ext E4) (by omega)) fun z5 w5 h5 e5=>Vo (R.mvT rfl)<|Vo (R.extr rfl rfl)<|Vo (R.extr rfl rfl)<|VL.allocSt (v:=.agg (encSp z5.1).toArray) zv32 sz32 rfl rfl rfl rfl rfl fun b5_6 w5_6 hb5_6 e5_6 hB5_6=>oJ rfl<|Vn<|Vs (?_)
 obtain ⟨t,et⟩:=z5
 dsimp only at h5 hB5_6 ⊢
 have hTp:Blk w5_6 b5_6 (.cells (encSp t).toArray 32 (0,0)):=hB5_6
 have F5:=e5.trans e5_6
 have E5:=E4.trans F5
 have hX5:=hX4.ext F5
 have q:=same_sum j4 (h5.ext e5_6)
 refine Vr<|Vo (R.ldA ag25 sz25 rfl rfl (show RowAt _ _ _ (encGr g) from hX5.rowAt 0 3) rfl)<|oS rfl<|VL.callX call15 rfl (peakS hI hs1 (hV.ext E5) (by omega) hB hT E5) fun z6 w6 h6 e6=>Vo (R.mvT rfl)<|Vo (R.extr rfl rfl)<|Vo (R.extr rfl rfl)<|VL.allocSt (v:=.agg (encSp z6.1).toArray) zv32 sz32 rfl rfl rfl rfl rfl fun b6_6 w6_6 hb6_6 e6_6 hB6_6=>oJ rfl<|Vn<|Vs (?_)
 obtain ⟨p,ep⟩:=z6
 obtain ⟨k6,j6⟩:=h6
 dsimp only at k6 j6 hB6_6 ⊢
 have hPp:Blk w6_6 b6_6 (.cells (encSp p).toArray 32 (0,0)):=hB6_6
 have F6:=e6.trans e6_6
 have E6:=E5.trans F6
 have hX6:=hX5.ext F6
 refine Vr<|Vo (R.ldA ag25 sz25 rfl rfl (show RowAt _ _ _ (encGr g) from hX6.rowAt 0 3) rfl)<|oS rfl<|VL.callX call16 rfl (rpeakS g va vc vs w6_6 (hI.ok.ext E6) hgl (by omega) hs2 (hV.ext E6) (by omega)) fun z7 w7 h7 e7=>Vo (R.mvT rfl)<|Vo (R.extr rfl rfl)<|Vo (R.extr rfl rfl)<|VL.allocSt (v:=.agg (encSp z7.1).toArray) zv32 sz32 rfl rfl rfl rfl rfl fun b7_6 w7_6 hb7_6 e7_6 hB7_6=>oJ rfl<|Vn<|Vs<|Vs (?_)
 obtain ⟨u,eu⟩:=z7
 dsimp only at h7 hB7_6 ⊢
 have hUp:Blk w7_6 b7_6 (.cells (encSp u).toArray 32 (0,0)):=hB7_6
 have F7:=e7.trans e7_6
 have E7:=E6.trans F7
 have r:=same_peak j6 (h7.ext e7_6)
 have kS:=k4'.ext ((F5.trans F6).trans F7)
 have kP:=(k6.ext e6_6).ext F7
 have hS7:=hSp.ext ((F5.trans F6).trans F7)
 have hT7:=hTp.ext (F6.trans F7)
 have hP7:=hPp.ext F7
 have qe:=q.e
 have re:=r.e
 have short:∀ (a b:SlI),a.l.length≤4000→b.l.length≤4000→∀ y∈[a,b],y.l.length≤9223372036854775807:=fun a b h1 h2 y hy=>by
  rcases List.mem_cons.1 hy with e | e
  ·rw [e];omega
  ·rw [List.mem_singleton.1 e];omega
 have qL:=q.il.ext (F6.trans F7)
 have qH:=q.ih.ext (F6.trans F7)
 refine Vr<|oI rfl<|oI rfl<|Vo (R.lit (R.neq rfl rfl) (decide_eq_false (fun h=>h qe)))<|oB rfl<|lT<|Vo (R.fld' (o:=0) ru32 rfl rfl sz3 rfl rfl)<|lT<|Vo (rla ag3 rfl (show _=some (Value.int .i64 s.fr) from hS7.cell 0))<|lT<|Vo (R.fld' (o:=0) ru32 rfl rfl sz3 rfl rfl)<|lT<|Vo (rla ag3 rfl (show _=some (Value.int .i64 t.fr) from hT7.cell 0))<|lT<|Vo (R.lit (R.neq rfl rfl) (decide_eq_false (fun h=>h q.fr)))<|oQ rfl rfl<|oB rfl<|lT<|Vo (R.fld' (o:=1) ru32 rfl rfl sz3 rfl rfl)<|lT<|Vo (rla ag3 rfl (show _=some (Value.int .i64 s.to) from hS7.cell 1))<|lT<|Vo (R.fld' (o:=1) ru32 rfl rfl sz3 rfl rfl)<|lT<|Vo (rla ag3 rfl (show _=some (Value.int .i64 t.to) from hT7.cell 1))<|lT<|Vo (R.lit (R.neq rfl rfl) (decide_eq_false (fun h=>h q.to)))<|oQ rfl rfl<|oB rfl<|lT<|Vo (R.fld' (o:=2) ru32 rfl rfl sz22 rfl rfl)<|lT<|Vo (rla ag22 rfl (show _=some (Value.slice s.lo.a s.lo.l.length s.lo.c) from hS7.cell 2))<|lT<|Vo (R.fld' (o:=3) ru32 rfl rfl sz22 rfl rfl)<|lT<|Vo (rla ag22 rfl (show _=some (Value.slice s.hi.a s.hi.l.length s.hi.c) from hS7.cell 3))<|lT<|VL.buildSl ru23 sz22 zv22 rfl rfl rfl fun b8_22 w8_22 hb8_22 e8_22 hB8_22=>lT<|Vo (R.fld' (o:=2) ru32 rfl rfl sz22 rfl rfl)<|lT<|Vo (rla ag22 rfl (show _=some (Value.slice t.lo.a t.lo.l.length t.lo.c) from (hT7.ext e8_22).cell 2))<|lT<|Vo (R.fld' (o:=3) ru32 rfl rfl sz22 rfl rfl)<|lT<|Vo (rla ag22 rfl (show _=some (Value.slice t.hi.a t.hi.l.length t.hi.c) from (hT7.ext e8_22).cell 3))<|lT<|VL.buildSl ru23 sz22 zv22 rfl rfl rfl fun b8_27 w8_27 hb8_27 e8_27 hB8_27=>lT<|Vp call17 rfl (sets_is [s.lo,s.hi] [t.lo,t.hi] (some ⟨b8_22,0,none⟩) (some ⟨b8_27,0,none⟩) 2 2 w8_27 (show [s.lo.l,s.hi.l]=[t.lo.l,t.hi.l] by rw [q.lo,q.hi]) (Nat.le_of_ble_eq_true rfl) (short _ _ q.l1 q.l2) (short _ _ (by rw [←q.lo];exact q.l1) (by rw [←q.hi];exact q.l2)) ((litL hB8_22 rfl (litA (c:=s.lo.c) (kS.lo.sl.ext e8_22) (litA (c:=s.hi.c) (kS.hi.sl.ext e8_22) litA0))).ext e8_27) (litL hB8_27 rfl (litA (c:=t.lo.c) (qL.ext (e8_22.trans e8_27)) (litA (c:=t.hi.c) (qH.ext (e8_22.trans e8_27)) litA0)))) fun w8_28 e8_28=>lT<|Vo (R.not rfl)<|oQ rfl rfl<|Vn<|V.condF rfl<|Vk<|Vs (?_)
 have E8:Ext w7_6 w8_28:=e8_22.trans (e8_27.trans e8_28)
 have hP8:=hP7.ext E8
 have hU8:=hUp.ext E8
 have kP8:=kP.ext E8
 have rL:=r.il.ext E8
 have rH:=r.ih.ext E8
 refine Vr<|oB rfl<|oB rfl<|lT<|oI rfl<|lT<|oI rfl<|lT<|Vo (R.lit (R.eql rfl rfl) (decide_eq_true re))<|oP rfl rfl<|oB rfl<|lT<|Vo (R.fld' (o:=0) ru32 rfl rfl sz3 rfl rfl)<|lT<|Vo (rla ag3 rfl (show _=some (Value.int .i64 p.fr) from hP8.cell 0))<|lT<|Vo (R.fld' (o:=0) ru32 rfl rfl sz3 rfl rfl)<|lT<|Vo (rla ag3 rfl (show _=some (Value.int .i64 u.fr) from hU8.cell 0))<|lT<|Vo (R.lit (R.eql rfl rfl) (decide_eq_true r.fr))<|oP rfl rfl<|oB rfl<|lT<|Vo (R.fld' (o:=1) ru32 rfl rfl sz3 rfl rfl)<|lT<|Vo (rla ag3 rfl (show _=some (Value.int .i64 p.to) from hP8.cell 1))<|lT<|Vo (R.fld' (o:=1) ru32 rfl rfl sz3 rfl rfl)<|lT<|Vo (rla ag3 rfl (show _=some (Value.int .i64 u.to) from hU8.cell 1))<|lT<|Vo (R.lit (R.eql rfl rfl) (decide_eq_true r.to))<|oP rfl rfl<|oB rfl<|lT<|Vo (R.fld' (o:=2) ru32 rfl rfl sz22 rfl rfl)<|lT<|Vo (rla ag22 rfl (show _=some (Value.slice p.lo.a p.lo.l.length p.lo.c) from hP8.cell 2))<|lT<|Vo (R.fld' (o:=3) ru32 rfl rfl sz22 rfl rfl)<|lT<|Vo (rla ag22 rfl (show _=some (Value.slice p.hi.a p.hi.l.length p.hi.c) from hP8.cell 3))<|lT<|VL.buildSl ru23 sz22 zv22 rfl rfl rfl fun b10_25 w10_25 hb10_25 e10_25 hB10_25=>lT<|Vo (R.fld' (o:=2) ru32 rfl rfl sz22 rfl rfl)<|lT<|Vo (rla ag22 rfl (show _=some (Value.slice u.lo.a u.lo.l.length u.lo.c) from (hU8.ext e10_25).cell 2))<|lT<|Vo (R.fld' (o:=3) ru32 rfl rfl sz22 rfl rfl)<|lT<|Vo (rla ag22 rfl (show _=some (Value.slice u.hi.a u.hi.l.length u.hi.c) from (hU8.ext e10_25).cell 3))<|lT<|VL.buildSl ru23 sz22 zv22 rfl rfl rfl fun b10_30 w10_30 hb10_30 e10_30 hB10_30=>lT<|Vp call17 rfl (sets_is [p.lo,p.hi] [u.lo,u.hi] (some ⟨b10_25,0,none⟩) (some ⟨b10_30,0,none⟩) 2 2 w10_30 (show [p.lo.l,p.hi.l]=[u.lo.l,u.hi.l] by rw [r.lo,r.hi]) (Nat.le_of_ble_eq_true rfl) (short _ _ r.l1 r.l2) (short _ _ (by rw [←r.lo];exact r.l1) (by rw [←r.hi];exact r.l2)) ((litL hB10_25 rfl (litA (c:=p.lo.c) (kP8.lo.sl.ext e10_25) (litA (c:=p.hi.c) (kP8.hi.sl.ext e10_25) litA0))).ext e10_30) (litL hB10_30 rfl (litA (c:=u.lo.c) (rL.ext (e10_25.trans e10_30)) (litA (c:=u.hi.c) (rH.ext (e10_25.trans e10_30)) litA0)))) fun w10_31 e10_31=>oP rfl rfl<|oB rfl<|lT<|Vo (R.fld' (o:=4) ru32 rfl rfl sz30 rfl rfl)<|lT<|Vo (R.fld' (o:=0) ru30 rfl rfl sz28 rfl rfl)<|lT<|Vo (rla ag28 rfl (show _=some (Value.slice p.pa p.P.length p.pc) from (hP8.ext (e10_25.trans (e10_30.trans e10_31))).cell 4))<|lT<|Vo (R.lenS ru28 rfl)<|lT<|Vo (R.lit (R.eql rfl rfl) (decide_eq_true (show ((p.P.length:Nat):Int)=0 by rw [j6.p];rfl)))<|oP rfl rfl<|oB rfl<|lT<|Vo (R.fld' (o:=5) ru32 rfl rfl sz30 rfl rfl)<|lT<|Vo (R.fld' (o:=0) ru30 rfl rfl sz28 rfl rfl)<|lT<|Vo (rla ag28 rfl (show _=some (Value.slice p.qa p.Q.length p.qc) from (hP8.ext (e10_25.trans (e10_30.trans e10_31))).cell 5))<|lT<|Vo (R.lenS ru28 rfl)<|lT<|Vo (R.lit (R.eql rfl rfl) (decide_eq_true (show ((p.Q.length:Nat):Int)=0 by rw [j6.q];rfl)))<|oP rfl rfl<|oA rfl<|Vn<|Vt<|tB rfl rfl rfl (⟨rfl,(E7.trans E8).trans ((((Vc.Mod.refl Vc.nob w8_28).trans e10_25).trans e10_30).trans e10_31)⟩)
end Go.Proofs.YtdkhcipjenfcnaaGreatDoor
