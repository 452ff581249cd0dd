/- Aggregate: the walk of law AggregateLinear. -/
import Derived.Test.YtdkhcipjenfcnaaGreatDoorXA56
namespace Go.Proofs.YtdkhcipjenfcnaaGreatDoor
set_option maxRecDepth 100000
set_option maxHeartbeats 16000000
open Go.Vc Go.Proofs.Tryz
theorem negW_take {ws:List Int} {k:Nat} (h:k<ws.length):negW (ws.take (k+1))=negW (ws.take k)++[-(ws.getD k default)]:=by
 unfold negW
 rw [List.take_succ_eq_append_getElem h,List.map_append,gget h];rfl
theorem freeK_len (E:List (List Int)) (k:Nat):(freeK E k).length≤k:=by
 unfold freeK;rw [List.length_map];exact Nat.le_trans (List.length_filter_le _ _) (Nat.le_of_eq List.length_range)
theorem aloneK_len (E:List (List Int)) (k:Nat):(aloneK E k).length≤k:=by
 unfold aloneK;rw [List.length_map];exact Nat.le_trans (List.length_filter_le _ _) (Nat.le_of_eq List.length_range)
theorem negW_len (ws:List Int):(negW ws).length=ws.length:=by unfold negW;exact List.length_map _
theorem chk_neg {g:Gr} {ws:List Int} (h:chkF g ws (-1000000000)=0):chkF g (negW ws) (-1000000000)=0:=by
 obtain ⟨hv,hl,hb,hf⟩:=chk_zero h
 have hw:wtsB g (negW ws) (-1000000000)=true:=by
  unfold wtsB
  rw [Bool.and_eq_true,decide_eq_true_eq,List.all_eq_true]
  refine ⟨by rw [negW_len];exact hl,fun x hx=>decide_eq_true ?_⟩
  obtain ⟨y,hy,rfl⟩:=List.mem_map.1 hx
  have:=hb y hy
  omega
 unfold chkF
 rw [if_pos ⟨hv,hw⟩,if_neg (by omega)]
theorem chk_set {g:Gr} {ws:List Int} {v:Nat} {y:Int} (h:chkF g ws (-1000000000)=0) (hy:-1000000000≤y∧y≤1000000000):chkF g (ws.set v y) (-1000000000)=0:=by
 obtain ⟨hv,hl,hb,hf⟩:=chk_zero h
 have hw:wtsB g (ws.set v y) (-1000000000)=true:=by
  unfold wtsB
  rw [Bool.and_eq_true,decide_eq_true_eq,List.all_eq_true]
  refine ⟨by rw [List.length_set];exact hl,fun x hx=>decide_eq_true ?_⟩
  rcases List.mem_or_eq_of_mem_set hx with hx | hx
  ·exact hb x hx
  ·rw [hx];exact hy
 unfold chkF
 rw [if_pos ⟨hv,hw⟩,if_neg (by omega)]
theorem neg_min {g:Gr} {ws:List Int} {m:Int} (h:MaxV g ws m):MinV g (negW ws) (-m):=by
 obtain ⟨⟨Z,h1,h2⟩,h3⟩:=h
 refine ⟨⟨Z,h1,by rw [totW_neg,h2]⟩,fun Q hQ=>?_⟩
 have:=h3 Q hQ
 rw [totW_neg];omega
theorem neg_max {g:Gr} {ws:List Int} {m:Int} (h:MinV g ws m):MaxV g (negW ws) (-m):=by
 obtain ⟨⟨Z,h1,h2⟩,h3⟩:=h
 refine ⟨⟨Z,h1,by rw [totW_neg,h2]⟩,fun Q hQ=>?_⟩
 have:=h3 Q hQ
 rw [totW_neg];omega
theorem linear31_law (g:GrW) (wa:Option Addr) (wc:Nat) (ws:List Int) (at':Int) (by':Int) (B:Nat) (w:World) (hI:GIn w g) (hW:IntSl w wa ws) (hwm:ws.length≤9223372036854775807) (ha:0≤at'∧at'<256) (hb:-32768≤by'∧by'<32768) (hB:B≤w.heap.size) (hT:TabW B w) :
  RetsP prog 6 #[.agg (encGr g).toArray,.slice wa ws.length wc,.int .u8 at',.int .i16 by'] w (.bool true):=by
 refine enter (args:=[_,_,_,_]) func6 rfl ntmps6 (by kernel_rfl) rfl ?_
 have ht:∀ {b:Bool},(!b)=false→b=true:=fun h=>by simpa using h
 refine Vs (Vr (VL.box (v:=.agg _) rfl fun b0_0 w0_0 hb0_0 e0_0 hB0_0=>oA rfl (Vn (Vs (Vr (VL.callP call11 rfl (head31_spec B _ (Nat.le_trans hB (e0_0).size) (hT.ext hB e0_0)) fun w1_0 e1_0=>oA rfl (Vn (Vs (Vs (Vr (Vo (R.ldA isAgg25 sizeOf25 rfl rfl ((show RowAt _ _ _ (encGr g) from (hB0_0.ext e1_0).rowAt 0 3)) rfl) (oS rfl (VL.callP call12 rfl (small31_spec g 20 wa wc ws _ (hI.ext (e0_0.trans e1_0)) (by decide) (by decide) hwm) fun w2_2 e2_2=>Vo (R.not rfl) (Vn (V.cond rfl (fun c27=>Vs (Vr (oB rfl (oA rfl (Vn (V.ret (fret1 (v:=.bool _) rfl rfl rfl (⟨rfl,((e0_0.trans e1_0).trans e2_2)⟩)))))))) (fun c27=>V.skip (Vs (?_))))))))))))))))))
 have hs31:=ht c27
 obtain ⟨hs1,hs2,hs3⟩:=small31_iff hs31
 have hgl:=small_glen hI hs1
 have hn:=(smallB_iff.1 hs1).1
 have hgn:(grV g).n=g.n:=rfl
 have E2:=(e0_0.trans e1_0).trans e2_2
 have hX0:=hB0_0.ext (e1_0.trans e2_2)
 refine Vr (Vo (R.ldA isAgg25 sizeOf25 rfl rfl ((show RowAt _ _ _ (encGr g) from hX0.rowAt 0 3)) rfl) (oS rfl (VL.callX call13 rfl (sumS hI hs31 (by decide) (hW.ext E2) hB hT E2) fun z4 w4 h4 e4=>Vo (R.mvT rfl) (Vo (R.extr rfl rfl) (Vo (R.extr rfl rfl) (VL.allocSt (v:=.agg (encSp z4.1).toArray) zeroValue32 sizeOf32 rfl rfl rfl rfl rfl fun b4_6 w4_6 hb4_6 e4_6 hB4_6=>oJ rfl (Vn (Vs (Vs (Vr (oI rfl (Vo (R.neq rfl rfl) (oB rfl (VL.orP rfl rfl (fun g5_2=>oS rfl (VL.gT rfl rfl (Vo (R.lenS runUnderlying22 rfl) (VL.gT rfl rfl (Vo (R.eql rfl rfl) (oQ rfl rfl (Vn (V.condP rfl (fun c41=>Vs (Vr (oB rfl (oA rfl (Vn (V.ret (fret1 (v:=.bool _) rfl rfl rfl (⟨rfl,E2.trans (((Vc.Mod.refl Vc.nob w2_2).trans e4).trans e4_6)⟩)))))))) (fun c41=>V.skip (Vs (?_))))))))))) (fun g5_2=>VL.gF rfl rfl (VL.gF rfl rfl (oP rfl rfl (Vn (V.condT rfl (Vs (Vr (oB rfl (oA rfl (Vn (V.ret (fret1 (v:=.bool _) rfl rfl rfl (⟨rfl,E2.trans (((Vc.Mod.refl Vc.nob w2_2).trans e4).trans e4_6)⟩)))))))))))))))))))))))))))
 obtain ⟨s,er⟩:=z4
 obtain ⟨k4,j4⟩:=h4
 dsimp only at k4 j4 g5_2 hB4_6 ⊢
 have her:er=0:=by omega
 subst her
 have hck:=j4.e.symm
 obtain ⟨hv,hwn,hwb,_⟩:=chk_zero hck
 have hSp:Blk w4_6 b4_6 (.cells (encSp s).toArray 32 (0,0)):=hB4_6
 have F4:=e4.trans e4_6
 have E4:=E2.trans F4
 have hX4:=hX0.ext F4
 have hwl:0<ws.length:=by omega
 obtain ⟨v,hvd⟩:∃ v:Nat,(v:Int)=at' % (ws.length:Int):=⟨(at' % (ws.length:Int)).toNat,by have:=Int.emod_nonneg at' (show (ws.length:Int)≠0 by omega);omega⟩
 have hvl:v<ws.length:=by have:=Int.emod_lt_of_pos at' (show (0:Int)<ws.length by omega);omega
 refine Vr (oT rfl (Vn (Vs (Vr (oT rfl (Vn (Vs (Vr (oI rfl (Vo (R.conv runUnderlying5 runUnderlying3 rfl (by rw [wrap_i64] <;> omega)) (oS rfl (Vo (R.lenS runUnderlying22 rfl) (Vo (R.remE (z:=((v:Nat):Int)) rfl rfl (by omega) (by omega) hvd.symm) (oJ rfl (Vn (V.cut [1,3,4,9,10,12,13,14] (fun x:(Option Addr×Nat)×Option Addr×Nat=>[.slice wa ws.length wc,.int .i16 by',.pointer (some ⟨b0_0,0,none⟩),.bool true,.pointer (some ⟨b4_6,0,none⟩),.slice x.1.1 (negW ws).length x.1.2,.slice x.2.1 ws.length x.2.2,.int .i64 (v:Nat)]) (fun x w'=>Ext w4_6 w'∧OwnT Vc.encI 1 3 w4_6.heap.size w' x.1.1 x.1.2 (negW ws)∧OwnT Vc.encI 1 3 w4_6.heap.size w' x.2.1 x.2.2 ws∧Sep x.1.1 x.2.1) (Vs (Vr (oJ rfl (Vn (V.block (?_)))))) (fun rgB0 xB0 wBB0 hBB0=>Vs (?_))))))))))))))))))
 ·refine V.loop [1,3,4,9,10,12,13,14,15] (fun x:Nat×(Option Addr×Nat)×Option Addr×Nat=>[.slice wa ws.length wc,.int .i16 by',.pointer (some ⟨b0_0,0,none⟩),.bool true,.pointer (some ⟨b4_6,0,none⟩),.slice x.2.1.1 (negW (ws.take x.1)).length x.2.1.2,.slice x.2.2.1 (ws.take x.1).length x.2.2.2,.int .i64 (v:Nat),.int .i64 (x.1:Nat)])
   (fun x w'=>x.1≤ws.length∧Ext w4_6 w'∧OwnT Vc.encI 1 3 w4_6.heap.size w' x.2.1.1 x.2.1.2 (negW (ws.take x.1))∧OwnT Vc.encI 1 3 w4_6.heap.size w' x.2.2.1 x.2.2.2 (ws.take x.1)∧Sep x.2.1.1 x.2.2.1) (fun x=>ws.length-x.1) (0,(none,0),none,0) rfl ⟨Nat.zero_le _,Vc.Mod.refl _ _,OwnT.nil _ _ _ _ _,OwnT.nil _ _ _ _ _,Sep.nil _⟩ ?_
  rintro ρ ⟨k,⟨a1,c1⟩,a2,c2⟩ w5 ⟨hk,e5,h1,h2,hsp⟩
  dsimp only at hk e5 h1 h2 hsp ⊢
  have hl1:(negW (ws.take k)).length=k:=by rw [negW_len,List.length_take];omega
  have hl2:(ws.take k).length=k:=by rw [List.length_take];omega
  refine Vs (Vs (Vr (oI rfl (oS rfl (Vo (R.lenS runUnderlying22 rfl) (oL rfl rfl (Vn (V.condP rfl (fun c51=>V.skip (Vs (V.block (Vs (?_))))) (fun c51=>V.exit (?_))))))))))
  ·have hkl:k<ws.length:=by omega
   have hW5:=hW.ext (E4.trans e5)
   have hwk:=hwb _ (gmem hkl)
   refine Vr (oS rfl (oS rfl (oI rfl (Vo (R.ixS runUnderlying22 sizeOf3 rfl rfl (by omega) (by omega) (hW5.some (i:=k) hkl)) (Vo (R.ld1 isAgg3 rfl (((hW5.row (i:=k) hkl).cell (i:=0) rfl))) (Vo (R.neg rfl (by omega) (by omega)) (VL.append1 el22 runUnderlying22 sizeOf3 zeroValue3 rfl ((-(ws.getD k default))) rfl rfl rfl h1 rfl rfl rfl (by omega) (by unfold maxLen;omega) e5.size fun a8 c8 w8 vt8 ho8 m8 hf8=>oT rfl (Vn (?_)))))))))
   have e8:Ext w4_6 w8:=e5.ownA m8 fun q hq=>h1.ge q hq
   have h2':=h2.mod m8 fun q hq hq1=>hsp q hq1 hq
   have hsp8:Sep a8 a2:=hsp.grown hf8 fun q hq=>h2.lt q hq
   have hW8:=hW.ext (E4.trans e8)
   refine Vr (oS rfl (oS rfl (oI rfl (Vo (R.ixS runUnderlying22 sizeOf3 rfl rfl (by omega) (by omega) (hW8.some (i:=k) hkl)) (Vo (R.ld1 isAgg3 rfl (((hW8.row (i:=k) hkl).cell (i:=0) rfl))) (VL.append1 el22 runUnderlying22 sizeOf3 zeroValue3 rfl ((ws.getD k default)) rfl rfl rfl h2' rfl rfl rfl (by omega) (by unfold maxLen;omega) e8.size fun a9 c9 w9 vt9 ho9 m9 hf9=>oT rfl (Vn (Vr (oI rfl (Vo (R.add rfl rfl (by omega) (by omega)) (oJ rfl (Vn (?_)))))))))))))
   have hn1:=negW_take hkl
   have hn2:ws.take (k+1)=ws.take k++[ws.getD k default]:=by rw [List.take_succ_eq_append_getElem hkl,gget hkl]
   refine ⟨(k+1,(a8,c8),a9,c9),?_,⟨by dsimp only;omega,e8.ownA m9 fun q hq=>h2'.ge q hq,?_,by dsimp only;rw [hn2];exact ho9,?_⟩,by dsimp only;omega⟩
   ·dsimp only
    rw [hn1,hn2,List.length_append,List.length_append]
    rfl
   ·dsimp only
    rw [hn1]
    exact ho8.mod m9 fun q hq hq1=>hsp8 q hq hq1
   ·exact (hsp8.symm.grown hf9 fun q hq=>ho8.lt q hq).symm
  ·have hke:k=ws.length:=by omega
   rw [hke,List.take_length] at h1 h2 ⊢
   exact ⟨((a1,c1),a2,c2),rfl,e5,h1,h2,hsp⟩
 obtain ⟨⟨a1,c1⟩,a2,c2⟩:=xB0
 obtain ⟨e6,h1,h2,hsp⟩:=hBB0
 dsimp only at h1 h2 hsp ⊢
 have E6:=E4.trans e6
 have hW6:=hW.ext E6
 have hwv:=hwb _ (gmem hvl)
 obtain ⟨y,hy⟩:∃ y:Int,y=max (-1000000000) (min 1000000000 (ws.getD v default+by')):=⟨_,rfl⟩
 have hyb:-1000000000≤y∧y≤1000000000:=by omega
 refine Vr (oS rfl (oI rfl (oS rfl (oI rfl (Vo (R.ixS runUnderlying22 sizeOf3 rfl rfl (by omega) (by omega) (hW6.some (i:=v) hvl)) (Vo (R.ld1 isAgg3 rfl (((hW6.row (i:=v) hvl).cell (i:=0) rfl))) (oI rfl (Vo (R.conv runUnderlying41 runUnderlying3 rfl (by rw [wrap_i64] <;> omega)) (Vo (R.add rfl rfl (by omega) (by omega)) (Vo (R.min rfl rfl) (Vo (R.max rfl rfl) (Vo (R.ixS runUnderlying22 sizeOf3 rfl rfl (by omega) (by omega) (h2.sl.some (i:=v) hvl)) (VL.ownSt eltI (v:=.int _ _) sizeOf3 (h2) v 0 (max (-1000000000) (min 1000000000 (ws.getD v default+by'))) rfl rfl (by omega) rfl rfl rfl rfl rfl fun w15 ho15 m15 hs15=>Vn (Vs (?_)))))))))))))))
 rw [←hy] at ho15
 have e15:Ext w4_6 w15:=e6.ownA m15 fun q hq=>h2.ge q hq
 have E15:=E4.trans e15
 have h15:=h1.mod m15 fun q hq hq1=>hsp q hq hq1
 have hW15:=hW.ext E15
 have hsl:(ws.set v y).length=ws.length:=List.length_set
 have hyv:(ws.set v y).getD v default=y:=by rw [List.getD,List.getElem?_set_self hvl];rfl
 refine V.regionQ mixed 8 (by kernel_rfl) rfl (fun w'=>Ext _ w') (Ext.drawn _) (VQ.op (fun wq eq=>R.mvS rfl) (VQ.op (fun wq eq=>R.mvI rfl) (VQ.op (fun wq eq=>R.ixS runUnderlying22 sizeOf3 rfl rfl (by omega) (by omega) (ho15.sl.some (i:=v) (by omega))) (VQ.op (fun wq eq=>R.ld1 isAgg3 rfl ((((ho15.sl.ext eq).row (i:=v) (by omega)).cell (i:=0) rfl))) (VQ.op (fun wq eq=>R.mvS rfl) (VQ.op (fun wq eq=>R.mvI rfl) (VQ.op (fun wq eq=>R.ixS runUnderlying22 sizeOf3 rfl rfl (by omega) (by omega) (hW15.some (i:=v) hvl)) (VQ.op (fun wq eq=>R.ld1 isAgg3 rfl ((((hW15.ext eq).row (i:=v) hvl).cell (i:=0) rfl))) (VQ.nil fun w16q e16q=>Vo (R.sub rfl rfl (by rw [hyv];omega) (by rw [hyv];omega)) (oJ rfl (Vn (Vs (?_)))))))))))))
 rw [hyv]
 have E16:=E15.trans e16q
 have F16:Ext w4_6 w16q:=e15.trans e16q
 have hs31n:small31 (grV g) 20 (negW ws).length=true:=by rw [negW_len];exact hs31
 have hs31m:small31 (grV g) 20 (ws.set v y).length=true:=by rw [hsl];exact hs31
 have hX16:=hX4.ext F16
 have hm1:=h15.ext e16q
 have hm2:=ho15.ext e16q
 refine Vr (Vo (R.ldA isAgg25 sizeOf25 rfl rfl ((show RowAt _ _ _ (encGr g) from hX16.rowAt 0 3)) rfl) (oS rfl (VL.callX call13 rfl (sumS hI hs31n (by decide) hm1.sl hB hT E16) fun z17 w17 h17 e17=>Vo (R.mvT rfl) (Vo (R.extr rfl rfl) (Vo (R.extr rfl rfl) (VL.allocSt (v:=.agg (encSp z17.1).toArray) zeroValue32 sizeOf32 rfl rfl rfl rfl rfl fun b17_6 w17_6 hb17_6 e17_6 hB17_6=>oJ rfl (Vn (Vs (?_)))))))))
 obtain ⟨t,er⟩:=z17
 obtain ⟨k17,j17⟩:=h17
 dsimp only at k17 j17 hB17_6 ⊢
 have her:er=0:=by rw [j17.e];exact chk_neg hck
 subst her
 have hTp:Blk w17_6 b17_6 (.cells (encSp t).toArray 32 (0,0)):=hB17_6
 have F17:=e17.trans e17_6
 have E17:=E16.trans F17
 have hf18:=sumS (wc:=c2) hI hs31m (by decide) (hm2.ext F17).sl hB hT E17
 rw [hsl] at hf18
 refine Vr (Vo (R.ldA isAgg25 sizeOf25 rfl rfl ((show RowAt _ _ _ (encGr g) from (hX16.ext F17).rowAt 0 3)) rfl) (oS rfl (VL.callX call13 rfl (hf18) fun z18 w18 h18 e18=>Vo (R.mvT rfl) (Vo (R.extr rfl rfl) (Vo (R.extr rfl rfl) (VL.allocSt (v:=.agg (encSp z18.1).toArray) zeroValue32 sizeOf32 rfl rfl rfl rfl rfl fun b18_6 w18_6 hb18_6 e18_6 hB18_6=>oJ rfl (Vn (Vs (?_)))))))))
 obtain ⟨u,er⟩:=z18
 obtain ⟨k18,j18⟩:=h18
 dsimp only at k18 j18 hB18_6 ⊢
 have her:er=0:=by rw [j18.e];exact chk_set hck hyb
 subst her
 have hUp:Blk w18_6 b18_6 (.cells (encSp u).toArray 32 (0,0)):=hB18_6
 have F18:=e18.trans e18_6
 have E18:=E17.trans F18
 have e418:Ext w4_6 w18_6:=(F16.trans F17).trans F18
 refine Vr (Vo (R.ldA isAgg25 sizeOf25 rfl rfl ((show RowAt _ _ _ (encGr g) from (hX4.ext e418).rowAt 0 3)) rfl) (VL.callX call22 rfl (fixed_spec g B w18_6 (hI.ok.ext E18) hgl (Nat.le_trans hB E18.size) (hT.ext hB E18)) fun f19 w19 h19 e19=>Vo (R.mvT rfl) (Vo (R.extr rfl rfl) (Vo (R.extr rfl rfl) (oT rfl (oT rfl (Vn (Vs (Vs (?_))))))))))
 obtain ⟨hf1,⟨hf2,_⟩,hf3⟩:=h19
 have hS20:=hSp.ext (e418.trans e19)
 have hT20:=hTp.ext (F18.trans e19)
 have hU20:=hUp.ext e19
 have q1:=(neg_min (j4.max hv)).uniq (j17.min hv)
 have q2:=(neg_max (j4.min hv)).uniq (j17.max hv)
 have bnd:∀ {Z:List Int},IsRep (grV g) Z→-(20000000000:Int)≤totW ws Z∧totW ws Z≤20000000000:=fun {Z} hZ=>by
  have i1:=setB_iff.1 hZ.set
  have i2:=set_len i1.1 i1.2 (by omega)
  have:=tot_bnd hwb (fun x hx=>by have:=i1.2 x hx;omega) Z.length (S:=Z)
  rw [List.take_length] at this
  omega
 obtain ⟨⟨Z1,hZ1,hz1⟩,_⟩:=j4.min hv
 obtain ⟨⟨Z2,hZ2,hz2⟩,_⟩:=j4.max hv
 have b1:=bnd hZ1
 have b2:=bnd hZ2
 rw [hz1] at b1
 rw [hz2] at b2
 refine Vr (oI rfl (Vo (R.lit (R.neq rfl rfl) ((decide_eq_false (fun h=>h rfl)))) (oB rfl (VL.gT rfl rfl (oI rfl (VL.gT rfl rfl (Vo (R.lit (R.neq rfl rfl) ((decide_eq_false (fun h=>h rfl)))) (oQ rfl rfl (oB rfl (VL.gT rfl rfl (Vo (R.fld' (o:=0) runUnderlying32 rfl rfl sizeOf3 rfl rfl) (VL.gT rfl rfl (Vo (R.ld1 isAgg3 rfl ((show _=some (Value.int .i64 t.fr) from hT20.cell 0))) (VL.gT rfl rfl (Vo (R.fld' (o:=1) runUnderlying32 rfl rfl sizeOf3 rfl rfl) (VL.gT rfl rfl (Vo (R.ld1 isAgg3 rfl ((show _=some (Value.int .i64 s.to) from hS20.cell 1))) (VL.gT rfl rfl (Vo (R.neg rfl (by omega) (by omega)) (VL.gT rfl rfl (Vo (R.lit (R.neq rfl rfl) ((decide_eq_false (fun h=>h q1.symm)))) (oQ rfl rfl (oB rfl (VL.gT rfl rfl (Vo (R.fld' (o:=1) runUnderlying32 rfl rfl sizeOf3 rfl rfl) (VL.gT rfl rfl (Vo (R.ld1 isAgg3 rfl ((show _=some (Value.int .i64 t.to) from hT20.cell 1))) (VL.gT rfl rfl (Vo (R.fld' (o:=0) runUnderlying32 rfl rfl sizeOf3 rfl rfl) (VL.gT rfl rfl (Vo (R.ld1 isAgg3 rfl ((show _=some (Value.int .i64 s.fr) from hS20.cell 0))) (VL.gT rfl rfl (Vo (R.neg rfl (by omega) (by omega)) (VL.gT rfl rfl (Vo (R.lit (R.neq rfl rfl) ((decide_eq_false (fun h=>h q2.symm)))) (oQ rfl rfl (Vn (V.condF rfl (V.skip (Vs (Vs (?_))))))))))))))))))))))))))))))))))))))))))
 have hi1:f19.1.l=freeK (grV g).edges (grV g).n.toNat:=by have:=congrArg Prod.fst hf1;rw [show (fixF (grV g)).1=_ by unfold fixF;rw [if_pos hv]] at this;exact this
 have hi2:f19.2.l=aloneK (grV g).edges (grV g).n.toNat:=by have:=congrArg Prod.snd hf1;rw [show (fixF (grV g)).2=_ by unfold fixF;rw [if_pos hv]] at this;exact this
 have hl1:f19.1.l.length≤1000000:=by
  rw [hi1]
  have:=freeK_len (grV g).edges (grV g).n.toNat
  omega
 have hl2:f19.2.l.length≤1000000:=by
  rw [hi2]
  have:=aloneK_len (grV g).edges (grV g).n.toNat
  omega
 have hwt:wtF ws (v:Int)=ws.getD v default:=by unfold wtF;rw [Int.toNat_natCast]
 have kin:(v:Int)∈f19.1.l→u.fr=s.fr+(y-ws.getD v default)∧u.to=s.to+(y-ws.getD v default):=fun h=>by
  rw [hi1,freeK_mem] at h
  obtain ⟨a,b⟩:=shift_in hvl y ((fix_all hv h.1 (by omega)).2 h.2.2)
  rw [hwt] at a b
  exact ⟨(j18.min hv).uniq (a _ (j4.min hv)),(j18.max hv).uniq (b _ (j4.max hv))⟩
 have kout:(v:Int)∈f19.2.l→u.fr=s.fr∧u.to=s.to:=fun h=>by
  rw [hi2,aloneK_mem] at h
  obtain ⟨a,b⟩:=shift_out hvl y ((fix_none hv h.1 (by omega)).2 h.2.2)
  exact ⟨(j18.min hv).uniq (a _ (j4.min hv)),(j18.max hv).uniq (b _ (j4.max hv))⟩
 have hA:∀ {b:Bool},decide ((v:Int)∈f19.1.l)=b→RetsP prog 23 #[.slice f19.1.a f19.1.l.length f19.1.c,.int .i64 (v:Int)] w19 (.bool b):=fun h=>by
  have:=in_spec f19.1.a f19.1.c f19.1.l (v:Int) w19 (by omega) hf2
  rwa [h] at this
 have hB2:∀ {b:Bool} {w':World},decide ((v:Int)∈f19.2.l)=b→Ext w19 w'→RetsP prog 23 #[.slice f19.2.a f19.2.l.length f19.2.c,.int .i64 (v:Int)] w' (.bool b):=fun {b w'} h e=>by
  have:=in_spec f19.2.a f19.2.c f19.2.l (v:Int) w' (by omega) (hf3.ext e)
  rwa [h] at this
 by_cases hin:(v:Int)∈f19.1.l
 ·have hia:=hA (decide_eq_true hin)
  by_cases hout:(v:Int)∈f19.2.l
  ·refine Vr (oS rfl (oI rfl (VL.callP call23 rfl (hia) fun w22_2 e22_2=>oB rfl (VL.gT rfl rfl (Vo (R.fld' (o:=0) runUnderlying32 rfl rfl sizeOf3 rfl rfl) (VL.gT rfl rfl (Vo (R.ld1 isAgg3 rfl ((show _=some (Value.int .i64 u.fr) from (hU20.ext e22_2).cell 0))) (VL.gT rfl rfl (Vo (R.fld' (o:=0) runUnderlying32 rfl rfl sizeOf3 rfl rfl) (VL.gT rfl rfl (Vo (R.ld1 isAgg3 rfl ((show _=some (Value.int .i64 s.fr) from (hS20.ext e22_2).cell 0))) (VL.gT rfl rfl (oI rfl (VL.gT rfl rfl (Vo (R.add rfl rfl (by omega) (by omega)) (VL.gT rfl rfl (Vo (R.lit (R.neq rfl rfl) ((decide_eq_false (fun h=>h (kin hin).1)))) (VL.gT rfl rfl (oB rfl (VL.gT rfl rfl (Vo (R.fld' (o:=1) runUnderlying32 rfl rfl sizeOf3 rfl rfl) (VL.gT rfl rfl (Vo (R.ld1 isAgg3 rfl ((show _=some (Value.int .i64 u.to) from (hU20.ext e22_2).cell 1))) (VL.gT rfl rfl (Vo (R.fld' (o:=1) runUnderlying32 rfl rfl sizeOf3 rfl rfl) (VL.gT rfl rfl (Vo (R.ld1 isAgg3 rfl ((show _=some (Value.int .i64 s.to) from (hS20.ext e22_2).cell 1))) (VL.gT rfl rfl (oI rfl (VL.gT rfl rfl (Vo (R.add rfl rfl (by omega) (by omega)) (VL.gT rfl rfl (Vo (R.lit (R.neq rfl rfl) ((decide_eq_false (fun h=>h (kin hin).2)))) (VL.gT rfl rfl (oQ rfl rfl (oP rfl rfl (oB rfl (VL.gT rfl rfl (oS rfl (VL.gT rfl rfl (oI rfl (VL.gT rfl rfl (VL.callP call23 rfl ((hB2 (decide_eq_true hout) e22_2)) fun w22_24 e22_24=>VL.gT rfl rfl (oB rfl (VL.gT rfl rfl (Vo (R.fld' (o:=0) runUnderlying32 rfl rfl sizeOf3 rfl rfl) (VL.gT rfl rfl (Vo (R.ld1 isAgg3 rfl ((show _=some (Value.int .i64 u.fr) from (hU20.ext (e22_2.trans e22_24)).cell 0))) (VL.gT rfl rfl (Vo (R.fld' (o:=0) runUnderlying32 rfl rfl sizeOf3 rfl rfl) (VL.gT rfl rfl (Vo (R.ld1 isAgg3 rfl ((show _=some (Value.int .i64 s.fr) from (hS20.ext (e22_2.trans e22_24)).cell 0))) (VL.gT rfl rfl (Vo (R.lit (R.neq rfl rfl) ((decide_eq_false (fun h=>h (kout hout).1)))) (VL.gT rfl rfl (oB rfl (VL.gT rfl rfl (Vo (R.fld' (o:=1) runUnderlying32 rfl rfl sizeOf3 rfl rfl) (VL.gT rfl rfl (Vo (R.ld1 isAgg3 rfl ((show _=some (Value.int .i64 u.to) from (hU20.ext (e22_2.trans e22_24)).cell 1))) (VL.gT rfl rfl (Vo (R.fld' (o:=1) runUnderlying32 rfl rfl sizeOf3 rfl rfl) (VL.gT rfl rfl (Vo (R.ld1 isAgg3 rfl ((show _=some (Value.int .i64 s.to) from (hS20.ext (e22_2.trans e22_24)).cell 1))) (VL.gT rfl rfl (Vo (R.lit (R.neq rfl rfl) ((decide_eq_false (fun h=>h (kout hout).2)))) (VL.gT rfl rfl (oQ rfl rfl (VL.gT rfl rfl (oP rfl rfl (oQ rfl rfl (Vn (V.condF rfl (V.skip (Vs (Vr (oB rfl (oA rfl (Vn (V.ret (fret1 (v:=.bool _) rfl rfl rfl (⟨rfl,(E18.trans e19).trans (((Vc.Mod.refl Vc.nob w19).trans e22_2).trans e22_24)⟩))))))))))))))))))))))))))))))))))))))))))))))))))))))))))))))))))))))))))))))))))
  ·refine Vr (oS rfl (oI rfl (VL.callP call23 rfl (hia) fun w22_2 e22_2=>oB rfl (VL.gT rfl rfl (Vo (R.fld' (o:=0) runUnderlying32 rfl rfl sizeOf3 rfl rfl) (VL.gT rfl rfl (Vo (R.ld1 isAgg3 rfl ((show _=some (Value.int .i64 u.fr) from (hU20.ext e22_2).cell 0))) (VL.gT rfl rfl (Vo (R.fld' (o:=0) runUnderlying32 rfl rfl sizeOf3 rfl rfl) (VL.gT rfl rfl (Vo (R.ld1 isAgg3 rfl ((show _=some (Value.int .i64 s.fr) from (hS20.ext e22_2).cell 0))) (VL.gT rfl rfl (oI rfl (VL.gT rfl rfl (Vo (R.add rfl rfl (by omega) (by omega)) (VL.gT rfl rfl (Vo (R.lit (R.neq rfl rfl) ((decide_eq_false (fun h=>h (kin hin).1)))) (VL.gT rfl rfl (oB rfl (VL.gT rfl rfl (Vo (R.fld' (o:=1) runUnderlying32 rfl rfl sizeOf3 rfl rfl) (VL.gT rfl rfl (Vo (R.ld1 isAgg3 rfl ((show _=some (Value.int .i64 u.to) from (hU20.ext e22_2).cell 1))) (VL.gT rfl rfl (Vo (R.fld' (o:=1) runUnderlying32 rfl rfl sizeOf3 rfl rfl) (VL.gT rfl rfl (Vo (R.ld1 isAgg3 rfl ((show _=some (Value.int .i64 s.to) from (hS20.ext e22_2).cell 1))) (VL.gT rfl rfl (oI rfl (VL.gT rfl rfl (Vo (R.add rfl rfl (by omega) (by omega)) (VL.gT rfl rfl (Vo (R.lit (R.neq rfl rfl) ((decide_eq_false (fun h=>h (kin hin).2)))) (VL.gT rfl rfl (oQ rfl rfl (oP rfl rfl (oB rfl (VL.gT rfl rfl (oS rfl (VL.gT rfl rfl (oI rfl (VL.gT rfl rfl (VL.callP call23 rfl ((hB2 (decide_eq_false hout) e22_2)) fun w22_24 e22_24=>VL.gT rfl rfl (oB rfl (VL.gF rfl rfl (VL.gF rfl rfl (VL.gF rfl rfl (VL.gF rfl rfl (VL.gF rfl rfl (VL.gF rfl rfl (VL.gU rfl rfl (VL.gU rfl rfl (VL.gU rfl rfl (VL.gU rfl rfl (VL.gU rfl rfl (VL.gF rfl rfl (VL.gT rfl rfl (oQ rfl rfl (oQ rfl rfl (Vn (V.condF rfl (V.skip (Vs (Vr (oB rfl (oA rfl (Vn (V.ret (fret1 (v:=.bool _) rfl rfl rfl (⟨rfl,(E18.trans e19).trans (((Vc.Mod.refl Vc.nob w19).trans e22_2).trans e22_24)⟩))))))))))))))))))))))))))))))))))))))))))))))))))))))))))))))))))))))
 ·have hia:=hA (decide_eq_false hin)
  by_cases hout:(v:Int)∈f19.2.l
  ·refine Vr (oS rfl (oI rfl (VL.callP call23 rfl (hia) fun w22_2 e22_2=>oB rfl (VL.gF rfl rfl (VL.gF rfl rfl (VL.gF rfl rfl (VL.gF rfl rfl (VL.gF rfl rfl (VL.gF rfl rfl (VL.gF rfl rfl (VL.gF rfl rfl (VL.gU rfl rfl (VL.gU rfl rfl (VL.gU rfl rfl (VL.gU rfl rfl (VL.gU rfl rfl (VL.gU rfl rfl (VL.gU rfl rfl (VL.gF rfl rfl (oQ rfl rfl (oB rfl (VL.gT rfl rfl (oS rfl (VL.gT rfl rfl (oI rfl (VL.gT rfl rfl (VL.callP call23 rfl ((hB2 (decide_eq_true hout) e22_2)) fun w22_24 e22_24=>VL.gT rfl rfl (oB rfl (VL.gT rfl rfl (Vo (R.fld' (o:=0) runUnderlying32 rfl rfl sizeOf3 rfl rfl) (VL.gT rfl rfl (Vo (R.ld1 isAgg3 rfl ((show _=some (Value.int .i64 u.fr) from (hU20.ext (e22_2.trans e22_24)).cell 0))) (VL.gT rfl rfl (Vo (R.fld' (o:=0) runUnderlying32 rfl rfl sizeOf3 rfl rfl) (VL.gT rfl rfl (Vo (R.ld1 isAgg3 rfl ((show _=some (Value.int .i64 s.fr) from (hS20.ext (e22_2.trans e22_24)).cell 0))) (VL.gT rfl rfl (Vo (R.lit (R.neq rfl rfl) ((decide_eq_false (fun h=>h (kout hout).1)))) (VL.gT rfl rfl (oB rfl (VL.gT rfl rfl (Vo (R.fld' (o:=1) runUnderlying32 rfl rfl sizeOf3 rfl rfl) (VL.gT rfl rfl (Vo (R.ld1 isAgg3 rfl ((show _=some (Value.int .i64 u.to) from (hU20.ext (e22_2.trans e22_24)).cell 1))) (VL.gT rfl rfl (Vo (R.fld' (o:=1) runUnderlying32 rfl rfl sizeOf3 rfl rfl) (VL.gT rfl rfl (Vo (R.ld1 isAgg3 rfl ((show _=some (Value.int .i64 s.to) from (hS20.ext (e22_2.trans e22_24)).cell 1))) (VL.gT rfl rfl (Vo (R.lit (R.neq rfl rfl) ((decide_eq_false (fun h=>h (kout hout).2)))) (VL.gT rfl rfl (oQ rfl rfl (VL.gT rfl rfl (oP rfl rfl (oQ rfl rfl (Vn (V.condF rfl (V.skip (Vs (Vr (oB rfl (oA rfl (Vn (V.ret (fret1 (v:=.bool _) rfl rfl rfl (⟨rfl,(E18.trans e19).trans (((Vc.Mod.refl Vc.nob w19).trans e22_2).trans e22_24)⟩))))))))))))))))))))))))))))))))))))))))))))))))))))))))))))))))))
  ·refine Vr (oS rfl (oI rfl (VL.callP call23 rfl (hia) fun w22_2 e22_2=>oB rfl (VL.gF rfl rfl (VL.gF rfl rfl (VL.gF rfl rfl (VL.gF rfl rfl (VL.gF rfl rfl (VL.gF rfl rfl (VL.gF rfl rfl (VL.gF rfl rfl (VL.gU rfl rfl (VL.gU rfl rfl (VL.gU rfl rfl (VL.gU rfl rfl (VL.gU rfl rfl (VL.gU rfl rfl (VL.gU rfl rfl (VL.gF rfl rfl (oQ rfl rfl (oB rfl (VL.gT rfl rfl (oS rfl (VL.gT rfl rfl (oI rfl (VL.gT rfl rfl (VL.callP call23 rfl ((hB2 (decide_eq_false hout) e22_2)) fun w22_24 e22_24=>VL.gT rfl rfl (oB rfl (VL.gF rfl rfl (VL.gF rfl rfl (VL.gF rfl rfl (VL.gF rfl rfl (VL.gF rfl rfl (VL.gF rfl rfl (VL.gU rfl rfl (VL.gU rfl rfl (VL.gU rfl rfl (VL.gU rfl rfl (VL.gU rfl rfl (VL.gF rfl rfl (VL.gT rfl rfl (oQ rfl rfl (oQ rfl rfl (Vn (V.condF rfl (V.skip (Vs (Vr (oB rfl (oA rfl (Vn (V.ret (fret1 (v:=.bool _) rfl rfl rfl (⟨rfl,(E18.trans e19).trans (((Vc.Mod.refl Vc.nob w19).trans e22_2).trans e22_24)⟩))))))))))))))))))))))))))))))))))))))))))))))))))))))
end Go.Proofs.YtdkhcipjenfcnaaGreatDoor
