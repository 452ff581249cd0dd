/- Aggregate: the walk of law AggregateCounts. -/
import Derived.Test.YtdkhcipjenfcnaaGreatDoorXA56
namespace Go.Proofs.YtdkhcipjenfcnaaGreatDoor
set_option maxRecDepth 100000
set_option maxHeartbeats 16000000
open Go.Vc Go.Proofs.Tryz
theorem counts31_law (g:GrW) (sa:Option Addr) (sc:Nat) (S:List Int) (B:Nat) (w:World) (hI:GIn w g) (hS:IntSl w sa S) (hsm:S.length≤9223372036854775807) (hB:B≤w.heap.size) (hT:TabW B w) :
  RetsP prog 9 #[.agg (encGr g).toArray,.slice sa S.length sc] w (.bool true):=by
 refine enter (args:=[_,_]) func9 rfl ntmps9 (by kernel_rfl) rfl ?_
 have ht:∀ {b:Bool},(!b)=false→b=true:=fun h=>by simpa using h
 refine Vs (Vr (VL.box (v:=.agg _) rfl fun b0_0 w0_0 hb0_0 e0_0 hB0_0=>oA rfl (Vn (Vs (Vr (VL.callP call11 rfl (head31_spec B _ (Nat.le_trans hB (e0_0).size) (hT.ext hB e0_0)) fun w1_0 e1_0=>oA rfl (Vn (Vs (Vs (Vr (Vo (R.ldA isAgg25 sizeOf25 rfl rfl ((show RowAt _ _ _ (encGr g) from (hB0_0.ext e1_0).rowAt 0 3)) rfl) (VL.callP call12 rfl (small31_spec g 20 none 0 [] _ (hI.ext (e0_0.trans e1_0)) (by decide) (by decide) (by decide)) fun w2_1 e2_1=>Vo (R.not rfl) (oB rfl (VL.or rfl rfl (fun g2_3=>oS rfl (VL.gT rfl rfl (Vo (R.lenS runUnderlying22 rfl) (VL.gT rfl rfl (Vo (R.gtr rfl rfl) (oQ rfl rfl (oB rfl (VL.orP rfl rfl (fun g2_8=>Vo (R.fld' (o:=0) runUnderlying25 rfl rfl sizeOf3 rfl rfl) (VL.gT rfl rfl (Vo (R.ld1 isAgg3 rfl ((show _=some (Value.int .i64 g.n) from (hB0_0.ext (e1_0.trans e2_1)).cell 0))) (VL.gT rfl rfl (oL rfl rfl (oQ rfl rfl (Vn (V.condP rfl (fun c25=>Vs (Vr (oB rfl (oA rfl (Vn (V.ret (fret1 (v:=.bool _) rfl rfl rfl (⟨rfl,((e0_0.trans e1_0).trans e2_1)⟩)))))))) (fun c25=>V.skip (Vs (Vr (oT rfl (Vn (V.cut [1,2,5,6] (fun x:Option Addr×Nat=>[.slice sa S.length sc,.pointer (some ⟨b0_0,0,none⟩),.bool true,.slice x.1 (List.replicate g.n.toNat (1:Int)).length x.2]) (fun x w'=>Ext w2_1 w'∧OwnT Vc.encI 1 3 w2_1.heap.size w' x.1 x.2 (List.replicate g.n.toNat 1)) (Vs (Vr (oJ rfl (Vn (V.block (?_)))))) (fun rgB0 xB0 wBB0 hBB0=>Vs (?_)))))))))))))))) (fun g2_8=>VL.gF rfl rfl (VL.gF rfl rfl (oP rfl rfl (Vn (V.condT rfl (Vs (Vr (oB rfl (oA rfl (Vn (V.ret (fret1 (v:=.bool _) rfl rfl rfl (⟨rfl,((e0_0.trans e1_0).trans e2_1)⟩))))))))))))))))))))) (fun g2_3=>VL.gF rfl rfl (VL.gF rfl rfl (oP rfl rfl (oB rfl (VL.gF rfl rfl (VL.gF rfl rfl (VL.gF rfl rfl (oP rfl rfl (Vn (V.condT rfl (Vs (Vr (oB rfl (oA rfl (Vn (V.ret (fret1 (v:=.bool _) rfl rfl rfl (⟨rfl,((e0_0.trans e1_0).trans e2_1)⟩))))))))))))))))))))))))))))))))
 ·have hs1:=(small31_iff (ht g2_3)).1
  have hn:=(smallB_iff.1 hs1).1
  have hgn:(grV g).n=g.n:=rfl
  refine V.loop [1,2,5,6,7] (fun x:Nat×Option Addr×Nat=>[.slice sa S.length sc,.pointer (some ⟨b0_0,0,none⟩),.bool true,.slice x.2.1 (List.replicate x.1 (1:Int)).length x.2.2,.int .i64 (x.1:Nat)])
   (fun x w'=>x.1≤g.n.toNat∧Ext w2_1 w'∧OwnT Vc.encI 1 3 w2_1.heap.size w' x.2.1 x.2.2 (List.replicate x.1 1)) (fun x=>g.n.toNat-x.1) (0,none,0) rfl ⟨Nat.zero_le _,Vc.Mod.refl _ _,OwnT.nil _ _ _ _ _⟩ ?_
  rintro ρ ⟨k,a,c⟩ w3 ⟨hk,e3,ho⟩
  dsimp only at hk e3 ho ⊢
  have hkl:(List.replicate k (1:Int)).length=k:=List.length_replicate
  refine Vs (Vs (Vr (oI rfl (Vo (R.fld' (o:=0) runUnderlying25 rfl rfl sizeOf3 rfl rfl) (Vo (R.ld1 isAgg3 rfl ((show _=some (Value.int .i64 g.n) from ((hB0_0.ext (e1_0.trans e2_1)).ext e3).cell 0))) (oL rfl rfl (Vn (V.condP rfl (fun c30=>V.skip (Vs (V.block (?_)))) (fun c30=>V.exit (?_))))))))))
  ·refine Vr (oS rfl (VL.append1 el22 runUnderlying22 sizeOf3 zeroValue3 rfl ((1:Int)) rfl rfl rfl ho rfl rfl rfl (by omega) (by unfold maxLen;omega) e3.size fun a8 c8 w8 vt8 ho8 m8 hf8=>oT rfl (Vn (Vr (oI rfl (Vo (R.add rfl rfl (by omega) (by omega)) (oJ rfl (Vn (?_)))))))))
   refine ⟨(k+1,a8,c8),?_,⟨by dsimp only;omega,e3.ownA m8 fun q hq=>ho.ge q hq,by dsimp only;rw [List.replicate_succ'];exact ho8⟩,by dsimp only;omega⟩
   dsimp only
   rw [List.replicate_succ',List.length_append]
   rfl
  ·have hke:k=g.n.toNat:=by omega
   subst hke
   exact ⟨(a,c),rfl,e3,ho⟩
 obtain ⟨a3,c3⟩:=xB0
 obtain ⟨e3,ho3⟩:=hBB0
 dsimp only at ho3 ⊢
 have hs1:=(small31_iff (ht g2_3)).1
 have hs2:=(small31_iff (ht g2_3)).2.1
 have hgl:=small_glen hI hs1
 have hn:=(smallB_iff.1 hs1).1
 have hgn:(grV g).n=g.n:=rfl
 obtain ⟨ws,hws⟩:∃ ws,ws=List.replicate g.n.toNat (1:Int):=⟨_,rfl⟩
 rw [←hws] at ho3 ⊢
 have hwl:ws.length=g.n.toNat:=by rw [hws];exact List.length_replicate
 have hsm31:small31 (grV g) 20 ws.length=true:=by
  unfold small31
  rw [hs1,decide_eq_true hs2,decide_eq_true (by omega)];rfl
 have E2:=(e0_0.trans (e1_0.trans e2_1)).trans e3
 have hX0:=(hB0_0.ext (e1_0.trans e2_1)).ext e3
 refine Vr (Vo (R.ldA isAgg25 sizeOf25 rfl rfl ((show RowAt _ _ _ (encGr g) from hX0.rowAt 0 3)) rfl) (oS rfl (VL.callX call13 rfl (sumS hI hsm31 (by decide) (OwnT.sl ho3) hB hT E2) fun z4 w4 h4 e4=>Vo (R.mvT rfl) (Vo (R.extr rfl rfl) (Vo (R.extr rfl rfl) (VL.allocSt (v:=.agg (encSp z4.1).toArray) zeroValue32 sizeOf32 rfl rfl rfl rfl rfl fun b9_6 w9_6 hb9_6 e9_6 hB9_6=>oJ rfl (Vn (Vs (Vr (Vo (R.ldA isAgg25 sizeOf25 rfl rfl ((show RowAt _ _ _ (encGr g) from (hX0.ext (e4.trans e9_6)).rowAt 0 3)) rfl) (oS rfl (VL.callX call26 rfl (extend_spec g sa sc S B w9_6 (hI.ok.ext (E2.trans (e4.trans e9_6))) hgl (hS.ext (E2.trans (e4.trans e9_6))) (by omega) (Nat.le_trans hB (E2.trans (e4.trans e9_6)).size) (hT.ext hB (E2.trans (e4.trans e9_6)))) fun x5 w5 h5 e5=>Vo (R.mvT rfl) (Vo (R.extr rfl rfl) (Vo (R.extr rfl rfl) (oT rfl (oJ rfl (Vn (Vs (Vs (Vr (oI rfl (Vo (R.neq rfl rfl) (oB rfl (VL.orP rfl rfl (fun g11_2=>oI rfl (VL.gT rfl rfl (Vo (R.neq rfl rfl) (oQ rfl rfl (Vn (V.condP rfl (fun c53=>Vs (Vr (oB rfl (oA rfl (Vn (V.ret (fret1 (v:=.bool _) rfl rfl rfl (⟨rfl,E2.trans ((((Vc.Mod.refl Vc.nob wBB0).trans e4).trans e9_6).trans e5)⟩)))))))) (fun c53=>V.skip (Vs (?_))))))))) (fun g11_2=>VL.gF rfl rfl (oP rfl rfl (Vn (V.condT rfl (Vs (Vr (oB rfl (oA rfl (Vn (V.ret (fret1 (v:=.bool _) rfl rfl rfl (⟨rfl,E2.trans ((((Vc.Mod.refl Vc.nob wBB0).trans e4).trans e9_6).trans e5)⟩))))))))))))))))))))))))))))))))))))
 obtain ⟨s,er⟩:=z4
 obtain ⟨k4,j4⟩:=h4
 obtain ⟨⟨a5,c5,Q⟩,r5⟩:=x5
 obtain ⟨ho5,hv5⟩:=h5
 dsimp only at k4 j4 hv5 ho5 hB9_6 c53 g11_2 ⊢
 have her:er=0:=by omega
 subst her
 have hv:=(chk_zero j4.e.symm).1
 have hlb:loadB (grV g) S=true:=by
  cases hb:loadB (grV g) S with
  | true=>rfl
  | false =>
   rw [hb,if_neg (by decide)] at hv5
   exact absurd (congrArg Prod.snd hv5) (by show r5≠1;omega)
 rw [hlb,if_pos rfl] at hv5
 have hR:IsRep (grV g) Q:=by rw [show Q=extF (grV g) S from congrArg Prod.fst hv5];exact (ext_rep hlb).1
 have one:∀ {Z:List Int},IsRep (grV g) Z→totW ws Z=Z.length:=fun hZ=>by
  rw [hws]
  refine tot_ones _ fun v hv=>?_
  have:=(setB_iff.1 hZ.set).2 v hv
  omega
 have b1:=(j4.min hv).2 Q hR
 have b2:=(j4.max hv).2 Q hR
 rw [one hR] at b1 b2
 have b3:=j4.fr rfl
 have b4:=j4.to rfl
 rw [one (by rw [j4.lo rfl];exact (ext_least hv ws).rep)] at b3
 rw [one (by rw [j4.hi rfl];exact (ext_least hv (negW ws)).rep)] at b4
 have hSp:Blk w9_6 b9_6 (.cells (encSp s).toArray 32 (0,0)):=hB9_6
 have hq:=setB_iff.1 hR.set
 have hql:=set_len hq.1 hq.2 (by omega)
 refine Vr (oB rfl (oB rfl (VL.gT rfl rfl (Vo (R.fld' (o:=0) runUnderlying32 rfl rfl sizeOf3 rfl rfl) (VL.gT rfl rfl (Vo (R.ld1 isAgg3 rfl ((show _=some (Value.int .i64 s.fr) from (hSp.ext e5).cell 0))) (VL.gT rfl rfl (Vo (R.fld' (o:=2) runUnderlying32 rfl rfl sizeOf22 rfl rfl) (VL.gT rfl rfl (Vo (R.ld1 isAgg22 rfl ((show _=some (Value.slice s.lo.a s.lo.l.length s.lo.c) from (hSp.ext e5).cell 2))) (VL.gT rfl rfl (Vo (R.lenS runUnderlying22 rfl) (VL.gT rfl rfl (Vo (R.lit (R.eql rfl rfl) ((decide_eq_true b3))) (oP rfl rfl (oB rfl (VL.gT rfl rfl (Vo (R.fld' (o:=1) runUnderlying32 rfl rfl sizeOf3 rfl rfl) (VL.gT rfl rfl (Vo (R.ld1 isAgg3 rfl ((show _=some (Value.int .i64 s.to) from (hSp.ext e5).cell 1))) (VL.gT rfl rfl (Vo (R.fld' (o:=3) runUnderlying32 rfl rfl sizeOf22 rfl rfl) (VL.gT rfl rfl (Vo (R.ld1 isAgg22 rfl ((show _=some (Value.slice s.hi.a s.hi.l.length s.hi.c) from (hSp.ext e5).cell 3))) (VL.gT rfl rfl (Vo (R.lenS runUnderlying22 rfl) (VL.gT rfl rfl (Vo (R.lit (R.eql rfl rfl) ((decide_eq_true b4))) (oP rfl rfl (oB rfl (VL.gT rfl rfl (Vo (R.fld' (o:=0) runUnderlying32 rfl rfl sizeOf3 rfl rfl) (VL.gT rfl rfl (Vo (R.ld1 isAgg3 rfl ((show _=some (Value.int .i64 s.fr) from (hSp.ext e5).cell 0))) (VL.gT rfl rfl (oS rfl (VL.gT rfl rfl (Vo (R.lenS runUnderlying22 rfl) (VL.gT rfl rfl (Vo (R.lit (R.leq rfl rfl) ((decide_eq_true b1))) (oP rfl rfl (oB rfl (VL.gT rfl rfl (oS rfl (VL.gT rfl rfl (Vo (R.lenS runUnderlying22 rfl) (VL.gT rfl rfl (Vo (R.fld' (o:=1) runUnderlying32 rfl rfl sizeOf3 rfl rfl) (VL.gT rfl rfl (Vo (R.ld1 isAgg3 rfl ((show _=some (Value.int .i64 s.to) from (hSp.ext e5).cell 1))) (VL.gT rfl rfl (Vo (R.lit (R.leq rfl rfl) ((decide_eq_true b2))) (oP rfl rfl (oA rfl (Vn (V.ret (fret1 (v:=.bool _) rfl rfl rfl (⟨rfl,(E2.trans (e4.trans (e9_6.trans e5)))⟩))))))))))))))))))))))))))))))))))))))))))))))))))))))))))
end Go.Proofs.YtdkhcipjenfcnaaGreatDoor
