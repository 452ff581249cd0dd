/- Aggregate: the walk of law AggregateSound. -/
import Derived.Test.YtdkhcipjenfcnaaGreatDoorXA53
import Derived.Test.YtdkhcipjenfcnaaGreatDoorXA54
import Derived.Test.YtdkhcipjenfcnaaGreatDoorXN9
namespace Go.Proofs.YtdkhcipjenfcnaaGreatDoor
set_option maxRecDepth 100000
set_option maxHeartbeats 16000000
open Go.Vc Go.Proofs.Tryz
theorem check_wts {g:Gr} {ws:List Int} {x:SpX} (h:checkG g ws x=true):(ws.length:Int)=g.n∧∀ y∈ws,-1000000000≤y∧y≤1000000000:=by
 unfold checkG at h
 simp only [Bool.and_eq_true] at h
 obtain ⟨⟨_,hw⟩,_⟩:=h
 unfold wtsB at hw
 rw [Bool.and_eq_true,decide_eq_true_eq,List.all_eq_true] at hw
 exact ⟨hw.1,fun y hy=>of_decide_eq_true (hw.2 y hy)⟩
theorem sound31_law (g:GrW) (wa:Option Addr) (wc:Nat) (ws:List Int) (x:SpX) (sa:Option Addr) (sc:Nat) (S:List Int) (B:Nat) (w:World) (hI:GIn w g) (hW:IntSl w wa ws) (hwm:ws.length≤9223372036854775807) (hX:SpW w x) (hS:IntSl w sa S) (hsm:S.length≤9223372036854775807) (hB:B≤w.heap.size) (hT:TabW B w) :
  RetsP prog 8 #[.agg (encGr g).toArray,.slice wa ws.length wc,.agg (encSp x).toArray,.slice sa S.length sc] w (.bool true):=by
 refine enter (args:=[_,_,_,_]) func8 rfl ntmps8 (by kernel_rfl) rfl ?_
 have hck:∀ {w'},smallB (grV g) 40=true→ws.length≤50→x.lo.l.length≤50∧x.hi.l.length≤50∧x.P.length≤5000∧x.Q.length≤5000→Ext w w'→RetsP prog 20 #[.agg (encGr g).toArray,.slice wa ws.length wc,.agg (encSp x).toArray] w' (.bool (checkG (grV g) ws x)):=fun h1 h2 h3 e=>check20_spec g wa wc ws x B _ (hI.ok.ext e) (small_glen hI h1) (hW.ext e) (by omega) (hX.s.ext e) (by omega) (by omega) (Nat.le_trans hB (Vc.Mod.size e)) (hT.ext hB e)
 have ht:∀ {b:Bool},(!b)=false→b=true:=fun h=>by simpa using h
 refine Vs (Vr (VL.box (v:=.agg _) rfl fun b0_0 w0_0 hb0_0 e0_0 hB0_0=>VL.box (v:=.agg _) rfl fun b0_1 w0_1 hb0_1 e0_1 hB0_1=>oA rfl (Vn (Vs (Vr (VL.callP call11 rfl (head31_spec B _ (Nat.le_trans hB ((e0_0.trans e0_1)).size) (hT.ext hB (e0_0.trans e0_1))) fun w1_0 e1_0=>oA rfl (Vn (Vs (Vs (Vr (Vo (R.ldA isAgg25 sizeOf25 rfl rfl ((show RowAt _ _ _ (encGr g) from (hB0_0.ext (e0_1.trans e1_0)).rowAt 0 3)) rfl) (VL.callP call18 rfl (small_spec g 40 _ (hI.ok.ext ((e0_0.trans e0_1).trans e1_0)) hI.c hI.e.len (fun x hx=>(hI.e.each x hx).1) (by decide) (by decide)) fun w2_1 e2_1=>Vo (R.not rfl) (oB rfl (VL.or rfl rfl (fun g2_3=>oS rfl (VL.gT rfl rfl (Vo (R.lenS runUnderlying22 rfl) (VL.gT rfl rfl (Vo (R.gtr rfl rfl) (oQ rfl rfl (oB rfl (VL.orP rfl rfl (fun g2_8=>Vo (R.ldA isAgg32 sizeOf32 rfl rfl ((show RowAt _ _ _ (encSp x) from (hB0_1.ext (e1_0.trans e2_1)).rowAt 0 6)) rfl) (VL.gT rfl rfl (VL.callX call19 rfl (rfew31_spec x _ hX.l1 hX.l2 hX.l3 hX.l4) fun b2 w2 h2 e2=>VL.gT rfl rfl (Vo (R.not rfl) (oQ rfl rfl (oB rfl (VL.or rfl rfl (fun g2_13=>oS rfl (VL.gT rfl rfl (Vo (R.lenS runUnderlying22 rfl) (VL.gT rfl rfl (Vo (R.gtr rfl rfl) (oQ rfl rfl (oB rfl (VL.orP rfl rfl (fun g2_18=>Vo (R.ldA isAgg25 sizeOf25 rfl rfl ((show RowAt _ _ _ (encGr g) from (hB0_0.ext (e0_1.trans (e1_0.trans (e2_1.trans e2)))).rowAt 0 3)) rfl) (VL.gT rfl rfl (oS rfl (VL.gT rfl rfl (Vo (R.ldA isAgg32 sizeOf32 rfl rfl ((show RowAt _ _ _ (encSp x) from (hB0_1.ext (e1_0.trans (e2_1.trans e2))).rowAt 0 6)) rfl) (VL.gT rfl rfl (VL.callP call20 rfl (hck (ht g2_3) (by omega) (h2 (ht g2_13)) ((((e0_0.trans e0_1).trans e1_0).trans e2_1).trans e2)) fun w2_22 e2_22=>VL.gT rfl rfl (Vo (R.not rfl) (oQ rfl rfl (Vn (V.cond rfl (fun c38=>Vs (Vr (oB rfl (oA rfl (Vn (V.ret (fret1 (v:=.bool _) rfl rfl rfl (⟨rfl,(((((e0_0.trans e0_1).trans e1_0).trans e2_1).trans e2).trans e2_22)⟩)))))))) (fun c38=>V.skip (Vs (?_)))))))))))))) (fun g2_18=>VL.gF rfl rfl (VL.gF rfl rfl (VL.gF rfl rfl (VL.gF rfl rfl (oP rfl rfl (Vn (V.condT rfl (Vs (Vr (oB rfl (oA rfl (Vn (V.ret (fret1 (v:=.bool _) rfl rfl rfl (⟨rfl,((((e0_0.trans e0_1).trans e1_0).trans e2_1).trans e2)⟩))))))))))))))))))))))) (fun g2_13=>VL.gF rfl rfl (VL.gF rfl rfl (oP rfl rfl (oB rfl (VL.gF rfl rfl (VL.gF rfl rfl (VL.gF rfl rfl (VL.gF rfl rfl (VL.gF rfl rfl (oP rfl rfl (Vn (V.condT rfl (Vs (Vr (oB rfl (oA rfl (Vn (V.ret (fret1 (v:=.bool _) rfl rfl rfl (⟨rfl,((((e0_0.trans e0_1).trans e1_0).trans e2_1).trans e2)⟩))))))))))))))))))))))))))) (fun g2_8=>VL.gF rfl rfl (VL.gF rfl rfl (oP rfl rfl (oB rfl (VL.gF rfl rfl (VL.gF rfl rfl (VL.gF rfl rfl (oP rfl rfl (oB rfl (VL.gF rfl rfl (VL.gF rfl rfl (VL.gF rfl rfl (VL.gF rfl rfl (VL.gF rfl rfl (oP rfl rfl (Vn (V.condT rfl (Vs (Vr (oB rfl (oA rfl (Vn (V.ret (fret1 (v:=.bool _) rfl rfl rfl (⟨rfl,(((e0_0.trans e0_1).trans e1_0).trans e2_1)⟩))))))))))))))))))))))))))))))))) (fun g2_3=>VL.gF rfl rfl (VL.gF rfl rfl (oP rfl rfl (oB rfl (VL.gF rfl rfl (VL.gF rfl rfl (VL.gF rfl rfl (oP rfl rfl (oB rfl (VL.gF rfl rfl (VL.gF rfl rfl (VL.gF rfl rfl (oP rfl rfl (oB rfl (VL.gF rfl rfl (VL.gF rfl rfl (VL.gF rfl rfl (VL.gF rfl rfl (VL.gF rfl rfl (oP rfl rfl (Vn (V.condT rfl (Vs (Vr (oB rfl (oA rfl (Vn (V.ret (fret1 (v:=.bool _) rfl rfl rfl (⟨rfl,(((e0_0.trans e0_1).trans e1_0).trans e2_1)⟩))))))))))))))))))))))))))))))))))))))))))))
 have hc:checkG (grV g) ws x=true:=ht c38
 have hgl:=small_glen hI (ht g2_3)
 obtain ⟨hv,hmin,hmax⟩:=check_ends hc
 obtain ⟨hwn,hwb⟩:=check_wts hc
 have hgn:(grV g).n=g.n:=rfl
 have hn:=(smallB_iff.1 (ht g2_3)).1
 have E2:Ext w w2_22:=(e0_0.trans e0_1).trans (e1_0.trans (e2_1.trans (e2.trans e2_22)))
 have hX0:=hB0_0.ext (e0_1.trans (e1_0.trans (e2_1.trans (e2.trans e2_22))))
 have hX1:=hB0_1.ext (e1_0.trans (e2_1.trans (e2.trans e2_22)))
 refine Vr (Vo (R.ldA isAgg25 sizeOf25 rfl rfl ((show RowAt _ _ _ (encGr g) from hX0.rowAt 0 3)) rfl) (oS rfl (VL.callX call26 rfl (extend_spec g sa sc S B w2_22 (hI.ok.ext E2) hgl (hS.ext E2) (by omega) (Nat.le_trans hB E2.size) (hT.ext hB E2)) fun x4 w4 h4 e4=>Vo (R.mvT rfl) (Vo (R.extr rfl rfl) (Vo (R.extr rfl rfl) (oT rfl (oJ rfl (Vn (Vs (Vs (Vr (oI rfl (Vo (R.neq rfl rfl) (Vn (V.condP rfl (fun c47=>Vs (Vr (oB rfl (oA rfl (Vn (V.ret (fret1 (v:=.bool _) rfl rfl rfl (⟨rfl,E2.trans e4⟩)))))))) (fun c47=>V.skip (Vs (?_))))))))))))))))))
 obtain ⟨⟨a4,c4,Q⟩,r4⟩:=x4
 obtain ⟨ho4,hv4⟩:=h4
 dsimp only at hv4 ho4 c47 ⊢
 have hlb:loadB (grV g) S=true:=by
  cases hb:loadB (grV g) S with
  | true=>rfl
  | false =>
   rw [hb,if_neg (by decide)] at hv4
   exact absurd (congrArg Prod.snd hv4) (by show r4≠1;omega)
 rw [hlb,if_pos rfl] at hv4
 have hR:IsRep (grV g) Q:=by rw [show Q=extF (grV g) S from congrArg Prod.fst hv4];exact (ext_rep hlb).1
 have hset:=setB_iff.1 hR.set
 have hrl:=set_len hset.1 hset.2 (by omega)
 have b1:=hmin.2 Q hR
 have b2':=hmax.2 Q hR
 refine Vr (oS rfl (oS rfl (VL.callP call27 rfl (ltotal31_spec wa wc ws a4 c4 Q w4 (hW.ext (E2.trans e4)) (by omega) ho4.sl (by omega) hwb (fun v hv=>by have:=hset.2 v hv;omega)) fun w7_2 e7_2=>oJ rfl (Vn (Vs (Vr (oB rfl (oB rfl (VL.gT rfl rfl (Vo (R.fld' (o:=0) runUnderlying32 rfl rfl sizeOf3 rfl rfl) (VL.gT rfl rfl (Vo (R.ld1 isAgg3 rfl ((show _=some (Value.int .i64 x.fr) from (hX1.ext (e4.trans e7_2)).cell 0))) (VL.gT rfl rfl (oI rfl (VL.gT rfl rfl (Vo (R.lit (R.leq rfl rfl) ((decide_eq_true b1))) (oP rfl rfl (oB rfl (VL.gT rfl rfl (oI rfl (VL.gT rfl rfl (Vo (R.fld' (o:=1) runUnderlying32 rfl rfl sizeOf3 rfl rfl) (VL.gT rfl rfl (Vo (R.ld1 isAgg3 rfl ((show _=some (Value.int .i64 x.to) from (hX1.ext (e4.trans e7_2)).cell 1))) (VL.gT rfl rfl (Vo (R.lit (R.leq rfl rfl) ((decide_eq_true b2'))) (oP rfl rfl (oA rfl (Vn (V.ret (fret1 (v:=.bool _) rfl rfl rfl (⟨rfl,(E2.trans e4).trans ((Vc.Mod.refl Vc.nob w4).trans e7_2)⟩))))))))))))))))))))))))))))))))
theorem small31_iff {g:Gr} {n:Int} {wl:Nat} (h:small31 g n wl=true):smallB g n=true∧confI g.edges g.n.toNat≤12∧(wl:Int)≤n+1:=by
 unfold small31 at h
 simp only [Bool.and_eq_true,decide_eq_true_eq] at h
 exact ⟨h.1,h.2.1,h.2.2⟩
theorem sumS {g:GrW} {wa:Option Addr} {wc:Nat} {ws:List Int} {n:Int} {B:Nat} {w w':World} (hI:GIn w g) (hs:small31 (grV g) n ws.length=true) (hn:n≤20) (hW:IntSl w' wa ws) (hB:B≤w.heap.size) (hT:TabW B w) (e:Ext w w') :
  RetsX prog 13 #[.agg (encGr g).toArray,.slice wa ws.length wc] w' (fun z:SpX×Int=>.tuple #[.agg (encSp z.1).toArray,.int .i64 z.2]) (fun z w2=>SpOk w'.heap.size w2 z.1∧SumR (grV g) ws z.1 z.2):=by
 obtain ⟨h1,h2,h3⟩:=small31_iff hs
 exact sum31_spec g wa wc ws B w' (hI.ok.ext e) (small_glen hI h1) hW (by omega) (Nat.le_trans hB e.size) (hT.ext hB e) fun _=>h2
theorem exact31_law (g:GrW) (wa:Option Addr) (wc:Nat) (ws:List Int) (x:SpX) (B:Nat) (w:World) (hI:GIn w g) (hW:IntSl w wa ws) (hwm:ws.length≤9223372036854775807) (hX:SpW w x) (hB:B≤w.heap.size) (hT:TabW B w) :
  RetsP prog 5 #[.agg (encGr g).toArray,.slice wa ws.length wc,.agg (encSp x).toArray] w (.bool true):=by
 refine enter (args:=[_,_,_]) func5 rfl ntmps5 (by kernel_rfl) rfl ?_
 have ht:∀ {b:Bool},(!b)=false→b=true:=fun h=>by simpa using h
 refine Vs (Vr (VL.box (v:=.agg _) rfl fun b0_0 w0_0 hb0_0 e0_0 hB0_0=>VL.box (v:=.agg _) rfl fun b0_1 w0_1 hb0_1 e0_1 hB0_1=>oA rfl (Vn (Vs (Vr (VL.callP call11 rfl (head31_spec B _ (Nat.le_trans hB ((e0_0.trans e0_1)).size) (hT.ext hB (e0_0.trans e0_1))) fun w1_0 e1_0=>oA rfl (Vn (Vs (Vs (Vr (Vo (R.ldA isAgg25 sizeOf25 rfl rfl ((show RowAt _ _ _ (encGr g) from (hB0_0.ext (e0_1.trans e1_0)).rowAt 0 3)) rfl) (oS rfl (VL.callP call12 rfl (small31_spec g 20 wa wc ws _ (hI.ext ((e0_0.trans e0_1).trans e1_0)) (by decide) (by decide) hwm) fun w2_2 e2_2=>Vo (R.not rfl) (oB rfl (VL.or rfl rfl (fun g2_4=>Vo (R.ldA isAgg32 sizeOf32 rfl rfl ((show RowAt _ _ _ (encSp x) from (hB0_1.ext (e1_0.trans e2_2)).rowAt 0 6)) rfl) (VL.gT rfl rfl (VL.callX call19 rfl (rfew31_spec x _ hX.l1 hX.l2 hX.l3 hX.l4) fun b2 w2 h2 e2=>VL.gT rfl rfl (Vo (R.not rfl) (oQ rfl rfl (Vn (V.cond rfl (fun c19=>Vs (Vr (oB rfl (oA rfl (Vn (V.ret (fret1 (v:=.bool _) rfl rfl rfl (⟨rfl,((((e0_0.trans e0_1).trans e1_0).trans e2_2).trans e2)⟩)))))))) (fun c19=>V.skip (Vs (?_)))))))))) (fun g2_4=>VL.gF rfl rfl (VL.gF rfl rfl (oP rfl rfl (Vn (V.condT rfl (Vs (Vr (oB rfl (oA rfl (Vn (V.ret (fret1 (v:=.bool _) rfl rfl rfl (⟨rfl,(((e0_0.trans e0_1).trans e1_0).trans e2_2)⟩))))))))))))))))))))))))))))
 have hsm:=ht g2_4
 obtain ⟨hs1,hs2,hs3⟩:=small31_iff hsm
 have hgl:=small_glen hI hs1
 have hf:=h2 (ht c19)
 have hn:=(smallB_iff.1 hs1).1
 have E2:Ext w w2:=(e0_0.trans e0_1).trans (e1_0.trans (e2_2.trans e2))
 have hX0:=hB0_0.ext (e0_1.trans (e1_0.trans (e2_2.trans e2)))
 have hX1:=hB0_1.ext (e1_0.trans (e2_2.trans e2))
 have hck:∀ {w'},Ext w w'→RetsP prog 20 #[.agg (encGr g).toArray,.slice wa ws.length wc,.agg (encSp x).toArray] w' (.bool (checkG (grV g) ws x)):=fun e=>check20_spec g wa wc ws x B _ (hI.ok.ext e) hgl (hW.ext e) (by omega) (hX.s.ext e) (by omega) (by omega) (Nat.le_trans hB (Vc.Mod.size e)) (hT.ext hB e)
 refine Vr (Vo (R.ldA isAgg25 sizeOf25 rfl rfl ((show RowAt _ _ _ (encGr g) from hX0.rowAt 0 3)) rfl) (oS rfl (VL.callX call13 rfl (sumS hI hsm (by decide) (hW.ext E2) hB hT E2) fun z4 w4 h4 e4=>Vo (R.mvT rfl) (Vo (R.extr rfl rfl) (Vo (R.extr rfl rfl) (VL.allocSt (v:=.agg (encSp z4.1).toArray) zeroValue32 sizeOf32 rfl rfl rfl rfl rfl fun b4_6 w4_6 hb4_6 e4_6 hB4_6=>oJ rfl (Vn (Vs (Vs (Vr (oI rfl (Vo (R.neq rfl rfl) (Vn (V.condP rfl (fun c28=>Vs (?_)) (fun c28=>V.skip (Vs (?_)))))))))))))))))
 ·obtain ⟨s,er⟩:=z4
  obtain ⟨k4,j4⟩:=h4
  dsimp only at k4 j4 c28 hB4_6 ⊢
  have hS:Blk w4_6 b4_6 (.cells (encSp s).toArray 32 (0,0)):=hB4_6
  have hz:=j4.no c28
  have hcf:checkG (grV g) ws x=false:=by
   have:=chk_err (by rw [←j4.e];exact c28) (by show (grV g).n≤40;omega)
   unfold checkG;rw [this];simp
  have hck4:=hck (E2.trans (e4.trans e4_6))
  rw [hcf] at hck4
  rw [hz] at hS
  have F4:=e4.trans e4_6
  refine Vr (oB rfl (oB rfl (VL.gT rfl rfl (Vo (R.ldA isAgg25 sizeOf25 rfl rfl ((show RowAt _ _ _ (encGr g) from (hX0.ext F4).rowAt 0 3)) rfl) (VL.gT rfl rfl (oS rfl (VL.gT rfl rfl (Vo (R.ldA isAgg32 sizeOf32 rfl rfl ((show RowAt _ _ _ (encSp x) from (hX1.ext F4).rowAt 0 6)) rfl) (VL.gT rfl rfl (VL.callP call20 rfl (hck4) fun w6_5 e6_5=>VL.gT rfl rfl (Vo (R.not rfl) (oP rfl rfl (oB rfl (VL.gT rfl rfl (Vo (R.fld' (o:=2) runUnderlying32 rfl rfl sizeOf22 rfl rfl) (VL.gT rfl rfl (Vo (R.ld1 isAgg22 rfl ((show _=some (Value.slice none 0 0) from (hS.ext e6_5).cell 2))) (VL.gT rfl rfl (Vo (R.lenS runUnderlying22 rfl) (VL.gT rfl rfl (Vo (R.eql rfl rfl) (oP rfl rfl (oA rfl (Vn (V.ret (fret1 (v:=.bool _) rfl rfl rfl (⟨?_,(E2.trans F4).trans ((Vc.Mod.refl Vc.nob w4_6).trans e6_5)⟩)))))))))))))))))))))))))))
  all_goals rfl
 ·obtain ⟨s,er⟩:=z4
  obtain ⟨k4,j4⟩:=h4
  dsimp only at k4 j4 c28 hB4_6 ⊢
  have her:er=0:=by omega
  subst her
  have hS:Blk w4_6 b4_6 (.cells (encSp s).toArray 32 (0,0)):=hB4_6
  have F4:=e4.trans e4_6
  have E4:=E2.trans F4
  have hv:=(chk_zero j4.e.symm).1
  have hcs:=SumR.checked j4
  have i1:=setB_iff.1 (ext_least hv ws).rep.set
  have i2:=setB_iff.1 (ext_least hv (negW ws)).rep.set
  have h0:=(costB_iff.1 (validG_iff.1 hv).1).1
  have n1:=set_len i1.1 i1.2 h0
  have n2:=set_len i2.1 i2.2 h0
  rw [←j4.lo rfl] at n1
  rw [←j4.hi rfl] at n2
  have hck4:RetsP prog 20 #[.agg (encGr g).toArray,.slice wa ws.length wc,.agg (encSp s).toArray] w4_6 (.bool true):=by
   have h:=check20_spec g wa wc ws s B w4_6 (hI.ok.ext E4) hgl (hW.ext E4) (by omega) (SpOk.in (k4.ext e4_6)) (by omega) (by omega) (Nat.le_trans hB E4.size) (hT.ext hB E4)
   rwa [hcs] at h
  have key:checkG (grV g) ws x=true→x.fr=s.fr∧x.to=s.to:=fun h=>by
   obtain ⟨_,a,b⟩:=check_ends h
   exact ⟨a.uniq (j4.min hv),b.uniq (j4.max hv)⟩
  refine Vr (oB rfl (oB rfl (VL.gT rfl rfl (Vo (R.ldA isAgg25 sizeOf25 rfl rfl ((show RowAt _ _ _ (encGr g) from (hX0.ext F4).rowAt 0 3)) rfl) (VL.gT rfl rfl (oS rfl (VL.gT rfl rfl (Vo (R.ldA isAgg32 sizeOf32 rfl rfl ((show RowAt _ _ _ (encSp s) from hS.rowAt 0 6)) rfl) (VL.gT rfl rfl (VL.callP call20 rfl (hck4) fun w7_5 e7_5=>oP rfl rfl (oB rfl (VL.gT rfl rfl (Vo (R.ldA isAgg25 sizeOf25 rfl rfl ((show RowAt _ _ _ (encGr g) from (hX0.ext (F4.trans e7_5)).rowAt 0 3)) rfl) (VL.gT rfl rfl (oS rfl (VL.gT rfl rfl (Vo (R.ldA isAgg32 sizeOf32 rfl rfl ((show RowAt _ _ _ (encSp x) from (hX1.ext (F4.trans e7_5)).rowAt 0 6)) rfl) (VL.gT rfl rfl (VL.callP call20 rfl (hck (E4.trans e7_5)) fun w7_11 e7_11=>VL.gT rfl rfl (Vo (R.not rfl) (VL.gT rfl rfl (oB rfl (VL.or rfl rfl (fun g7_13=>Vo (R.fld' (o:=0) runUnderlying32 rfl rfl sizeOf3 rfl rfl) (VL.gT rfl rfl (Vo (R.ld1 isAgg3 rfl ((show _=some (Value.int .i64 x.fr) from (hX1.ext (F4.trans (e7_5.trans e7_11))).cell 0))) (VL.gT rfl rfl (Vo (R.fld' (o:=0) runUnderlying32 rfl rfl sizeOf3 rfl rfl) (VL.gT rfl rfl (Vo (R.ld1 isAgg3 rfl ((show _=some (Value.int .i64 s.fr) from (hS.ext (e7_5.trans e7_11)).cell 0))) (VL.gT rfl rfl (Vo (R.lit (R.eql rfl rfl) ((decide_eq_true (key (ht g7_13)).1))) (VL.gT rfl rfl (oB rfl (VL.gT rfl rfl (Vo (R.fld' (o:=1) runUnderlying32 rfl rfl sizeOf3 rfl rfl) (VL.gT rfl rfl (Vo (R.ld1 isAgg3 rfl ((show _=some (Value.int .i64 x.to) from (hX1.ext (F4.trans (e7_5.trans e7_11))).cell 1))) (VL.gT rfl rfl (Vo (R.fld' (o:=1) runUnderlying32 rfl rfl sizeOf3 rfl rfl) (VL.gT rfl rfl (Vo (R.ld1 isAgg3 rfl ((show _=some (Value.int .i64 s.to) from (hS.ext (e7_5.trans e7_11)).cell 1))) (VL.gT rfl rfl (Vo (R.lit (R.eql rfl rfl) ((decide_eq_true (key (ht g7_13)).2))) (VL.gT rfl rfl (oP rfl rfl (VL.gT rfl rfl (oQ rfl rfl (oP rfl rfl (oA rfl (Vn (V.ret (fret1 (v:=.bool _) rfl rfl rfl (⟨rfl,E4.trans (((Vc.Mod.refl Vc.nob w4_6).trans e7_5).trans e7_11)⟩))))))))))))))))))))))))))))))) (fun g7_13=>VL.gF rfl rfl (VL.gF rfl rfl (VL.gF rfl rfl (VL.gF rfl rfl (VL.gF rfl rfl (VL.gU rfl rfl (VL.gU rfl rfl (VL.gU rfl rfl (VL.gU rfl rfl (VL.gU rfl rfl (VL.gF rfl rfl (VL.gT rfl rfl (oP rfl rfl (oP rfl rfl (oA rfl (Vn (V.ret (fret1 (v:=.bool _) rfl rfl rfl (⟨rfl,E4.trans (((Vc.Mod.refl Vc.nob w4_6).trans e7_5).trans e7_11)⟩))))))))))))))))))))))))))))))))))))))))))
end Go.Proofs.YtdkhcipjenfcnaaGreatDoor
