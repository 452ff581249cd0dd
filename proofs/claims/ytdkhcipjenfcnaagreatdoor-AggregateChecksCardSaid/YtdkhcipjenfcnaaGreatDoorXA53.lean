/- Aggregate: what comes in (printed by mkJA.py). -/
import Derived.Test.YtdkhcipjenfcnaaGreatDoorXA52
namespace Go.Proofs.YtdkhcipjenfcnaaGreatDoor
set_option maxRecDepth 100000
set_option maxHeartbeats 16000000
open Go.Vc Go.Proofs.Tryz
section
variable {H:Type} {enc:TypeId×Value→H} {w:World} {spare:Nat→Bool} {held:Bool}
theorem cells100:prog.cellsOf 100=4:=by kernel_rfl
theorem cells28:prog.cellsOf 28=1:=by kernel_rfl
theorem cells30:prog.cellsOf 30=1:=by kernel_rfl
theorem cells32:prog.cellsOf 32=6:=by kernel_rfl
theorem dec100 (n:Nat) (cs:List Value) (x:DataW H×List MemPlace) (h:DataW.trod enc prog w 0 spare held n 100 cs=some x):∃ v,cs=encS4 v∧True:=by
 have hl:=trod_len underlying100 h
 rw [cells100] at hl
 match cs,hl with
 | [c0,c1,c2,c3],_ =>
  obtain ⟨m0,y0,h0⟩:=trod_field underlying100 h (i:=0) rfl
  replace h0:DataW.trod enc prog w 0 spare held m0 3 (([c0,c1,c2,c3].drop 0).take (prog.cellsOf 3))=some y0:=h0
  rw [cells3] at h0
  have k0:DataW.trod enc prog w 0 spare held m0 3 [c0]=some y0:=h0
  obtain ⟨m1,y1,h1⟩:=trod_field underlying100 h (i:=1) rfl
  replace h1:DataW.trod enc prog w 0 spare held m1 3 (([c0,c1,c2,c3].drop 1).take (prog.cellsOf 3))=some y1:=h1
  rw [cells3] at h1
  have k1:DataW.trod enc prog w 0 spare held m1 3 [c1]=some y1:=h1
  obtain ⟨m2,y2,h2⟩:=trod_field underlying100 h (i:=2) rfl
  replace h2:DataW.trod enc prog w 0 spare held m2 3 (([c0,c1,c2,c3].drop 2).take (prog.cellsOf 3))=some y2:=h2
  rw [cells3] at h2
  have k2:DataW.trod enc prog w 0 spare held m2 3 [c2]=some y2:=h2
  obtain ⟨m3,y3,h3⟩:=trod_field underlying100 h (i:=3) rfl
  replace h3:DataW.trod enc prog w 0 spare held m3 3 (([c0,c1,c2,c3].drop 3).take (prog.cellsOf 3))=some y3:=h3
  rw [cells3] at h3
  have k3:DataW.trod enc prog w 0 spare held m3 3 [c3]=some y3:=h3
  obtain ⟨f0,e0,_⟩:=dec3 _ _ _ k0
  simp only [Vc.encI,List.cons.injEq,and_true] at e0
  subst e0
  obtain ⟨f1,e1,_⟩:=dec3 _ _ _ k1
  simp only [Vc.encI,List.cons.injEq,and_true] at e1
  subst e1
  obtain ⟨f2,e2,_⟩:=dec3 _ _ _ k2
  simp only [Vc.encI,List.cons.injEq,and_true] at e2
  subst e2
  obtain ⟨f3,e3,_⟩:=dec3 _ _ _ k3
  simp only [Vc.encI,List.cons.injEq,and_true] at e3
  subst e3
  exact ⟨⟨f0,f1,f2,f3⟩,rfl,trivial⟩
structure PfX where
 a:Option Addr
 c:Nat
 S:List St4
def encPf (p:PfX):List Value:=[.slice p.a p.S.length p.c]
def PfIn (w:World) (p:PfX):Prop:=TSl encS4 4 w p.a p.S∧p.S.length≤9223372036854775807∧(p.a=none→p.c=0)
theorem dec30 (n:Nat) (cs:List Value) (x:DataW H×List MemPlace) (h:DataW.trod enc prog w 0 spare held n 30 cs=some x):∃ v,cs=encPf v∧PfIn w v:=by
 have hl:=trod_len underlying30 h
 rw [cells30] at hl
 match cs,hl with
 | [c0],_ =>
  obtain ⟨m0,y0,h0⟩:=trod_field underlying30 h (i:=0) rfl
  replace h0:DataW.trod enc prog w 0 spare held m0 28 (([c0].drop 0).take (prog.cellsOf 28))=some y0:=h0
  rw [cells28] at h0
  have k0:DataW.trod enc prog w 0 spare held m0 28 [c0]=some y0:=h0
  obtain ⟨a0,n0,p0,e0⟩:=decSl underlying28 _ _ _ k0
  simp only [List.cons.injEq,and_true] at e0
  subst e0
  obtain ⟨S,hl0,hm0,hs0,q0,hx0,_⟩:=open_TSlP (enc':=encS4) underlying28 cells100 (by decide) (fun _=>rfl) dec100 k0
  subst hl0
  exact ⟨⟨a0,p0,S⟩,rfl,hs0,by unfold maxLen at hm0;omega,hx0⟩
structure SpW (w:World) (x:SpX):Prop where
 s:SpIn w x
 l1:x.lo.l.length≤9223372036854775807
 l2:x.hi.l.length≤9223372036854775807
 l3:x.P.length≤9223372036854775807
 l4:x.Q.length≤9223372036854775807
 n1:x.lo.a=none→x.lo.c=0
 n2:x.hi.a=none→x.hi.c=0
theorem dec32 (n:Nat) (cs:List Value) (x:DataW H×List MemPlace) (h:DataW.trod enc prog w 0 spare held n 32 cs=some x):∃ v,cs=encSp v∧SpW w v:=by
 have hl:=trod_len underlying32 h
 rw [cells32] at hl
 match cs,hl with
 | [c0,c1,c2,c3,c4,c5],_ =>
  obtain ⟨m0,y0,h0⟩:=trod_field underlying32 h (i:=0) rfl
  replace h0:DataW.trod enc prog w 0 spare held m0 3 (([c0,c1,c2,c3,c4,c5].drop 0).take (prog.cellsOf 3))=some y0:=h0
  rw [cells3] at h0
  have k0:DataW.trod enc prog w 0 spare held m0 3 [c0]=some y0:=h0
  obtain ⟨m1,y1,h1⟩:=trod_field underlying32 h (i:=1) rfl
  replace h1:DataW.trod enc prog w 0 spare held m1 3 (([c0,c1,c2,c3,c4,c5].drop 1).take (prog.cellsOf 3))=some y1:=h1
  rw [cells3] at h1
  have k1:DataW.trod enc prog w 0 spare held m1 3 [c1]=some y1:=h1
  obtain ⟨m2,y2,h2⟩:=trod_field underlying32 h (i:=2) rfl
  replace h2:DataW.trod enc prog w 0 spare held m2 22 (([c0,c1,c2,c3,c4,c5].drop 2).take (prog.cellsOf 22))=some y2:=h2
  rw [cells22] at h2
  have k2:DataW.trod enc prog w 0 spare held m2 22 [c2]=some y2:=h2
  obtain ⟨m3,y3,h3⟩:=trod_field underlying32 h (i:=3) rfl
  replace h3:DataW.trod enc prog w 0 spare held m3 22 (([c0,c1,c2,c3,c4,c5].drop 3).take (prog.cellsOf 22))=some y3:=h3
  rw [cells22] at h3
  have k3:DataW.trod enc prog w 0 spare held m3 22 [c3]=some y3:=h3
  obtain ⟨m4,y4,h4⟩:=trod_field underlying32 h (i:=4) rfl
  replace h4:DataW.trod enc prog w 0 spare held m4 30 (([c0,c1,c2,c3,c4,c5].drop 4).take (prog.cellsOf 30))=some y4:=h4
  rw [cells30] at h4
  have k4:DataW.trod enc prog w 0 spare held m4 30 [c4]=some y4:=h4
  obtain ⟨m5,y5,h5⟩:=trod_field underlying32 h (i:=5) rfl
  replace h5:DataW.trod enc prog w 0 spare held m5 30 (([c0,c1,c2,c3,c4,c5].drop 5).take (prog.cellsOf 30))=some y5:=h5
  rw [cells30] at h5
  have k5:DataW.trod enc prog w 0 spare held m5 30 [c5]=some y5:=h5
  obtain ⟨f0,e0,_⟩:=dec3 _ _ _ k0
  simp only [Vc.encI,List.cons.injEq,and_true] at e0
  subst e0
  obtain ⟨f1,e1,_⟩:=dec3 _ _ _ k1
  simp only [Vc.encI,List.cons.injEq,and_true] at e1
  subst e1
  obtain ⟨v2,e2,s2⟩:=dec22 _ _ _ k2
  simp only [encSl,List.cons.injEq,and_true] at e2
  subst e2
  obtain ⟨v3,e3,s3⟩:=dec22 _ _ _ k3
  simp only [encSl,List.cons.injEq,and_true] at e3
  subst e3
  obtain ⟨v4,e4,s4⟩:=dec30 _ _ _ k4
  simp only [encPf,List.cons.injEq,and_true] at e4
  subst e4
  obtain ⟨v5,e5,s5⟩:=dec30 _ _ _ k5
  simp only [encPf,List.cons.injEq,and_true] at e5
  subst e5
  exact ⟨⟨f0,f1,v2,v3,v4.a,v4.c,v4.S,v5.a,v5.c,v5.S⟩,rfl,⟨⟨s2.1,s3.1,s4.1,s5.1⟩,s2.2.1,s3.2.1,s4.2.1,s5.2.1,s2.2.2.1,s3.2.2.1⟩⟩
end
theorem small_glen {w:World} {g:GrW} {n:Int} (hI:GIn w g) (h:smallB (grV g) n=true):GLen g :=
 ⟨hI.c,hI.e.len,fun x hx=>⟨by have:x.l.length≤6:=(smallB_iff.1 h).2.2.2 x.l (List.mem_map_of_mem hx);omega,(hI.e.each x hx).2.1⟩⟩
theorem checks_law (g:GrW) (wa:Option Addr) (wc:Nat) (ws:List Int) (x:SpX) (B:Nat) (w:World) (hI:GIn w g) (hW:IntSl w wa ws) (hwm:ws.length≤9223372036854775807) (hX:SpW w x) (hB:B≤w.heap.size) (hT:TabW B w) :
  RetsP prog 4 #[.agg (encGr g).toArray,.slice wa ws.length wc,.agg (encSp x).toArray] w (.bool true):=by
 refine eN (args:=[_,_,_]) func4 rfl ntmps4 ?_
 refine Vs<|Vr<|VL.box (v:=.agg _) rfl fun b0_0 w0_0 hb0_0 e0_0 hB0_0=>VL.box (v:=.agg _) rfl fun b0_1 w0_1 hb0_1 e0_1 hB0_1=>oA rfl<|Vn<|Vs<|Vr<|VL.callP call11 rfl (head31_spec B _ (Nat.le_trans hB (e0_0.trans e0_1).size) (hT.ext hB (e0_0.trans e0_1))) fun w1_0 e1_0=>oA rfl<|Vn<|Vs<|Vs<|Vr<|Vo (R.ldA ag25 sz25 rfl rfl (show RowAt _ _ _ (encGr g) from (hB0_0.ext (e0_1.trans e1_0)).rowAt 0 3) rfl)<|VL.callP call18 rfl (small_spec g 40 _ (hI.ok.ext ((e0_0.trans e0_1).trans e1_0)) hI.c hI.e.len (fun x hx=>(hI.e.each x hx).1) (by decide) (by decide)) fun w2_1 e2_1=>Vo (R.not rfl)<|oB rfl<|VL.or rfl rfl (fun g2_3=>oS rfl<|lT<|Vo (R.lenS ru22 rfl)<|lT<|Vo (R.gtr rfl rfl)<|oQ rfl rfl<|oB rfl<|VL.orP rfl rfl (fun g2_8=>Vo (R.ldA ag32 sz32 rfl rfl (show RowAt _ _ _ (encSp x) from (hB0_1.ext (e1_0.trans e2_1)).rowAt 0 6) rfl)<|lT<|VL.callX call19 rfl (rfew31_spec x _ hX.l1 hX.l2 hX.l3 hX.l4) fun b2 w2 h2 e2=>lT<|Vo (R.not rfl)<|oQ rfl rfl<|Vn<|V.cond rfl (fun c21=>Vs<|Vr<|oB rfl<|oA rfl<|Vn<|V.ret<|tB rfl rfl rfl (⟨rfl,((((e0_0.trans e0_1).trans e1_0).trans e2_1).trans e2)⟩)) (fun c21=>V.skip<|Vs (?_))) (fun g2_8=>lF<|lF<|oP rfl rfl<|Vn<|V.condT rfl<|Vs<|Vr<|oB rfl<|oA rfl<|Vn<|V.ret<|tB rfl rfl rfl (⟨rfl,(((e0_0.trans e0_1).trans e1_0).trans e2_1)⟩))) (fun g2_3=>lF<|lF<|oP rfl rfl<|oB rfl<|lF<|lF<|lF<|oP rfl rfl<|Vn<|V.condT rfl<|Vs<|Vr<|oB rfl<|oA rfl<|Vn<|V.ret<|tB rfl rfl rfl (⟨rfl,(((e0_0.trans e0_1).trans e1_0).trans e2_1)⟩))
 have E2:Ext w w2:=(e0_0.trans e0_1).trans (e1_0.trans (e2_1.trans e2))
 have hX0:=hB0_0.ext (e0_1.trans (e1_0.trans (e2_1.trans e2)))
 have hX1:=hB0_1.ext (e1_0.trans (e2_1.trans e2))
 have hb:=h2 (by simpa using c21)
 have hsm:smallB (grV g) 40=true:=by simpa using g2_3
 have hgl:=small_glen hI hsm
 have hck:∀ {w'},Ext w w'→RetsP prog 20 #[.agg (encGr g).toArray,.slice wa ws.length wc,.agg (encSp x).toArray] w' (.bool (checkG (grV g) ws x)):=fun e=>check20_spec g wa wc ws x B _ (hI.ok.ext e) hgl (hW.ext e) (by omega) (hX.s.ext e) (by omega) (by omega) (Nat.le_trans hB (Vc.Mod.size e)) (hT.ext hB e)
 have hrk:∀ {w'},Ext w w'→RetsP prog 21 #[.agg (encGr g).toArray,.slice wa ws.length wc,.agg (encSp x).toArray] w' (.bool (checkG (grV g) ws x)):=fun e=>rcheck21_spec g wa wc ws x _ (hI.ok.ext e) hgl (hW.ext e) (by omega) (hX.s.ext e) (by omega) (by omega) hX.n1 hX.n2
 refine V.regionQ mixed 9 (by kernel_rfl) rfl (fun w'=>Ext _ w') (Ext.drawn _)<|qB rfl<|qB rfl<|qT<|VQ.op (fun wq eq=>R.ldA ag25 sz25 rfl rfl (show RowAt _ _ _ (encGr g) from (hX0.ext eq).rowAt 0 3) rfl)<|qT<|qS rfl<|qT<|VQ.op (fun wq eq=>R.ldA ag32 sz32 rfl rfl (show RowAt _ _ _ (encSp x) from (hX1.ext eq).rowAt 0 6) rfl)<|qT<|VQ.callP (fun _ _ h k=>Mod.trans h k) call20 rfl (fun wq eq=>hck (E2.trans eq))<|qT<|VQ.op (fun wq eq=>R.ldA ag25 sz25 rfl rfl (show RowAt _ _ _ (encGr g) from (hX0.ext eq).rowAt 0 3) rfl)<|qT<|qS rfl<|qT<|VQ.op (fun wq eq=>R.ldA ag32 sz32 rfl rfl (show RowAt _ _ _ (encSp x) from (hX1.ext eq).rowAt 0 6) rfl)<|VQ.nil fun w4q e4q=>lT<|VL.callP call21 rfl (hrk (E2.trans ((Vc.Mod.refl Vc.nob w2).trans e4q))) fun w4_9 e4_9=>lT<|Vo (R.lit (R.eqlB eqW4 rfl rfl) (decide_eq_true rfl))<|oP rfl rfl<|oA rfl<|Vn<|V.ret<|tB rfl rfl rfl (⟨rfl,E2.trans (((Vc.Mod.refl Vc.nob w2).trans e4q).trans e4_9)⟩)
end Go.Proofs.YtdkhcipjenfcnaaGreatDoor
