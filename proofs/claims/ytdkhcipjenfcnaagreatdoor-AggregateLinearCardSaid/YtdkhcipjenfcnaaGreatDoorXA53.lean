/- Aggregate: what comes in (printed by mkJA.py). -/
import Derived.Test.YtdkhcipjenfcnaaGreatDoorXA39
import Derived.Test.YtdkhcipjenfcnaaGreatDoorXL8
import Derived.Test.YtdkhcipjenfcnaaGreatDoorXA44
import Derived.Test.YtdkhcipjenfcnaaGreatDoorXR31
import Derived.Test.YtdkhcipjenfcnaaGreatDoorXA52
namespace Go.Proofs.YtdkhcipjenfcnaaGreatDoor
set_option maxRecDepth 100000
set_option maxHeartbeats 16000000
open Go.Vc Go.Proofs.Tryz
section
variable {H:Type} {enc:TypeId×Value→H} {w:World} {spare:Nat→Bool} {held:Bool}
theorem cells100:prog.cellsOf 100=4:=by kernel_rfl
theorem cells28:prog.cellsOf 28=1:=by kernel_rfl
theorem cells30:prog.cellsOf 30=1:=by kernel_rfl
theorem cells32:prog.cellsOf 32=6:=by kernel_rfl
theorem dec100 (n:Nat) (cs:List Value) (x:DataW H×List MemPlace) (h:DataW.trod enc prog w 0 spare held n 100 cs=some x):∃ v,cs=encS4 v∧True:=by
 have hl:=trod_len underlying100 h
 rw [cells100] at hl
 match cs,hl with
 | [c0,c1,c2,c3],_ =>
  obtain ⟨m0,y0,h0⟩:=trod_field underlying100 h (i:=0) rfl
  replace h0:DataW.trod enc prog w 0 spare held m0 3 (([c0,c1,c2,c3].drop 0).take (prog.cellsOf 3))=some y0:=h0
  rw [cells3] at h0
  have k0:DataW.trod enc prog w 0 spare held m0 3 [c0]=some y0:=h0
  obtain ⟨m1,y1,h1⟩:=trod_field underlying100 h (i:=1) rfl
  replace h1:DataW.trod enc prog w 0 spare held m1 3 (([c0,c1,c2,c3].drop 1).take (prog.cellsOf 3))=some y1:=h1
  rw [cells3] at h1
  have k1:DataW.trod enc prog w 0 spare held m1 3 [c1]=some y1:=h1
  obtain ⟨m2,y2,h2⟩:=trod_field underlying100 h (i:=2) rfl
  replace h2:DataW.trod enc prog w 0 spare held m2 3 (([c0,c1,c2,c3].drop 2).take (prog.cellsOf 3))=some y2:=h2
  rw [cells3] at h2
  have k2:DataW.trod enc prog w 0 spare held m2 3 [c2]=some y2:=h2
  obtain ⟨m3,y3,h3⟩:=trod_field underlying100 h (i:=3) rfl
  replace h3:DataW.trod enc prog w 0 spare held m3 3 (([c0,c1,c2,c3].drop 3).take (prog.cellsOf 3))=some y3:=h3
  rw [cells3] at h3
  have k3:DataW.trod enc prog w 0 spare held m3 3 [c3]=some y3:=h3
  obtain ⟨f0,e0,_⟩:=dec3 _ _ _ k0
  simp only [Vc.encI,List.cons.injEq,and_true] at e0
  subst e0
  obtain ⟨f1,e1,_⟩:=dec3 _ _ _ k1
  simp only [Vc.encI,List.cons.injEq,and_true] at e1
  subst e1
  obtain ⟨f2,e2,_⟩:=dec3 _ _ _ k2
  simp only [Vc.encI,List.cons.injEq,and_true] at e2
  subst e2
  obtain ⟨f3,e3,_⟩:=dec3 _ _ _ k3
  simp only [Vc.encI,List.cons.injEq,and_true] at e3
  subst e3
  exact ⟨⟨f0,f1,f2,f3⟩,rfl,trivial⟩
structure PfX where
 a:Option Addr
 c:Nat
 S:List St4
def encPf (p:PfX):List Value:=[.slice p.a p.S.length p.c]
def PfIn (w:World) (p:PfX):Prop:=TSl encS4 4 w p.a p.S∧p.S.length≤9223372036854775807∧(p.a=none→p.c=0)
theorem dec30 (n:Nat) (cs:List Value) (x:DataW H×List MemPlace) (h:DataW.trod enc prog w 0 spare held n 30 cs=some x):∃ v,cs=encPf v∧PfIn w v:=by
 have hl:=trod_len underlying30 h
 rw [cells30] at hl
 match cs,hl with
 | [c0],_ =>
  obtain ⟨m0,y0,h0⟩:=trod_field underlying30 h (i:=0) rfl
  replace h0:DataW.trod enc prog w 0 spare held m0 28 (([c0].drop 0).take (prog.cellsOf 28))=some y0:=h0
  rw [cells28] at h0
  have k0:DataW.trod enc prog w 0 spare held m0 28 [c0]=some y0:=h0
  obtain ⟨a0,n0,p0,e0⟩:=decSl underlying28 _ _ _ k0
  simp only [List.cons.injEq,and_true] at e0
  subst e0
  obtain ⟨S,hl0,hm0,hs0,q0,hx0,_⟩:=open_TSlP (enc':=encS4) underlying28 cells100 (by decide) (fun _=>rfl) dec100 k0
  subst hl0
  exact ⟨⟨a0,p0,S⟩,rfl,hs0,by unfold maxLen at hm0;omega,hx0⟩
structure SpW (w:World) (x:SpX):Prop where
 s:SpIn w x
 l1:x.lo.l.length≤9223372036854775807
 l2:x.hi.l.length≤9223372036854775807
 l3:x.P.length≤9223372036854775807
 l4:x.Q.length≤9223372036854775807
 n1:x.lo.a=none→x.lo.c=0
 n2:x.hi.a=none→x.hi.c=0
theorem dec32 (n:Nat) (cs:List Value) (x:DataW H×List MemPlace) (h:DataW.trod enc prog w 0 spare held n 32 cs=some x):∃ v,cs=encSp v∧SpW w v:=by
 have hl:=trod_len underlying32 h
 rw [cells32] at hl
 match cs,hl with
 | [c0,c1,c2,c3,c4,c5],_ =>
  obtain ⟨m0,y0,h0⟩:=trod_field underlying32 h (i:=0) rfl
  replace h0:DataW.trod enc prog w 0 spare held m0 3 (([c0,c1,c2,c3,c4,c5].drop 0).take (prog.cellsOf 3))=some y0:=h0
  rw [cells3] at h0
  have k0:DataW.trod enc prog w 0 spare held m0 3 [c0]=some y0:=h0
  obtain ⟨m1,y1,h1⟩:=trod_field underlying32 h (i:=1) rfl
  replace h1:DataW.trod enc prog w 0 spare held m1 3 (([c0,c1,c2,c3,c4,c5].drop 1).take (prog.cellsOf 3))=some y1:=h1
  rw [cells3] at h1
  have k1:DataW.trod enc prog w 0 spare held m1 3 [c1]=some y1:=h1
  obtain ⟨m2,y2,h2⟩:=trod_field underlying32 h (i:=2) rfl
  replace h2:DataW.trod enc prog w 0 spare held m2 22 (([c0,c1,c2,c3,c4,c5].drop 2).take (prog.cellsOf 22))=some y2:=h2
  rw [cells22] at h2
  have k2:DataW.trod enc prog w 0 spare held m2 22 [c2]=some y2:=h2
  obtain ⟨m3,y3,h3⟩:=trod_field underlying32 h (i:=3) rfl
  replace h3:DataW.trod enc prog w 0 spare held m3 22 (([c0,c1,c2,c3,c4,c5].drop 3).take (prog.cellsOf 22))=some y3:=h3
  rw [cells22] at h3
  have k3:DataW.trod enc prog w 0 spare held m3 22 [c3]=some y3:=h3
  obtain ⟨m4,y4,h4⟩:=trod_field underlying32 h (i:=4) rfl
  replace h4:DataW.trod enc prog w 0 spare held m4 30 (([c0,c1,c2,c3,c4,c5].drop 4).take (prog.cellsOf 30))=some y4:=h4
  rw [cells30] at h4
  have k4:DataW.trod enc prog w 0 spare held m4 30 [c4]=some y4:=h4
  obtain ⟨m5,y5,h5⟩:=trod_field underlying32 h (i:=5) rfl
  replace h5:DataW.trod enc prog w 0 spare held m5 30 (([c0,c1,c2,c3,c4,c5].drop 5).take (prog.cellsOf 30))=some y5:=h5
  rw [cells30] at h5
  have k5:DataW.trod enc prog w 0 spare held m5 30 [c5]=some y5:=h5
  obtain ⟨f0,e0,_⟩:=dec3 _ _ _ k0
  simp only [Vc.encI,List.cons.injEq,and_true] at e0
  subst e0
  obtain ⟨f1,e1,_⟩:=dec3 _ _ _ k1
  simp only [Vc.encI,List.cons.injEq,and_true] at e1
  subst e1
  obtain ⟨v2,e2,s2⟩:=dec22 _ _ _ k2
  simp only [encSl,List.cons.injEq,and_true] at e2
  subst e2
  obtain ⟨v3,e3,s3⟩:=dec22 _ _ _ k3
  simp only [encSl,List.cons.injEq,and_true] at e3
  subst e3
  obtain ⟨v4,e4,s4⟩:=dec30 _ _ _ k4
  simp only [encPf,List.cons.injEq,and_true] at e4
  subst e4
  obtain ⟨v5,e5,s5⟩:=dec30 _ _ _ k5
  simp only [encPf,List.cons.injEq,and_true] at e5
  subst e5
  exact ⟨⟨f0,f1,v2,v3,v4.a,v4.c,v4.S,v5.a,v5.c,v5.S⟩,rfl,⟨⟨s2.1,s3.1,s4.1,s5.1⟩,s2.2.1,s3.2.1,s4.2.1,s5.2.1,s2.2.2.1,s3.2.2.1⟩⟩
end
theorem GIn.ext {w w':World} {g:GrW} (h:GIn w g) (e:Ext w w'):GIn w' g:=⟨h.ok.ext e,h.c,h.e,h.hc,h.he⟩
theorem small_glen {w:World} {g:GrW} {n:Int} (hI:GIn w g) (h:smallB (grV g) n=true):GLen g :=
 ⟨hI.c,hI.e.len,fun x hx=>⟨by have:x.l.length≤6:=(smallB_iff.1 h).2.2.2 x.l (List.mem_map_of_mem hx);omega,(hI.e.each x hx).2.1⟩⟩
def small31 (g:Gr) (n:Int) (wl:Nat):Bool:=smallB g n&&(decide (confI g.edges g.n.toNat≤12)&&decide ((wl:Int)≤n+1))
theorem small31_spec (g:GrW) (n:Int) (wa:Option Addr) (wc:Nat) (ws:List Int) (w:World) (hI:GIn w g) (hn0:0≤n) (hn1:n≤1000000) (_hwl:ws.length≤9223372036854775807) :
  RetsP prog 12 #[.agg (encGr g).toArray,.int .i64 n,.slice wa ws.length wc] w (.bool (small31 (grV g) n ws.length)):=by
 have hgn:(grV g).n=g.n:=rfl
 have hsm:smallB (grV g) n=true→g.n≤n:=fun h=>(smallB_iff.1 h).1
 refine enter (args:=[_,_,_]) func12 rfl ntmps12 (by kernel_rfl) rfl ?_
 refine Vs (Vr (VL.box (v:=.agg _) rfl fun b0_0 w0_0 hb0_0 e0_0 hB0_0=>oA rfl (Vn (Vs (Vr (Vo (R.ldA isAgg25 sizeOf25 rfl rfl ((show RowAt _ _ _ (encGr g) from hB0_0.rowAt 0 3)) rfl) (oI rfl (VL.callP call18 rfl (small_spec g n _ (hI.ok.ext e0_0) hI.c hI.e.len (fun x hx=>(hI.e.each x hx).1) hn0 hn1) fun w1_2 e1_2=>oB rfl (VL.and rfl rfl (fun g1_3=>Vo (R.ldA isAgg25 sizeOf25 rfl rfl ((show RowAt _ _ _ (encGr g) from (hB0_0.ext e1_2).rowAt 0 3)) rfl) (VL.gT rfl rfl (VL.callP call32 rfl (conf31_spec g _ (hI.ok.ext (e0_0.trans e1_2)) (small_glen hI (by assumption)) (by have:=hsm (by assumption);omega)) fun w1_5 e1_5=>VL.gT rfl rfl (Vo (R.leq rfl rfl) (oP rfl rfl (oB rfl (VL.andP rfl rfl (fun g1_8=>oS rfl (VL.gT rfl rfl (Vo (R.lenS runUnderlying22 rfl) (VL.gT rfl rfl (oI rfl (VL.gT rfl rfl (Vo (R.add rfl rfl (by omega) (by omega)) (VL.gT rfl rfl (Vo (R.leq rfl rfl) (oP rfl rfl (oA rfl (Vn (V.ret (fret1 (v:=.bool _) rfl rfl rfl (⟨?_,((e0_0.trans e1_2).trans e1_5)⟩))))))))))))))) (fun g1_8=>VL.gF rfl rfl (VL.gF rfl rfl (VL.gF rfl rfl (VL.gF rfl rfl (oQ rfl rfl (oA rfl (Vn (V.ret (fret1 (v:=.bool _) rfl rfl rfl (⟨?_,((e0_0.trans e1_2).trans e1_5)⟩))))))))))))))))) (fun g1_3=>VL.gF rfl rfl (VL.gF rfl rfl (oQ rfl rfl (oB rfl (VL.gF rfl rfl (VL.gF rfl rfl (VL.gF rfl rfl (VL.gF rfl rfl (VL.gF rfl rfl (oQ rfl rfl (oA rfl (Vn (V.ret (fret1 (v:=.bool _) rfl rfl rfl (⟨?_,(e0_0.trans e1_2)⟩))))))))))))))))))))))))
 ·refine congrArg Value.bool (show _=small31 (grV g) n ws.length from ?_)
  have h:confI (vals g.edges) g.n.toNat≤12:=by omega
  unfold small31
  rw [g1_3,decide_eq_true (show confI (grV g).edges (grV g).n.toNat≤12 from h)];rfl
 ·refine congrArg Value.bool (show _=small31 (grV g) n ws.length from ?_)
  have h:¬confI (vals g.edges) g.n.toNat≤12:=by omega
  unfold small31
  rw [g1_3,decide_eq_false (show ¬confI (grV g).edges (grV g).n.toNat≤12 from h)];rfl
 ·refine congrArg Value.bool (show _=small31 (grV g) n ws.length from ?_)
  unfold small31
  rw [g1_3];rfl
end Go.Proofs.YtdkhcipjenfcnaaGreatDoor
