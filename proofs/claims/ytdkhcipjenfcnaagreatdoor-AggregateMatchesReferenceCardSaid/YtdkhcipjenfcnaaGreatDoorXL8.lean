/- Hyper: the walk of law HyperMinimal. -/
import Derived.Test.YtdkhcipjenfcnaaGreatDoorXH22a
import Derived.Test.YtdkhcipjenfcnaaGreatDoorXVcJoin2
namespace Go.Proofs.YtdkhcipjenfcnaaGreatDoor
set_option maxRecDepth 100000
set_option maxHeartbeats 16000000
open Go.Vc Go.Proofs.Tryz
structure EIn (E:List SlI):Prop where
 len:E.length≤9223372036854775807
 each:∀ x∈E,x.l.length≤9223372036854775807∧(x.a=none→x.c=0)∧∀ y∈x.l,-9223372036854775808≤y∧y≤9223372036854775807
section
variable {H:Type} {enc:TypeId×Value→H} {w:World} {spare:Nat→Bool} {held:Bool}
theorem decSl {t e:Nat} (ht:prog.underlying t=some (.slice e)) (n:Nat) (cs:List Value) (x:DataW H×List MemPlace) (h:DataW.trod enc prog w 0 spare held n t cs=some x):∃ a len cap,cs=[.slice a len cap]:=by
 rcases Go.Deep.open_slice ht h with ⟨h0,_⟩ | ⟨ad,len',cap',m,n,D,Pl,h0,_⟩
 ·exact ⟨_,_,_,h0⟩
 ·exact ⟨_,_,_,h0⟩
theorem dec3 (n:Nat) (cs:List Value) (x:DataW H×List MemPlace) (h:DataW.trod enc prog w 0 spare held n 3 cs=some x):∃ i,cs=Vc.encI i∧(-9223372036854775808≤i∧i≤9223372036854775807):=by
 obtain ⟨k,e1,_,e3⟩:=DataW.trod_int underlying3 h
 exact ⟨k,e1,wf_i64 e3⟩
theorem cells3:prog.cellsOf 3=1:=by kernel_rfl
theorem cells22:prog.cellsOf 22=1:=by kernel_rfl
theorem cells23:prog.cellsOf 23=1:=by kernel_rfl
theorem cells25:prog.cellsOf 25=3:=by kernel_rfl
def SlOk (w:World) (v:SlI):Prop:=IntSl w v.a v.l∧v.l.length≤9223372036854775807∧(v.a=none→v.c=0)∧∀ y∈v.l,-9223372036854775808≤y∧y≤9223372036854775807
theorem dec22 (n:Nat) (cs:List Value) (x:DataW H×List MemPlace) (h:DataW.trod enc prog w 0 spare held n 22 cs=some x):∃ v,cs=encSl v∧SlOk w v:=by
 obtain ⟨a0,n0,p0,e0⟩:=decSl underlying22 _ _ _ h
 subst e0
 obtain ⟨f0,hl0,hm0,hs0,q0,hx0,_⟩:=open_TSlP (enc':=Vc.encI) underlying22 cells3 (by decide) (fun _=>rfl) dec3 h
 subst hl0
 exact ⟨⟨a0,p0,f0⟩,rfl,hs0,by unfold maxLen at hm0;omega,hx0,q0⟩
theorem EIn.of {w:World} {E:List SlI} (h:E.length≤maxLen) (hP:∀ v∈E,SlOk w v):EIn E:=⟨by unfold maxLen at h;omega,fun x hx=>(hP x hx).2⟩
theorem LL.of {w:World} {a:Option Addr} {E:List SlI} (h:TSl encSl 1 w a E) (hP:∀ v∈E,SlOk w v):LL w a E:=⟨h,fun x hx=>(hP x hx).1⟩
structure GIn (w:World) (g:GrW):Prop where
 ok:GOk w g
 c:g.cost.length≤9223372036854775807
 e:EIn g.edges
 hc:g.ca=none→g.cc=0
 he:g.ea=none→g.ec=0
theorem dec25 (n:Nat) (cs:List Value) (x:DataW H×List MemPlace) (h:DataW.trod enc prog w 0 spare held n 25 cs=some x):∃ v,cs=encGr v∧GIn w v:=by
 have hl:=trod_len underlying25 h
 rw [cells25] at hl
 match cs,hl with
 | [c0,c1,c2],_ =>
  obtain ⟨m0,y0,h0⟩:=trod_field underlying25 h (i:=0) rfl
  replace h0:DataW.trod enc prog w 0 spare held m0 3 (([c0,c1,c2].drop 0).take (prog.cellsOf 3))=some y0:=h0
  rw [cells3] at h0
  have k0:DataW.trod enc prog w 0 spare held m0 3 [c0]=some y0:=h0
  obtain ⟨m1,y1,h1⟩:=trod_field underlying25 h (i:=1) rfl
  replace h1:DataW.trod enc prog w 0 spare held m1 22 (([c0,c1,c2].drop 1).take (prog.cellsOf 22))=some y1:=h1
  rw [cells22] at h1
  have k1:DataW.trod enc prog w 0 spare held m1 22 [c1]=some y1:=h1
  obtain ⟨m2,y2,h2⟩:=trod_field underlying25 h (i:=2) rfl
  replace h2:DataW.trod enc prog w 0 spare held m2 23 (([c0,c1,c2].drop 2).take (prog.cellsOf 23))=some y2:=h2
  rw [cells23] at h2
  have k2:DataW.trod enc prog w 0 spare held m2 23 [c2]=some y2:=h2
  obtain ⟨f0,e0,_⟩:=dec3 _ _ _ k0
  simp only [Vc.encI,List.cons.injEq,and_true] at e0
  subst e0
  obtain ⟨v1,e1,s1⟩:=dec22 _ _ _ k1
  simp only [encSl,List.cons.injEq,and_true] at e1
  subst e1
  obtain ⟨a2,n2,p2,e2⟩:=decSl underlying23 _ _ _ k2
  simp only [List.cons.injEq,and_true] at e2
  subst e2
  obtain ⟨E,hl2,hm2,hs2,q2,hx2,_⟩:=open_TSlP (enc':=encSl) underlying23 cells22 (by decide) (fun _=>rfl) dec22 k2
  subst hl2
  exact ⟨⟨f0,v1.a,v1.c,v1.l,a2,p2,E⟩,rfl,⟨s1.1,LL.of hs2 q2⟩,s1.2.1,EIn.of hm2 q2,s1.2.2.1,hx2⟩
end
end Go.Proofs.YtdkhcipjenfcnaaGreatDoor
