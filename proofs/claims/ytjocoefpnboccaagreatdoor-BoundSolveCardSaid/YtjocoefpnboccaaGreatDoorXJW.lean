/- Bound: ways that come in. -/
import Derived.Test.YtjocoefpnboccaaGreatDoorXN22
import Derived.Test.YtjocoefpnboccaaGreatDoorXL8
namespace Go.Proofs.YtjocoefpnboccaaGreatDoor
set_option maxHeartbeats 16000000
set_option maxRecDepth 100000
open Go.Vc
section
variable {H:Type} {enc:TypeId×Value→H} {w:World} {spare:Nat→Bool} {held:Bool}
theorem cells43:Tryz.prog.cellsOf 43=2:=by kernel_rfl
def WyIn (w:World) (x:WyI):Prop:=SlOk w x.p∧SlOk w x.n
theorem dec43 (n:Nat) (cs:List Value) (x:DataW H×List MemPlace) (h:DataW.trod enc Tryz.prog w 0 spare held n 43 cs=some x):∃ v,cs=encWy v∧WyIn w v:=by
 have hl:=trod_len Tryz.underlying43 h
 rw [cells43] at hl
 match cs,hl with
 | [c0,c1],_ =>
  obtain ⟨m0,y0,h0⟩:=trod_field Tryz.underlying43 h (i:=0) rfl
  replace h0:DataW.trod enc Tryz.prog w 0 spare held m0 22 (([c0,c1].drop 0).take (Tryz.prog.cellsOf 22))=some y0:=h0
  rw [cells22] at h0
  have k0:DataW.trod enc Tryz.prog w 0 spare held m0 22 [c0]=some y0:=h0
  obtain ⟨m1,y1,h1⟩:=trod_field Tryz.underlying43 h (i:=1) rfl
  replace h1:DataW.trod enc Tryz.prog w 0 spare held m1 22 (([c0,c1].drop 1).take (Tryz.prog.cellsOf 22))=some y1:=h1
  rw [cells22] at h1
  have k1:DataW.trod enc Tryz.prog w 0 spare held m1 22 [c1]=some y1:=h1
  obtain ⟨v0,e0,s0⟩:=dec22 _ _ _ k0
  simp only [encSl,List.cons.injEq,and_true] at e0
  subst e0
  obtain ⟨v1,e1,s1⟩:=dec22 _ _ _ k1
  simp only [encSl,List.cons.injEq,and_true] at e1
  subst e1
  exact ⟨⟨v0,v1⟩,rfl,s0,s1⟩
end
theorem WIn.of {w:World} {a:Option Addr} {W:List WyI} (h:TSl encWy 2 w a W) (hm:W.length≤maxLen) (hP:∀ v∈W,WyIn w v):WIn w a W :=
 ⟨⟨h,fun x hx=>⟨(hP x hx).1.1,(hP x hx).2.1⟩⟩,by unfold maxLen at hm;omega,fun x hx=>⟨(hP x hx).1.2.1,(hP x hx).2.2.1⟩⟩
end Go.Proofs.YtjocoefpnboccaaGreatDoor
