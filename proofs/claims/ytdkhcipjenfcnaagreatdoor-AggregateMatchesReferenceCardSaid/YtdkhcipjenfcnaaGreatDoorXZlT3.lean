/- slices.SortFunc: the insertion sort. -/
import Derived.Test.YtdkhcipjenfcnaaGreatDoorXH10
namespace Go.Proofs.YtdkhcipjenfcnaaGreatDoor
open Go.Proofs.Tryz
set_option maxRecDepth 100000
set_option maxHeartbeats 16000000
namespace StbL
set_option maxRecDepth 100000
set_option maxHeartbeats 16000000
open Go.Vc Go.Sort
variable {α:Type} [Inhabited α]
structure CmpOk (pr:α→Option Addr×Nat×Nat) (a:Option Addr) (w0:World) (g:Nat) (cb:List Value) (cf:α→α→Int):Prop where
 elt:Elt (enS pr) 1
 fn:IsFn prog g
 spec:∀ w,Mod (aBlk a) w0 w→∀ x y,RetsP prog g (([]:List Value)++[Value.slice (pr x).1 (pr x).2.1 (pr x).2.2,Value.slice (pr y).1 (pr y).2.1 (pr y).2.2]++cb).toArray w (.int .i64 (cf x y))
theorem lt_and {A j:Nat} {b:Bool} (h:(decide (A<j)&&b)=true):A<j:=by simp at h;exact h.1
def ltf (cf:α→α→Int) (x y:α):Bool:=decide (cf x y<0)
theorem sz_swp (d:Array α) (i j:Nat):(swp d i j).size=d.size:=by unfold swp;simp
section
variable {pr:α→Option Addr×Nat×Nat} {a:Option Addr} {w0:World} {g:Nat} {cb:List Value} {cf:α→α→Int}
theorem insOuter_stop (lt:α→α→Bool) (A B i:Nat) (d:Array α) (h:¬i<B):insOuter lt A B i d=d:=by rw [insOuter,if_neg h]
theorem insOuter_step (lt:α→α→Bool) (A B i:Nat) (d:Array α) (h:i<B):insOuter lt A B i d=insOuter lt A B (i+1) (insInner lt A i d):=by rw [insOuter,if_pos h]
theorem insInner_size (lt:α→α→Bool) (A:Nat):∀ (j:Nat) (d:Array α),(insInner lt A j d).size=d.size
 | 0,d=>rfl
 | j+1,d=>by
  rw [insInner]
  split
  ·rw [insInner_size lt A j];exact sz_swp _ _ _
  ·rfl
theorem insInner_stop (lt:α→α→Bool) (A j:Nat) (d:Array α) (h:(decide (A<j)&&lt d[j]! d[j-1]!)=false):insInner lt A j d=d:=by
 cases j with
 | zero=>rfl
 | succ j =>
  have h':(decide (j+1 > A)&&lt d[j+1]! d[j]!)=false:=h
  rw [insInner,h']
  rfl
theorem insInner_step (lt:α→α→Bool) (A j:Nat) (d:Array α) (h:(decide (A<j)&&lt d[j]! d[j-1]!)=true):insInner lt A j d=insInner lt A (j-1) (swp d j (j-1)):=by
 cases j with
 | zero=>simp at h
 | succ j =>
  have h':(decide (j+1 > A)&&lt d[j+1]! d[j]!)=true:=h
  rw [insInner,h']
  rfl
theorem ins_spec (hC:CmpOk pr a w0 g cb cf) (cap A B n:Nat) (d:Array α) (w:World) (hs:Srt (enS pr) 1 w0 a d w) (hn:d.size=n) (hb:n≤4611686018427387904) (hAB:A≤B) (hB:B≤n) :
  RetsK prog 156 #[.slice a n cap,.int .i64 A,.int .i64 B,.func (.func g) #[] cb.toArray] w (.tuple #[]) (Srt (enS pr) 1 w0 a (insertionSort (ltf cf) d A B)):=by
 have elt:=hC.elt
 refine eN (args:=[_,_,_,_]) func156 rfl ntmps156 ?_
 refine Vs<|Vr<|oI rfl<|oD rfl rfl<|oJ rfl<|Vn<|Vb (?_)
 refine Vl [0,1,2,3,8] (fun x:Nat×Array α=>[.slice a n cap,.int .i64 A,.int .i64 B,.func (.func g) #[] cb.toArray,.int .i64 x.1])
  (fun x w'=>A+1≤x.1∧x.1≤B+1∧x.2.size=n∧insOuter (ltf cf) A B x.1 x.2=insertionSort (ltf cf) d A B∧Srt (enS pr) 1 w0 a x.2 w') (fun x=>B+1-x.1) (A+1,d) rfl ⟨by simp,by simp;omega,hn,rfl,hs⟩ ?_
 rintro ρ ⟨i,d1⟩ w1 ⟨h1,h2,h3,h4,hs1⟩
 dsimp only at h1 h2 h3 h4 hs1 ⊢
 refine Vs<|Vs<|Vr<|oI rfl<|oI rfl<|oL rfl rfl<|Vn<|Vd rfl (fun c14=>Vk<|V.cut [0,1,2,3,8] (fun _:Unit=>[.slice a n cap,.int .i64 A,.int .i64 B,.func (.func g) #[] cb.toArray,.int .i64 i]) (fun _ w'=>(Srt (enS pr) 1 w0 a (insInner (ltf cf) A i d1)) w') (Vb<|Vs<|Vr<|oI rfl<|oJ rfl<|Vn<|Vb (?_)) (fun rgB1 _ wBB1 hBB1=>Vr<|oI rfl<|oD rfl rfl<|oJ rfl<|Vn (⟨(i+1,insInner (ltf cf) A i d1),rfl,⟨by omega,by omega,?_,?_,hBB1⟩,by omega⟩))) (fun c14=>Ve (fend0 rfl (⟨?_,?_⟩)))
 ·refine Vl [0,1,2,3,8,9] (fun x:Nat×Array α=>[.slice a n cap,.int .i64 A,.int .i64 B,.func (.func g) #[] cb.toArray,.int .i64 i,.int .i64 x.1])
   (fun x w'=>A≤x.1∧x.1≤i∧x.2.size=n∧insInner (ltf cf) A x.1 x.2=insInner (ltf cf) A i d1∧Srt (enS pr) 1 w0 a x.2 w') (fun x=>x.1) (i,d1) rfl ⟨by simp;omega,by simp,h3,rfl,hs1⟩ ?_
  rintro ρ2 ⟨j,d2⟩ w2 ⟨g1,g2,g3,g4,hs2⟩
  dsimp only at g1 g2 g3 g4 hs2 ⊢
  refine Vs<|Vs<|V.regionQCut mixed 17 (by kernel_rfl) rfl (fun w'=>Ext _ w') (Ext.drawn _) [18,19,20,21,22,23,24,25,26,27,28,29,30,31,32,33,34] 34 (.bool (decide (A<j)&&ltf cf d2[j]! d2[j-1]!)) rfl (qI rfl<|qI rfl<|Vq (fun wq eq=>R.gtr rfl rfl)<|Vq (fun wq eq=>R.mvB rfl)<|VQ.andP rfl rfl (fun g4_3=>Vq (fun wq eq=>R.mvF rfl)<|qT<|qS rfl<|qT<|qI rfl<|qT<|Vq (fun wq eq=>iX ru23 sz22 rfl rfl (hs2.ad))<|qT<|Vq (fun wq eq=>rla ag22 rfl (((hs2.ext eq).row elt (i:=j) (by omega) (by omega)).c0a rfl))<|qT<|qS rfl<|qT<|qI rfl<|qT<|Vq (fun wq eq=>R.sub rfl rfl (by omega) (by omega))<|qT<|Vq (fun wq eq=>iX ru23 sz22 rfl rfl (hs2.ad))<|qT<|Vq (fun wq eq=>rla ag22 rfl (((hs2.ext eq).row elt (i:=j-1) (by omega) (by omega)).c0a rfl))<|qT<|VQ.callCP (fun _ _ h k=>Mod.trans h k) rfl (hC.fn) rfl (fun wq eq=>hC.spec wq (hs2.ext eq).m d2[j]! d2[j-1]!)<|qT<|Vq (fun wq eq=>R.lss rfl rfl)<|Vq (fun wq eq=>R.pickTB rfl rfl)<|Vj (cutB rfl ?_)) (fun g4_3=>qF<|qF<|qF<|qF<|qF<|qF<|qF<|qF<|qF<|qF<|qF<|Vq (fun wq eq=>R.pickFB rfl rfl)<|Vj (cutB rfl ?_))) (fun rg4 w4c e4c=>Vh rfl (fun c34=>Vk<|Vs<|Vb<|V.regionW mixed 16 15 (by kernel_rfl) rfl (fun w'=>Ext _ w') (fun w'=>Srt (enS pr) 1 w0 a (d2.setIfInBounds j d2[j-1]!) w') (Ext.drawn _)<|wS rfl<|wI rfl<|wS rfl<|wI rfl<|VW.op (fun wq eq=>R.sub rfl rfl (by omega) (by omega))<|wS rfl<|wI rfl<|VW.op (fun wq eq=>R.sub rfl rfl (by omega) (by omega))<|VW.op (fun wq eq=>R.ixS ru23 sz22 rfl rfl (by have:=lt_and c34;omega) (by have:=lt_and c34;omega) (hs2.ad))<|VW.op0 (fun wq eq=>rla ag22 rfl (((hs2.ext (e4c.trans eq)).row elt (i:=j-1) (by have:=lt_and c34;omega) (by have:=lt_and c34;omega)).c0a rfl))<|wS rfl<|wI rfl<|VW.op (fun wq eq=>iX ru23 sz22 rfl rfl (hs2.ad))<|VW.op0 (fun wq eq=>rla ag22 rfl (((hs2.ext (e4c.trans eq)).row elt (i:=j) (by omega) (by omega)).c0a rfl))<|VW.op (fun wq eq=>iX ru23 sz22 rfl rfl hs2.ad)<|VW.wr0 (fun wq eq=>R.storeSt elt sz22 (hs2.ext (e4c.trans eq)) rfl (i:=j) (by omega) (by omega) rfl)<|VW.nil fun w3 hs3=>Vo (R.ixS ru23 sz22 rfl rfl (by have:=lt_and c34;omega) (by have:=lt_and c34;omega) hs2.ad)<|VL.storeSt elt sz22 hs3 rfl (i:=j-1) (by have:=lt_and c34;omega) (by simp;omega) rfl fun w4 hs4=>Vn<|Vr<|oI rfl<|Vo (R.sub rfl rfl (by omega) (by omega))<|oJ rfl<|Vn (⟨(j-1,swp d2 j (j-1)),?_,⟨(by have:=lt_and c34;omega),(by have:=lt_and c34;omega),?_,?_,hs4⟩,(by have:=lt_and c34;omega)⟩)) (fun c34=>Ve (⟨(),rfl,?_⟩)))
  ·have:A<j:=by omega
   simp [ltf,this]
  ·have:¬A<j:=by omega
   simp [this]
  ·have:((j-1:Nat):Int)=j-1:=by have:=lt_and c34;omega
   rw [this];rfl
  ·rw [sz_swp];exact g3
  ·rw [←insInner_step _ _ _ _ c34];exact g4
  ·rw [←g4,insInner_stop _ _ _ _ c34];exact hs2.ext e4c
 ·rw [insInner_size];exact h3
 ·rw [←insOuter_step _ _ _ _ _ (by omega)];exact h4
 ·rfl
 ·rw [←h4,insOuter_stop _ _ _ _ _ (by omega)];exact hs1
end
end StbL
end Go.Proofs.YtdkhcipjenfcnaaGreatDoor
/- slices.SortStableFunc: the rotation. -/
namespace Go.Proofs.YtdkhcipjenfcnaaGreatDoor
open Go.Proofs.Tryz
set_option maxRecDepth 100000
set_option maxHeartbeats 16000000
namespace StbL
set_option maxRecDepth 100000
set_option maxHeartbeats 16000000
open Go.Vc Go.Sort
section
variable {α:Type} [Inhabited α] {pr:α→Option Addr×Nat×Nat} {a:Option Addr} {w0:World}
theorem swr_spec (elt:Elt (enS pr) 1) (g:Nat) (cb:List Value) (cap n x y m:Nat) (d:Array α) (w:World) (hs:Srt (enS pr) 1 w0 a d w) (hn:d.size=n) (hb:n≤1152921504606846976) (hxy:x+m≤y) (hy:y+m≤n) :
  RetsK prog 176 #[.slice a n cap,.int .i64 x,.int .i64 y,.int .i64 m,.func (.func g) #[] cb.toArray] w (.tuple #[]) (Srt (enS pr) 1 w0 a (ixm d (swpI x y m))):=by
 refine eN (args:=[_,_,_,_,_]) func176 rfl ntmps176 ?_
 refine Vs<|Vr<|oJ rfl<|Vn<|Vb (?_)
 refine Vl [0,1,2,3,10] (fun k:Nat=>[.slice a n cap,.int .i64 x,.int .i64 y,.int .i64 m,.int .i64 k])
  (fun k w'=>k≤m∧Srt (enS pr) 1 w0 a (ixm d (swpI x y k)) w') (fun k=>m-k) 0 rfl ⟨Nat.zero_le _,by rw [swpI_zero];exact hs⟩ ?_
 rintro ρ k w1 ⟨hk,hs1⟩
 have hsz:(ixm d (swpI x y k)).size=n:=by rw [ixm_size];exact hn
 have hst:=fun h1 h2=>swpI_succ d x y k h1 h2
 obtain ⟨d1,hg⟩:∃ d1,d1=ixm d (swpI x y k):=⟨_,rfl⟩
 rw [←hg] at hs1 hsz hst
 refine Vs<|Vs<|Vr<|oI rfl<|oI rfl<|oL rfl rfl<|Vn<|Vd rfl (fun c13=>Vk<|Vs<|Vb<|V.regionW mixed 22 21 (by kernel_rfl) rfl (fun w'=>Ext _ w') (fun w'=>Srt (enS pr) 1 w0 a (d1.setIfInBounds (x+k) d1[y+k]!) w') (Ext.drawn _)<|wS rfl<|wI rfl<|wI rfl<|VW.op (fun wq eq=>R.add rfl rfl (by omega) (by omega))<|wS rfl<|wI rfl<|wI rfl<|VW.op (fun wq eq=>R.add rfl rfl (by omega) (by omega))<|wS rfl<|wI rfl<|wI rfl<|VW.op (fun wq eq=>R.add rfl rfl (by omega) (by omega))<|VW.op (fun wq eq=>iX ru23 sz22 rfl rfl (hs1.ad))<|VW.op0 (fun wq eq=>rla ag22 rfl (((hs1.ext eq).row elt (i:=y+k) (by omega) (by omega)).c0a rfl))<|wS rfl<|wI rfl<|wI rfl<|VW.op (fun wq eq=>R.add rfl rfl (by omega) (by omega))<|VW.op (fun wq eq=>iX ru23 sz22 rfl rfl (hs1.ad))<|VW.op0 (fun wq eq=>rla ag22 rfl (((hs1.ext eq).row elt (i:=x+k) (by omega) (by omega)).c0a rfl))<|VW.op (fun wq eq=>iX ru23 sz22 rfl rfl hs1.ad)<|VW.wr0 (fun wq eq=>R.storeSt elt sz22 (hs1.ext eq) rfl (i:=x+k) (by omega) (by omega) rfl)<|VW.nil fun w3 hs3=>Vo (iX ru23 sz22 rfl rfl hs1.ad)<|VL.storeSt elt sz22 hs3 rfl (i:=y+k) (by omega) (by rw [Array.size_setIfInBounds];exact (by omega)) rfl fun w4 hs4=>Vn<|Vr<|oI rfl<|oD rfl rfl<|oJ rfl<|Vn (⟨k+1,rfl,⟨by omega,?_⟩,by omega⟩)) (fun c13=>Ve (fend0 rfl (⟨rfl,?_⟩)))
 ·rw [←hst (by omega) (by omega)];exact hs4
 ·have:k=m:=by omega
  subst this;exact hg▸hs1
theorem rot_spec (elt:Elt (enS pr) 1) (g:Nat) (cb:List Value) (cap n A M B:Nat) (d:Array α) (w:World) (hs:Srt (enS pr) 1 w0 a d w) (hn:d.size=n) (hb:n≤1152921504606846976) (h1:A<M) (h2:M<B) (h3:B≤n) :
  RetsK prog 170 #[.slice a n cap,.int .i64 A,.int .i64 M,.int .i64 B,.func (.func g) #[] cb.toArray] w (.tuple #[]) (Srt (enS pr) 1 w0 a (ixm d (rotI A M B))):=by
 refine eN (args:=[_,_,_,_,_]) func170 rfl ntmps170 ?_
 refine Vs<|Vr<|oI rfl<|oI rfl<|Vo (R.subE (z:=((M-A:Nat):Int)) rfl rfl (by omega) (by omega) (by omega))<|oJ rfl<|Vn<|Vs<|Vr<|oI rfl<|oI rfl<|Vo (R.subE (z:=((B-M:Nat):Int)) rfl rfl (by omega) (by omega) (by omega))<|oJ rfl<|Vn<|Vs<|Vb (?_)
 refine Vl [0,2,4,10,11] (fun x:Nat×Nat×Array α=>[.slice a n cap,.int .i64 M,.func (.func g) #[] cb.toArray,.int .i64 x.1,.int .i64 x.2.1])
  (fun x w'=>0<x.1∧0<x.2.1∧x.1≤M∧M+x.2.1≤n∧x.2.2.size=n∧ixm x.2.2 (rotI (M-x.1) M (M+x.2.1))=ixm d (rotI A M B)∧Srt (enS pr) 1 w0 a x.2.2 w') (fun x=>x.1+x.2.1) (M-A,B-M,d) rfl ⟨by dsimp only;omega,by dsimp only;omega,by dsimp only;omega,by dsimp only;omega,hn,by dsimp only;rw [show M-(M-A)=A by omega,show M+(B-M)=B by omega],hs⟩ ?_
 rintro ρ ⟨i,j,d1⟩ w1 ⟨g1,g2,g3,g4,g5,g6,hs1⟩
 dsimp only at g1 g2 g3 g4 g5 g6 hs1 ⊢
 refine Vs<|Vs<|Vr<|oI rfl<|oI rfl<|Vo (R.neq rfl rfl)<|Vn<|Vd rfl (fun c20=>Vk<|Vb<|Vs<|Vr<|oI rfl<|oI rfl<|Vo (R.gtr rfl rfl)<|Vn<|Vd rfl (fun c23=>Vs<|Vr<|oS rfl<|oI rfl<|oI rfl<|Vo (R.subE (z:=((M-i:Nat):Int)) rfl rfl (by omega) (by omega) (by omega))<|oI rfl<|oI rfl<|Vo (R.mvF rfl)<|VL.callK call176 rfl (swr_spec elt g cb cap n (M-i) M j d1 _ (hs1.ext (Mod.refl _ _)) g5 hb (by omega) (by omega)) fun w2 hs2=>Vn<|Vr<|oI rfl<|oI rfl<|Vo (R.subE (z:=((i-j:Nat):Int)) rfl rfl (by omega) (by omega) (by omega))<|oJ rfl<|Vn (?_)) (fun c23=>Vs<|Vr<|oS rfl<|oI rfl<|oI rfl<|Vo (R.subE (z:=((M-i:Nat):Int)) rfl rfl (by omega) (by omega) (by omega))<|oI rfl<|oI rfl<|oD rfl rfl<|oI rfl<|Vo (R.subE (z:=((M+j-i:Nat):Int)) rfl rfl (by omega) (by omega) (by omega))<|oI rfl<|Vo (R.mvF rfl)<|VL.callK call176 rfl (swr_spec elt g cb cap n (M-i) (M+j-i) i d1 _ (hs1.ext (Mod.refl _ _)) g5 hb (by omega) (by omega)) fun w2 hs2=>Vn<|Vr<|oI rfl<|oI rfl<|Vo (R.subE (z:=((j-i:Nat):Int)) rfl rfl (by omega) (by omega) (by omega))<|oJ rfl<|Vn (?_))) (fun c20=>Ve<|Vr<|oS rfl<|oI rfl<|oI rfl<|Vo (R.subE (z:=((M-i:Nat):Int)) rfl rfl (by omega) (by omega) (by omega))<|oI rfl<|oI rfl<|Vo (R.mvF rfl)<|VL.callK call176 rfl (swr_spec elt g cb cap n (M-i) M i d1 _ (hs1.ext (Mod.refl _ _)) g5 hb (by omega) (by omega)) fun w2 hs2=>Vn (fend0 rfl (⟨rfl,?_⟩)))
 ·exact ⟨(i-j,j,ixm d1 (swpI (M-i) M j)),rfl,⟨by dsimp only;omega,g2,by dsimp only;omega,g4,(ixm_size _ _).trans g5,by dsimp only;rw [←g6];exact rot_left d1 M i j (by omega) g3 (by omega),hs2⟩,by dsimp only;omega⟩
 ·exact ⟨(i,j-i,ixm d1 (swpI (M-i) (M+j-i) i)),rfl,⟨g1,by dsimp only;omega,g3,by dsimp only;omega,(ixm_size _ _).trans g5,by dsimp only;rw [←g6];exact rot_right d1 M i j (by omega) g3 (by omega),hs2⟩,by dsimp only;omega⟩
 ·have e:i=j:=by omega
  subst e
  rw [←g6,←rot_last d1 M i g3 (by omega)];exact hs2
end
end StbL
end Go.Proofs.YtdkhcipjenfcnaaGreatDoor
/- slices.SortStableFunc: the merge. -/
namespace Go.Proofs.YtdkhcipjenfcnaaGreatDoor
open Go.Proofs.Tryz
set_option maxRecDepth 100000
set_option maxHeartbeats 16000000
namespace StbL
set_option maxRecDepth 100000
set_option maxHeartbeats 16000000
open Go.Vc Go.Sort
section
variable {β:Type} [Inhabited β] {pr:β×Nat→Option Addr×Nat×Nat} {a:Option Addr} {w0:World} {g:Nat} {cb:List Value} {cf:β→β→Int}
theorem sym_spec (hC:CmpOk pr a w0 g cb (fun x y:β×Nat=>cf x.1 y.1)) (hO:SWO (ltf cf)) (cap n:Nat) (hb:n≤1152921504606846976):∀ (m A M B:Nat) (d:Array (β×Nat)) (w:World),B-A<m→Srt (enS pr) 1 w0 a d w→d.size=n→A<M→M<B→B≤n →
  SortedIn (lx (ltf cf)) A M d→SortedIn (lx (ltf cf)) M B d→Tg A M B d →
  RetsY prog 157 #[.slice a n cap,.int .i64 A,.int .i64 M,.int .i64 B,.func (.func g) #[] cb.toArray] w (fun _:Array (β×Nat)=>.tuple #[]) (fun d' w'=>PermIn A B d d'∧SortedIn (lx (ltf cf)) A B d'∧Srt (enS pr) 1 w0 a d' w'):=by
 have elt:=hC.elt
 intro m
 induction m with
 | zero=>intro A M B d w h;omega
 | succ m ih =>
 intro A M B d w hm hs hn h1 h2 h3 o1 o2 ht
 refine eN (args:=[_,_,_,_,_]) func157 rfl ntmps157 ?_
 refine Vs<|Vs<|Vr<|oI rfl<|oI rfl<|Vo (R.subE (z:=((M-A:Nat):Int)) rfl rfl (by omega) (by omega) (by omega))<|Vo (R.eql rfl rfl)<|Vn<|Vd rfl (fun c28=>Vs<|Vr<|oI rfl<|oJ rfl<|Vn<|Vs<|Vr<|oI rfl<|oJ rfl<|Vn<|Vs<|Vb (?_)) (fun c28=>Vk<|Vs<|Vs<|Vr<|oI rfl<|oI rfl<|Vo (R.subE (z:=((B-M:Nat):Int)) rfl rfl (by omega) (by omega) (by omega))<|Vo (R.eql rfl rfl)<|Vn<|Vd rfl (fun c80=>Vs<|Vr<|oI rfl<|oJ rfl<|Vn<|Vs<|Vr<|oI rfl<|oJ rfl<|Vn<|Vs<|Vb (?_)) (fun c80=>Vk<|Vs (?_)))
 ·have hM:M=A+1:=by omega
  subst hM
  refine Vl [0,1,4,10,11] (fun x:Nat×Nat=>[.slice a n cap,.int .i64 A,.func (.func g) #[] cb.toArray,.int .i64 x.1,.int .i64 x.2])
   (fun x w'=>A+1≤x.1∧x.1≤x.2∧x.2≤B∧(x.1=A+1∨ltf cf d[x.1-1]!.1 d[A]!.1=true)∧(x.2=B∨ltf cf d[x.2]!.1 d[A]!.1=false)∧Ext w w') (fun x=>x.2-x.1) (A+1,B) rfl ⟨Nat.le_refl _,by dsimp only;omega,Nat.le_refl _,.inl rfl,.inl rfl,Mod.refl _ _⟩ ?_
  rintro ρ ⟨i,j⟩ w1 ⟨g1,g2,g3,g4,g5,e⟩
  dsimp only at g1 g2 g3 g4 g5 e ⊢
  have hs1:=hs.ext e
  obtain ⟨h,hh⟩:∃ h,h=(i+j) / 2:=⟨_,rfl⟩
  refine Vs<|Vs<|Vr<|oI rfl<|oI rfl<|oL rfl rfl<|Vn<|Vd rfl (fun c33=>Vk<|Vb<|Vs<|Vr<|oI rfl<|oI rfl<|oD rfl rfl<|Vo (R.conv ru3 ru108 rfl (wrap_u64 (by omega) (by omega)))<|Vo (R.half (a:=(i+j)) rfl rfl)<|Vo (R.conv ru108 ru3 rfl (wrap_i64 (by omega) (by omega)))<|oJ rfl<|Vn<|Vs (?_)) (fun c33=>Ve<|Vs<|Vs (?_))
  ·rw [←hh]
   refine rQ 11 (Vq (fun wq eq=>R.mvF rfl)<|qS rfl<|qI rfl<|Vq (fun wq eq=>iX ru23 sz22 rfl rfl (hs1.ad))<|Vq (fun wq eq=>rla ag22 rfl (((hs1.ext eq).row elt (i:=h) (by omega) (by omega)).c0a rfl))<|qS rfl<|qI rfl<|Vq (fun wq eq=>iX ru23 sz22 rfl rfl (hs1.ad))<|Vq (fun wq eq=>rla ag22 rfl (((hs1.ext eq).row elt (i:=A) (by omega) (by omega)).c0a rfl))<|VQ.callCP (fun _ _ h k=>Mod.trans h k) rfl (hC.fn) rfl (fun wq eq=>hC.spec wq (hs1.ext eq).m _ _)<|Vq (fun wq eq=>R.lss rfl rfl)<|Vj fun w5q e5q=>Vn<|Vd rfl (fun c50=>Vr<|oI rfl<|oD rfl rfl<|oJ rfl<|Vn (?_)) (fun c50=>Vr<|oI rfl<|oJ rfl<|Vn (?_)))
   ·exact ⟨(h+1,j),rfl,⟨by dsimp only;omega,by dsimp only;omega,g3,.inr (decide_eq_true c50),g5,e.trans e5q⟩,by dsimp only;omega⟩
   ·exact ⟨(i,h),rfl,⟨g1,by dsimp only;omega,by dsimp only;omega,g4,.inr (decide_eq_false c50),e.trans e5q⟩,by dsimp only;omega⟩
  ·have hij:j=i:=by omega
   subst hij
   refine Vr<|oI rfl<|oJ rfl<|Vn<|Vb (?_)
   refine Vl [0,10,13] (fun k:Nat=>[.slice a n cap,.int .i64 j,.int .i64 k])
    (fun k w'=>A≤k∧k+1≤j∧Srt (enS pr) 1 w0 a (ixm d (rotI A (A+1) (k+1))) w') (fun k=>j-k) A rfl ⟨Nat.le_refl _,by omega,by rw [rot_up0];exact hs1⟩ ?_
   rintro ρ k w2 ⟨q1,q2,hs2⟩
   have hsz:(ixm d (rotI A (A+1) (k+1))).size=n:=by rw [ixm_size];exact hn
   have hst:=rot_up d A k q1
   obtain ⟨d1,hg⟩:∃ d1,d1=ixm d (rotI A (A+1) (k+1)):=⟨_,rfl⟩
   rw [←hg] at hs2 hsz hst
   refine Vs<|Vs<|Vr<|oI rfl<|oI rfl<|Vo (R.subE (z:=((j-1:Nat):Int)) rfl rfl (by omega) (by omega) (by omega))<|oL rfl rfl<|Vn<|Vd rfl (fun c58=>Vk<|Vs<|Vb<|V.regionW mixed 16 15 (by kernel_rfl) rfl (fun w'=>Ext _ w') (fun w'=>Srt (enS pr) 1 w0 a (d1.setIfInBounds (k) d1[k+1]!) w') (Ext.drawn _)<|wS rfl<|wI rfl<|wS rfl<|wI rfl<|VW.op (fun wq eq=>R.add rfl rfl (by omega) (by omega))<|wS rfl<|wI rfl<|VW.op (fun wq eq=>R.add rfl rfl (by omega) (by omega))<|VW.op (fun wq eq=>iX ru23 sz22 rfl rfl (hs2.ad))<|VW.op0 (fun wq eq=>rla ag22 rfl (((hs2.ext eq).row elt (i:=k+1) (j:=((k:Int)+1).toNat) (by omega) (by omega)).c0a rfl))<|wS rfl<|wI rfl<|VW.op (fun wq eq=>iX ru23 sz22 rfl rfl (hs2.ad))<|VW.op0 (fun wq eq=>rla ag22 rfl (((hs2.ext eq).row elt (i:=k) (by omega) (by omega)).c0a rfl))<|VW.op (fun wq eq=>iX ru23 sz22 rfl rfl hs2.ad)<|VW.wr0 (fun wq eq=>R.storeSt elt sz22 (hs2.ext eq) rfl (i:=k) (by omega) (by omega) rfl)<|VW.nil fun w3 hs3=>Vo (iX ru23 sz22 rfl rfl hs2.ad)<|VL.storeSt elt sz22 hs3 rfl (i:=k+1) (j:=((k:Int)+1).toNat) (by omega) (by rw [Array.size_setIfInBounds];exact (by omega)) rfl fun w4 hs4=>Vn<|Vr<|oI rfl<|oD rfl rfl<|oJ rfl<|Vn (⟨k+1,rfl,⟨by omega,by omega,?_⟩,by omega⟩)) (fun c58=>Ve<|Vt (fret0 rfl (?_)))
   ·rw [←hst (by omega)];exact hs4
   ·have hk:k+1=j:=by omega
    rw [hk] at hg
    subst hg
    exact ⟨_,rfl,rot_perm d A (A+1) j (by omega) g1 (by omega) |> fun p=>permIn_mono d _ A j A B (Nat.le_refl _) g3 (by omega) p,merge_one hO (by omega) o2 ht g1 g3 g4 g5,hs2⟩
 ·have hB:B=M+1:=by omega
  subst hB
  refine Vl [0,2,4,14,15] (fun x:Nat×Nat=>[.slice a n cap,.int .i64 M,.func (.func g) #[] cb.toArray,.int .i64 x.1,.int .i64 x.2])
   (fun x w'=>A≤x.1∧x.1≤x.2∧x.2≤M∧(x.1=A∨ltf cf d[M]!.1 d[x.1-1]!.1=false)∧(x.2=M∨ltf cf d[M]!.1 d[x.2]!.1=true)∧Ext w w') (fun x=>x.2-x.1) (A,M) rfl ⟨Nat.le_refl _,by dsimp only;omega,Nat.le_refl _,.inl rfl,.inl rfl,Mod.refl _ _⟩ ?_
  rintro ρ ⟨i,j⟩ w1 ⟨g1,g2,g3,g4,g5,e⟩
  dsimp only at g1 g2 g3 g4 g5 e ⊢
  have hs1:=hs.ext e
  obtain ⟨h,hh⟩:∃ h,h=(i+j) / 2:=⟨_,rfl⟩
  refine Vs<|Vs<|Vr<|oI rfl<|oI rfl<|oL rfl rfl<|Vn<|Vd rfl (fun c85=>Vk<|Vb<|Vs<|Vr<|oI rfl<|oI rfl<|oD rfl rfl<|Vo (R.conv ru3 ru108 rfl (wrap_u64 (by omega) (by omega)))<|Vo (R.half (a:=(i+j)) rfl rfl)<|Vo (R.conv ru108 ru3 rfl (wrap_i64 (by omega) (by omega)))<|oJ rfl<|Vn<|Vs (?_)) (fun c85=>Ve<|Vs<|Vs (?_))
  ·rw [←hh]
   refine rQ 12 (Vq (fun wq eq=>R.mvF rfl)<|qS rfl<|qI rfl<|Vq (fun wq eq=>iX ru23 sz22 rfl rfl (hs1.ad))<|Vq (fun wq eq=>rla ag22 rfl (((hs1.ext eq).row elt (i:=M) (by omega) (by omega)).c0a rfl))<|qS rfl<|qI rfl<|Vq (fun wq eq=>iX ru23 sz22 rfl rfl (hs1.ad))<|Vq (fun wq eq=>rla ag22 rfl (((hs1.ext eq).row elt (i:=h) (by omega) (by omega)).c0a rfl))<|VQ.callCP (fun _ _ h k=>Mod.trans h k) rfl (hC.fn) rfl (fun wq eq=>hC.spec wq (hs1.ext eq).m _ _)<|Vq (fun wq eq=>R.lss rfl rfl)<|Vq (fun wq eq=>R.notD rfl)<|Vj fun w17q e17q=>Vn<|Vd rfl (fun c103=>Vr<|oI rfl<|oD rfl rfl<|oJ rfl<|Vn (?_)) (fun c103=>Vr<|oI rfl<|oJ rfl<|Vn (?_)))
   ·exact ⟨(h+1,j),rfl,⟨by dsimp only;omega,by dsimp only;omega,g3,.inr (decide_eq_false c103),g5,e.trans e17q⟩,by dsimp only;omega⟩
   ·exact ⟨(i,h),rfl,⟨g1,by dsimp only;omega,by dsimp only;omega,g4,.inr (decide_eq_true (Classical.not_not.1 c103)),e.trans e17q⟩,by dsimp only;omega⟩
  ·have hij:j=i:=by omega
   subst hij
   refine Vr<|oI rfl<|oJ rfl<|Vn<|Vb (?_)
   refine Vl [0,14,17] (fun k:Nat=>[.slice a n cap,.int .i64 j,.int .i64 k])
    (fun k w'=>j≤k∧k≤M∧Srt (enS pr) 1 w0 a (ixm d (rotI k M (M+1))) w') (fun k=>k) M rfl ⟨g3,Nat.le_refl _,by rw [rot_down0];exact hs1⟩ ?_
   rintro ρ k w2 ⟨q1,q2,hs2⟩
   have hsz:(ixm d (rotI k M (M+1))).size=n:=by rw [ixm_size];exact hn
   have hst:=rot_down d M k q2
   obtain ⟨d1,hg⟩:∃ d1,d1=ixm d (rotI k M (M+1)):=⟨_,rfl⟩
   rw [←hg] at hs2 hsz hst
   refine Vs<|Vs<|Vr<|oI rfl<|oI rfl<|Vo (R.gtr rfl rfl)<|Vn<|Vd rfl (fun c110=>Vk<|Vs<|Vb<|V.regionW mixed 16 15 (by kernel_rfl) rfl (fun w'=>Ext _ w') (fun w'=>Srt (enS pr) 1 w0 a (d1.setIfInBounds (k) d1[k-1]!) w') (Ext.drawn _)<|wS rfl<|wI rfl<|wS rfl<|wI rfl<|VW.op (fun wq eq=>R.sub rfl rfl (by omega) (by omega))<|wS rfl<|wI rfl<|VW.op (fun wq eq=>R.sub rfl rfl (by omega) (by omega))<|VW.op (fun wq eq=>iX ru23 sz22 rfl rfl (hs2.ad))<|VW.op0 (fun wq eq=>rla ag22 rfl (((hs2.ext eq).row elt (i:=k-1) (j:=((k:Int)-1).toNat) (by omega) (by omega)).c0a rfl))<|wS rfl<|wI rfl<|VW.op (fun wq eq=>iX ru23 sz22 rfl rfl (hs2.ad))<|VW.op0 (fun wq eq=>rla ag22 rfl (((hs2.ext eq).row elt (i:=k) (by omega) (by omega)).c0a rfl))<|VW.op (fun wq eq=>iX ru23 sz22 rfl rfl hs2.ad)<|VW.wr0 (fun wq eq=>R.storeSt elt sz22 (hs2.ext eq) rfl (i:=k) (by omega) (by omega) rfl)<|VW.nil fun w3 hs3=>Vo (iX ru23 sz22 rfl rfl hs2.ad)<|VL.storeSt elt sz22 hs3 rfl (i:=k-1) (j:=((k:Int)-1).toNat) (by omega) (by rw [Array.size_setIfInBounds];exact (by omega)) rfl fun w4 hs4=>Vn<|Vr<|oI rfl<|Vo (R.sub rfl rfl (by omega) (by omega))<|oJ rfl<|Vn (⟨k-1,?_,⟨by omega,by omega,?_⟩,by omega⟩)) (fun c110=>Ve<|Vt (fret0 rfl (?_)))
   ·rw [show ((k-1:Nat):Int)=(k:Int)-1 by omega];rfl
   ·rw [←hst (by omega) (by omega)];exact hs4
   ·have hk:k=j:=by omega
    rw [hk] at hg
    subst hg
    exact ⟨_,rfl,rot_perm d j M (M+1) g3 (by omega) (by omega) |> fun p=>permIn_mono d _ j (M+1) A (M+1) g1 (Nat.le_refl _) (by omega) p,merge_last hO (by omega) o1 ht g1 g3 g5 g4,hs2⟩
 ·obtain ⟨md,hmd⟩:∃ md,md=(A+B) / 2:=⟨_,rfl⟩
  refine Vr<|oI rfl<|oI rfl<|oD rfl rfl<|Vo (R.conv ru3 ru108 rfl (wrap_u64 (by omega) (by omega)))<|Vo (R.half (a:=(A+B)) rfl rfl)<|Vo (R.conv ru108 ru3 rfl (wrap_i64 (by omega) (by omega)))<|oJ rfl<|Vn<|Vs (?_)
  rw [←hmd]
  refine Vr<|oI rfl<|oI rfl<|oD rfl rfl<|oJ rfl<|Vn<|Vs<|Vr<|oJ rfl<|oJ rfl<|Vn<|V.cut [0,1,2,3,4,18,19,20,21] (fun x:Nat×Nat=>[.slice a n cap,.int .i64 A,.int .i64 M,.int .i64 B,.func (.func g) #[] cb.toArray,.int .i64 md,.int .i64 (md+M:Nat),.int .i64 x.1,.int .i64 x.2]) (fun x w'=>Ext w w'∧((md<M∧x.1=md+M-B∧x.2=md)∨(M≤md∧x.1=A∧x.2=M))) (Vs<|Vr<|oI rfl<|oI rfl<|Vo (R.gtr rfl rfl)<|Vn<|Vd rfl (fun c140=>Vs<|Vr<|oI rfl<|oI rfl<|Vo (R.subE (z:=((md+M-B:Nat):Int)) rfl rfl (by omega) (by omega) (by omega))<|oJ rfl<|Vn<|Vr<|oI rfl<|oJ rfl<|Vn (?_)) (fun c140=>Vs<|Vr<|oI rfl<|oJ rfl<|Vn<|Vr<|oI rfl<|oJ rfl<|Vn (?_))) (fun rgC140 xC140 wBC140 hBC140=>Vs (?_))
  ·exact ⟨(md+M-B,md),rfl,Mod.refl _ _,.inl ⟨by omega,rfl,rfl⟩⟩
  ·exact ⟨(A,M),rfl,Mod.refl _ _,.inr ⟨by omega,rfl,rfl⟩⟩
  obtain ⟨s0,r0⟩:=xC140
  obtain ⟨e0,hsr⟩:=hBC140
  dsimp only at e0 hsr ⊢
  refine Vr<|oI rfl<|Vo (R.subE (z:=((md+M-1:Nat):Int)) rfl rfl (by omega) (by omega) (by omega))<|oJ rfl<|Vn<|Vs<|Vb (?_)
  refine Vl [0,1,2,3,4,18,19,20,21,22] (fun x:Nat×Nat=>[.slice a n cap,.int .i64 A,.int .i64 M,.int .i64 B,.func (.func g) #[] cb.toArray,.int .i64 md,.int .i64 (md+M:Nat),.int .i64 x.1,.int .i64 x.2,.int .i64 (md+M-1:Nat)])
   (fun x w'=>s0≤x.1∧x.1≤x.2∧x.2≤r0∧(x.1=s0∨ltf cf d[md+M-1-(x.1-1)]!.1 d[x.1-1]!.1=false)∧(x.2=r0∨ltf cf d[md+M-1-x.2]!.1 d[x.2]!.1=true)∧Ext w w') (fun x=>x.2-x.1) (s0,r0) rfl ⟨Nat.le_refl _,by dsimp only;omega,Nat.le_refl _,.inl rfl,.inl rfl,e0⟩ ?_
  rintro ρ ⟨s,r⟩ w1 ⟨g1,g2,g3,g4,g5,e⟩
  dsimp only at g1 g2 g3 g4 g5 e ⊢
  have hs1:=hs.ext e
  obtain ⟨c,hc⟩:∃ c,c=(s+r) / 2:=⟨_,rfl⟩
  refine Vs<|Vs<|Vr<|oI rfl<|oI rfl<|oL rfl rfl<|Vn<|Vd rfl (fun c151=>Vk<|Vb<|Vs<|Vr<|oI rfl<|oI rfl<|oD rfl rfl<|Vo (R.conv ru3 ru108 rfl (wrap_u64 (by omega) (by omega)))<|Vo (R.half (a:=(s+r)) rfl rfl)<|Vo (R.conv ru108 ru3 rfl (wrap_i64 (by omega) (by omega)))<|oJ rfl<|Vn<|Vs (?_)) (fun c151=>Ve<|Vs (?_))
  ·rw [←hc]
   refine rQ 14 (Vq (fun wq eq=>R.mvF rfl)<|qS rfl<|qI rfl<|qI rfl<|Vq (fun wq eq=>R.subE (z:=((md+M-1-c:Nat):Int)) rfl rfl (by omega) (by omega) (by omega))<|Vq (fun wq eq=>iX ru23 sz22 rfl rfl (hs1.ad))<|Vq (fun wq eq=>rla ag22 rfl (((hs1.ext eq).row elt (i:=md+M-1-c) (by omega) (by omega)).c0a rfl))<|qS rfl<|qI rfl<|Vq (fun wq eq=>iX ru23 sz22 rfl rfl (hs1.ad))<|Vq (fun wq eq=>rla ag22 rfl (((hs1.ext eq).row elt (i:=c) (by omega) (by omega)).c0a rfl))<|VQ.callCP (fun _ _ h k=>Mod.trans h k) rfl (hC.fn) rfl (fun wq eq=>hC.spec wq (hs1.ext eq).m _ _)<|Vq (fun wq eq=>R.lss rfl rfl)<|Vq (fun wq eq=>R.notD rfl)<|Vj fun w35q e35q=>Vn<|Vd rfl (fun c171=>Vr<|oI rfl<|oD rfl rfl<|oJ rfl<|Vn (?_)) (fun c171=>Vr<|oI rfl<|oJ rfl<|Vn (?_)))
   ·exact ⟨(c+1,r),rfl,⟨by dsimp only;omega,by dsimp only;omega,g3,.inr (decide_eq_false c171),g5,e.trans e35q⟩,by dsimp only;omega⟩
   ·exact ⟨(s,c),rfl,⟨g1,by dsimp only;omega,by dsimp only;omega,g4,.inr (decide_eq_true (Classical.not_not.1 c171)),e.trans e35q⟩,by dsimp only;omega⟩
  ·have hrs:r=s:=by omega
   subst hrs
   obtain ⟨en,hen⟩:∃ en,en=md+M-r:=⟨_,rfl⟩
   have b1:A≤r∧r≤M∧r≤md∧M≤en∧en≤B∧r+(en-M)=md∧A<md∧md<B:=by
    rcases hsr with h | h <;> omega
   obtain ⟨b1,b2,b3,b4,b5,b6,b7,b8⟩:=b1
   have c1:r=M∨en=M∨ltf cf d[en-1]!.1 d[r]!.1=true:=by
    rcases g5 with h | h
    ·rcases hsr with k | k
     ·right;left;omega
     ·left;omega
    ·right;right
     rwa [show md+M-1-r=en-1 by omega] at h
   have c2:r=A∨en=B∨ltf cf d[en]!.1 d[r-1]!.1=false:=by
    rcases g4 with h | h
    ·rcases hsr with k | k
     ·right;left;omega
     ·left;omega
    ·by_cases h0:r=0
     ·left;omega
     ·right;right
      rwa [show md+M-1-(r-1)=en by omega] at h
   obtain ⟨⟨m1,m2,m3⟩,⟨m4,m5,m6⟩,m7⟩:=merge_rot hO (s:=r) (e:=en) (by omega) b1 b2 b4 b5 o1 o2 ht c1 c2
   rw [b6] at m2 m3 m4 m6 m7
   have pr1:=permIn_mono _ _ r en A B b1 b5 (by omega) (rot_perm d r M en b2 b4 (by omega))
   obtain ⟨d1,hd1⟩:∃ d1,d1=ixm d (rotI r M en):=⟨_,rfl⟩
   have hd1i:¬(r<M∧M<en)→d1=d:=fun h=>by rw [hd1];exact ixm_id d fun k _=>by unfold rotI;(repeat' split) <;> omega
   rw [←hd1] at m1 m2 m3 m4 m5 m6 m7 pr1
   have hz1:d1.size=n:=by rw [hd1,ixm_size];exact hn
   refine Vr<|oI rfl<|oI rfl<|Vo (R.subE (z:=((en:Nat):Int)) rfl rfl (by omega) (by omega) (by omega))<|oJ rfl<|Vn<|V.cut [0,1,3,4,18,20,24] (fun _:Unit=>[.slice a n cap,.int .i64 A,.int .i64 B,.func (.func g) #[] cb.toArray,.int .i64 md,.int .i64 r,.int .i64 en]) (fun _ w'=>(Srt (enS pr) 1 w0 a d1) w') (Vs<|V.regionCut [178,179,180,181,182,183,184,185] 185 (.bool (decide (r<M∧M<en))) (fun w'=>Ext _ w') rfl (oI rfl<|oI rfl<|oL rfl rfl<|oB rfl<|VL.andP rfl rfl (fun g39_3=>oI rfl<|lT<|oI rfl<|lT<|oL rfl rfl<|oP rfl rfl<|VL.nil ⟨rfl,cutB rfl ?_,Mod.refl _ _⟩) (fun g39_3=>lF<|lF<|oQ rfl rfl<|VL.nil ⟨rfl,cutB rfl ?_,Mod.refl _ _⟩)) (fun rg39 w39c e39c=>Vd rfl (fun c185=>Vr<|oS rfl<|oI rfl<|oI rfl<|oI rfl<|Vo (R.mvF rfl)<|VL.callK call170 rfl (rot_spec elt g cb cap n r M en d _ (hs1.ext e39c) hn hb (by omega) (by omega) (by omega)) fun w2 hs2=>Vn (⟨(),rfl,?_⟩)) (fun c185=>Vk (⟨(),rfl,?_⟩)))) (fun rgC185 _ wBC185 hBC185=>V.cut [0,3,4,18,24] (fun d2:Array (β×Nat)=>[.slice a n cap,.int .i64 B,.func (.func g) #[] cb.toArray,.int .i64 md,.int .i64 en]) (fun d2 w'=>PermIn A md d1 d2∧SortedIn (lx (ltf cf)) A md d2∧Srt (enS pr) 1 w0 a d2 w') (Vs<|V.regionCut [192,193,194,195,196,197,198,199] 199 (.bool (decide (A<r∧r<md))) (fun w'=>Ext _ w') rfl (oI rfl<|oI rfl<|oL rfl rfl<|oB rfl<|VL.andP rfl rfl (fun g41_3=>oI rfl<|lT<|oI rfl<|lT<|oL rfl rfl<|oP rfl rfl<|VL.nil ⟨rfl,cutB rfl ?_,Mod.refl _ _⟩) (fun g41_3=>lF<|lF<|oQ rfl rfl<|VL.nil ⟨rfl,cutB rfl ?_,Mod.refl _ _⟩)) (fun rg41 w41c e41c=>Vd rfl (fun c199=>Vr<|oS rfl<|oI rfl<|oI rfl<|oI rfl<|Vo (R.mvF rfl)<|VL.callY call157 rfl (ih A r md d1 _ (by omega) (hBC185.ext e41c) hz1 (by omega) (by omega) (by omega) m1 m2 m3) fun d2 w3 ⟨p2,q2,hs3⟩=>Vn (?_)) (fun c199=>Vk (?_)))) (fun rgC199 xC199 wBC199 hBC199=>Vs (?_)))
   ·exact decide_eq_decide.2 (by omega)
   ·exact (decide_eq_false (by omega)).symm
   ·rw [hd1];exact hs2
   ·rw [hd1i c185];exact hs1.ext (by assumption)
   ·exact decide_eq_decide.2 (by omega)
   ·exact (decide_eq_false (by omega)).symm
   ·exact ⟨d2,rfl,p2,q2,hs3⟩
   ·refine ⟨d1,rfl,permIn_refl _ _ _,?_,hBC185.ext (by assumption)⟩
    by_cases hA:A<r
    ·have:r=md:=by omega
     rw [←this];exact m1
    ·have:r=A:=by omega
     rw [←this];exact m2
   ·obtain ⟨p2,q2,hs2⟩:=hBC199
    have hz2:xC199.size=n:=p2.1.trans hz1
    have n4:=sorted_perm m4 p2 (.inr (Nat.le_refl _))
    have n5:=sorted_perm m5 p2 (.inr (by omega))
    have n6:Tg md en B xC199:=fun x y hx1 hx2 hy1 hy2=>by
     rw [p2.2.1 x (.inr hx1),p2.2.1 y (.inr (by omega))]
     exact m6 x y hx1 hx2 hy1 hy2
    have n7:=cross_perm (R:=fun x y=>lx (ltf cf) y x=false) (by omega) (by omega) (by omega) m7 p2
    have pr2:=permIn_trans _ _ _ _ _ pr1 (permIn_mono _ _ A md A B (Nat.le_refl _) (by omega) (by omega) p2)
    refine V.regionCut [206,207,208,209,210,211,212,213] 213 (.bool (decide (md<en∧en<B))) (fun w'=>Ext _ w') rfl (oI rfl<|oI rfl<|oL rfl rfl<|oB rfl<|VL.andP rfl rfl (fun g43_3=>oI rfl<|lT<|oI rfl<|lT<|oL rfl rfl<|oP rfl rfl<|VL.nil ⟨rfl,cutB rfl ?_,Mod.refl _ _⟩) (fun g43_3=>lF<|lF<|oQ rfl rfl<|VL.nil ⟨rfl,cutB rfl ?_,Mod.refl _ _⟩)) (fun rg43 w43c e43c=>Vd rfl (fun c213=>Vr<|oS rfl<|oI rfl<|oI rfl<|oI rfl<|Vo (R.mvF rfl)<|VL.callY call157 rfl (ih md en B xC199 _ (by omega) (hs2.ext e43c) hz2 (by omega) (by omega) (by omega) n4 n5 n6) fun d3 w3 ⟨p3,q3,hs3⟩=>Vn (fend0 rfl (?_))) (fun c213=>Vk (fend0 rfl (?_))))
    ·exact decide_eq_decide.2 (by omega)
    ·exact (decide_eq_false (by omega)).symm
    ·refine ⟨d3,rfl,permIn_trans _ _ _ _ _ pr2 (permIn_mono _ _ md B A B (by omega) (Nat.le_refl _) (by omega) p3),sorted_join (sorted_perm q2 p3 (.inl (Nat.le_refl _))) q3 ?_,hs3⟩
     exact cross_perm2 (R:=fun x y=>lx (ltf cf) y x=false) (by omega) (by omega) (by omega) n7 p3
    ·refine ⟨xC199,rfl,pr2,sorted_join q2 ?_ n7,hs2.ext e43c⟩
     by_cases hA:md<en
     ·have:en=B:=by omega
      rw [←this];exact n4
     ·have:en=md:=by omega
      rw [←this];exact n5
end
end StbL
end Go.Proofs.YtdkhcipjenfcnaaGreatDoor
/- slices.SortStableFunc: the blocks, and the function itself. -/
namespace Go.Proofs.YtdkhcipjenfcnaaGreatDoor
open Go.Proofs.Tryz
set_option maxRecDepth 100000
set_option maxHeartbeats 16000000
namespace StbL
set_option maxRecDepth 100000
set_option maxHeartbeats 16000000
open Go.Vc Go.Sort
section
variable {β:Type} [Inhabited β] {pr:β×Nat→Option Addr×Nat×Nat} {a:Option Addr} {w0:World} {g:Nat} {cb:List Value} {cf:β→β→Int}
theorem stable_spec (hC:CmpOk pr a w0 g cb (fun x y:β×Nat=>cf x.1 y.1)) (hO:SWO (ltf cf)) (cap n:Nat) (hb:n≤288230376151711744) (d:Array (β×Nat)) (w:World) (hs:Srt (enS pr) 1 w0 a d w) (hn:d.size=n) (ht:∀ i j,i<j→j<n→d[i]!.2<d[j]!.2) :
  RetsY prog 147 #[.slice a n cap,.int .i64 n,.func (.func g) #[] cb.toArray] w (fun _:Array (β×Nat)=>.tuple #[]) (fun d' w'=>PermIn 0 n d d'∧SortedIn (lx (ltf cf)) 0 n d'∧Srt (enS pr) 1 w0 a d' w'):=by
 have elt:=hC.elt
 refine eN (args:=[_,_,_]) func147 rfl ntmps147 ?_
 refine Vs<|Vr<|oJ rfl<|Vn<|Vs<|Vr<|oI rfl<|oJ rfl<|oJ rfl<|Vn<|Vs<|Vb (?_)
 refine Vl [0,1,2,6,7,8] (fun x:Nat×Array (β×Nat)=>[.slice a n cap,.int .i64 n,.func (.func g) #[] cb.toArray,.int .i64 20,.int .i64 x.1,.int .i64 (x.1+20:Nat)])
  (fun x w'=>x.1≤n∧PermIn 0 n d x.2∧Ins (ltf cf) 20 n x.1 x.2∧Srt (enS pr) 1 w0 a x.2 w') (fun x=>n-x.1) (0,d) rfl ⟨Nat.zero_le _,permIn_refl _ _ _,⟨Bd.zero _,fun x _ h=>absurd h (Nat.not_lt_zero x),fun x _ i j _ h1 h2 h3=>ht i j (by omega) h3,fun i j _ h2 h3=>ht i j h2 h3⟩,hs⟩ ?_
 rintro ρ ⟨A,d1⟩ w1 ⟨g1,g2,g3,hs1⟩
 dsimp only at g1 g2 g3 hs1 ⊢
 have hz1:d1.size=n:=g2.1.trans hn
 have hins:=fun B h1 h2=>ins_stable hO d1 A B h1 h2 fun k l k1 k2 k3=>g3.rest k l k1 k2 (by omega)
 refine Vs<|Vs<|Vr<|oI rfl<|oI rfl<|Vo (R.leq rfl rfl)<|Vn<|Vd rfl (fun c13=>Vk<|Vb<|Vs (?_)) (fun c13=>Ve<|Vs (?_))
 ·have hp:=hins (A+20) (by omega) (by omega)
  refine Vr<|oS rfl<|oI rfl<|oI rfl<|Vo (R.mvF rfl)<|VL.callK call156 rfl (ins_spec hC cap A (A+20) n d1 _ (hs1.ext (Mod.refl _ _)) hz1 (by omega) (by omega) (by omega)) fun w2 hs2=>Vn<|Vs<|Vr<|oI rfl<|oJ rfl<|Vn<|Vr<|oI rfl<|oI rfl<|oD rfl rfl<|oJ rfl<|Vn (⟨(A+20,insertionSort (ltf fun x y:β×Nat=>cf x.1 y.1) d1 A (A+20)),rfl,⟨by dsimp only;omega,?_,?_,hs2⟩,by dsimp only;omega⟩)
  ·exact permIn_trans _ _ _ _ _ g2 (permIn_mono _ _ A (A+20) 0 n (Nat.zero_le _) (by omega) (by omega) hp.1)
  ·exact g3.step (by omega) rfl (by omega) hp.1 hp.2
 ·have hp:=hins n g1 (by omega)
  refine Vr<|oS rfl<|oI rfl<|oI rfl<|Vo (R.mvF rfl)<|VL.callK call156 rfl (ins_spec hC cap A n n d1 _ (hs1.ext (Mod.refl _ _)) hz1 (by omega) (by omega) (by omega)) fun w2 hs2=>Vn<|Vb (?_)
  have hP:=g3.last (by omega) (by omega) g1 (by omega) hp.1 hp.2
  have hp0:=permIn_trans _ _ _ _ _ g2 (permIn_mono _ _ A n 0 n (Nat.zero_le _) (by omega) (by omega) hp.1)
  have hs2:Srt (enS pr) 1 w0 a (insertionSort (ltg (ltf cf)) d1 A n) w2:=hs2
  obtain ⟨d2,hd2⟩:∃ d2,d2=insertionSort (ltg (ltf cf)) d1 A n:=⟨_,rfl⟩
  rw [←hd2] at hP hp0 hs2
  clear hp hins g3 g2 hs1 hz1 hs
  refine Vl [0,1,2,6] (fun x:Nat×Array (β×Nat)=>[.slice a n cap,.int .i64 n,.func (.func g) #[] cb.toArray,.int .i64 x.1])
   (fun x w'=>20≤x.1∧x.1≤20+2*n∧PermIn 0 n d x.2∧Ph (ltf cf) x.1 n x.2∧Srt (enS pr) 1 w0 a x.2 w') (fun x=>n-x.1) (20,d2) rfl ⟨Nat.le_refl _,by dsimp only;omega,hp0,hP,hs2⟩ ?_
  rintro ρ ⟨sz,d3⟩ w3 ⟨k1,k2,k3,k4,hs3⟩
  dsimp only at k1 k2 k3 k4 hs3 ⊢
  refine Vs<|Vs<|Vr<|oI rfl<|oI rfl<|oL rfl rfl<|Vn<|Vd rfl (fun c30=>Vk<|Vb<|Vs (?_)) (fun c30=>Ve (fend0 rfl (?_)))
  ·have hszn:sz<n:=by omega
   refine Vr<|oI rfl<|Vo (R.mul rfl rfl (by omega) (by omega))<|oJ rfl<|oJ rfl<|Vn<|Vs<|Vb (?_)
   refine Vl [0,1,2,6,7,8] (fun x:Nat×Array (β×Nat)=>[.slice a n cap,.int .i64 n,.func (.func g) #[] cb.toArray,.int .i64 sz,.int .i64 x.1,.int .i64 (x.1+2*sz:Nat)])
    (fun x w'=>x.1≤n∧PermIn 0 n d x.2∧Mrg (ltf cf) sz n x.1 x.2∧Srt (enS pr) 1 w0 a x.2 w') (fun x=>n-x.1) (0,d3) (by rw [Nat.zero_add];rfl) ⟨Nat.zero_le _,k3,k4.mrg,hs3⟩ ?_
   rintro ρ ⟨A2,d4⟩ w4 ⟨q1,q2,q3,hs4⟩
   dsimp only at q1 q2 q3 hs4 ⊢
   have hz4:d4.size=n:=q2.1.trans hn
   have o1:=q3.srt A2 q3.bd.two (Nat.le_refl _)
   have o2:=q3.srt (A2+sz) q3.bd.two.next (by omega)
   have ot:=q3.tg (A2+sz) q3.bd.two.next (by omega)
   refine Vs<|Vs<|Vr<|oI rfl<|oI rfl<|Vo (R.leq rfl rfl)<|Vn<|Vd rfl (fun c35=>Vk<|Vb<|Vs (?_)) (fun c35=>Ve<|Vs<|Vs (?_))
   ·rw [show min (A2+sz) n=A2+sz by omega] at o1
    rw [show min (A2+sz+sz) n=A2+2*sz by omega] at o2
    refine Vr<|oS rfl<|oI rfl<|oI rfl<|oI rfl<|oD rfl rfl<|oI rfl<|Vo (R.mvF rfl)<|VL.callY call157 rfl (sym_spec hC hO cap n (by omega) (2*sz+1) A2 (A2+sz) (A2+2*sz) d4 _ (by omega) (hs4.ext (Mod.refl _ _)) hz4 (by omega) (by omega) (by omega) o1 o2 (ot.sub (Nat.zero_le _) (by omega))) fun d5 w5 ⟨p5,o5,hs5⟩=>Vn<|Vs<|Vr<|oI rfl<|oJ rfl<|Vn<|Vr<|oI rfl<|oI rfl<|Vo (R.mul rfl rfl (by omega) (by omega))<|oD rfl rfl<|oJ rfl<|Vn (⟨(A2+2*sz,d5),rfl,⟨by dsimp only;omega,?_,?_,hs5⟩,by dsimp only;omega⟩)
    ·exact permIn_trans _ _ _ _ _ q2 (permIn_mono _ _ A2 (A2+2*sz) 0 n (Nat.zero_le _) (by omega) (by omega) p5)
    ·exact q3.step (by omega) (by omega) rfl (by omega) p5 o5
   ·refine Vr<|oI rfl<|oI rfl<|oD rfl rfl<|oJ rfl<|Vn<|Vs<|Vr<|oI rfl<|oI rfl<|oL rfl rfl<|Vn<|Vd rfl (fun c54=>?_) (fun c54=>Vk (?_))
    ·rw [show min (A2+sz) n=A2+sz by omega] at o1
     rw [show min (A2+sz+sz) n=n by omega] at o2
     refine Vr<|oS rfl<|oI rfl<|oI rfl<|oI rfl<|Vo (R.mvF rfl)<|VL.callY call157 rfl (sym_spec hC hO cap n (by omega) (n+1) A2 (A2+sz) n d4 _ (by omega) (hs4.ext (Mod.refl _ _)) hz4 (by omega) (by omega) (by omega) o1 o2 (ot.sub (Nat.zero_le _) (by omega))) fun d5 w5 ⟨p5,o5,hs5⟩=>Vn (?_)
     refine Vr<|oI rfl<|Vo (R.mul rfl rfl (by omega) (by omega))<|oJ rfl<|Vn (⟨(2*sz,d5),?_,⟨by dsimp only;omega,by dsimp only;omega,?_,?_,hs5⟩,by dsimp only;omega⟩)
     ·rw [show ((2*sz:Nat):Int)=(sz:Int)*2 by omega];rfl
     ·exact permIn_trans _ _ _ _ _ q2 (permIn_mono _ _ A2 n 0 n (Nat.zero_le _) (by omega) (by omega) p5)
     ·exact q3.last (by omega) (by omega) q1 (by omega) p5 o5
    ·rw [show min (A2+sz) n=n by omega] at o1
     refine Vr<|oI rfl<|Vo (R.mul rfl rfl (by omega) (by omega))<|oJ rfl<|Vn (⟨(2*sz,d4),?_,⟨by dsimp only;omega,by dsimp only;omega,q2,?_,hs4⟩,by dsimp only;omega⟩)
     ·rw [show ((2*sz:Nat):Int)=(sz:Int)*2 by omega];rfl
     ·exact q3.last (by omega) (by omega) q1 (by omega) (permIn_refl _ _ _) o1
  ·have:=k4.srt 0 (Bd.zero _)
   rw [show min (0+sz) n=n by omega] at this
   exact ⟨d3,rfl,k3,this,hs3⟩
theorem sortStable_spec (hC:CmpOk pr a w0 g cb (fun x y:β×Nat=>cf x.1 y.1)) (hO:SWO (ltf cf)) (cap n:Nat) (hb:n≤288230376151711744) (d:Array (β×Nat)) (w:World) (hs:Srt (enS pr) 1 w0 a d w) (hn:d.size=n) (ht:∀ i j,i<j→j<n→d[i]!.2<d[j]!.2) :
  RetsY prog 130 #[.slice a n cap,.func (.func g) #[] cb.toArray] w (fun _:Array (β×Nat)=>.tuple #[]) (fun d' w'=>PermIn 0 n d d'∧SortedIn (lx (ltf cf)) 0 n d'∧Srt (enS pr) 1 w0 a d' w'):=by
 refine eN (args:=[_,_]) func130 rfl ntmps130 ?_
 refine Vr<|oS rfl<|oS rfl<|Vo (R.lenS ru23 rfl)<|Vo (R.mvF rfl)<|VL.callY call147 rfl (stable_spec hC hO cap n hb d _ (hs.ext (Mod.refl _ _)) hn ht) fun d1 w1 ⟨p1,q1,hs1⟩=>Vn (fend0 rfl (⟨d1,rfl,p1,q1,hs1⟩))
end
end StbL
end Go.Proofs.YtdkhcipjenfcnaaGreatDoor
