/- slices.SortFunc: the heap. -/
import Derived.Test.YtdkhcipjenfcnaaGreatDoorXZlT3
namespace Go.Proofs.YtdkhcipjenfcnaaGreatDoor
open Go.Proofs.Tryz
set_option maxRecDepth 100000
set_option maxHeartbeats 16000000
namespace StbL
set_option maxRecDepth 100000
set_option maxHeartbeats 16000000
open Go.Vc Go.Sort
variable {α:Type} [Inhabited α]
section
variable {pr:α→Option Addr×Nat×Nat} {a:Option Addr} {w0:World} {g:Nat} {cb:List Value} {cf:α→α→Int}
def chB (lt:α→α→Bool) (hi first r:Nat) (d:Array α):Bool:=decide (2*r+2<hi)&&lt d[first+(2*r+1)]! d[first+(2*r+1)+1]!
def chF (lt:α→α→Bool) (hi first r:Nat) (d:Array α):Nat:=if chB lt hi first r d=true then 2*r+2 else 2*r+1
theorem chF_le (lt:α→α→Bool) (hi first r:Nat) (d:Array α) (h:2*r+1<hi):chF lt hi first r d<hi∧r<chF lt hi first r d:=by
 unfold chF chB
 split
 ·rename_i h;simp at h;omega
 ·omega
theorem sift_end (lt:α→α→Bool) (hi first r:Nat) (d:Array α) (h:hi≤2*r+1):siftDown lt hi first r d=d:=by
 rw [siftDown,dif_pos h]
theorem sift_stop (lt:α→α→Bool) (hi first r:Nat) (d:Array α) (h:lt d[first+r]! d[first+chF lt hi first r d]! = false):siftDown lt hi first r d=d:=by
 rw [siftDown]
 split
 ·rfl
 ·unfold chF chB at h
  split
  ·rename_i h1
   rw [if_pos h1] at h
   rw [h];rfl
  ·rename_i h1
   rw [if_neg h1] at h
   rw [h];rfl
theorem sift_step (lt:α→α→Bool) (hi first r:Nat) (d:Array α) (h0:2*r+1<hi) (h:lt d[first+r]! d[first+chF lt hi first r d]! = true) :
  siftDown lt hi first r d=siftDown lt hi first (chF lt hi first r d) (swp d (first+r) (first+chF lt hi first r d)):=by
 rw [siftDown]
 rw [dif_neg (by omega)]
 have hle:=(chF_le lt hi first r d h0).1
 unfold chF chB at h hle ⊢
 by_cases h1:(decide (2*r+2<hi)&&lt d[first+(2*r+1)]! d[first+(2*r+1)+1]!)=true
 ·rw [if_pos h1] at h hle ⊢
  have h1':(decide (2*r+1+1<hi)&&lt d[first+(2*r+1)]! d[first+(2*r+1)+1]!)=true:=h1
  rw [if_pos h1',h,dif_pos hle];rfl
 ·rw [if_neg h1] at h hle ⊢
  have h1':¬(decide (2*r+1+1<hi)&&lt d[first+(2*r+1)]! d[first+(2*r+1)+1]!)=true:=h1
  rw [if_neg h1',h];rfl
theorem sift_spec (hC:CmpOk pr a w0 g cb cf) (cap lo hi first n:Nat) (d:Array α) (w:World) (hs:Srt (enS pr) 1 w0 a d w) (hn:d.size=n) (hb:n≤1152921504606846976) (hlo:lo≤hi) (hf:first+hi≤n) :
  RetsK prog 173 #[.slice a n cap,.int .i64 lo,.int .i64 hi,.int .i64 first,.func (.func g) #[] cb.toArray] w (.tuple #[]) (Srt (enS pr) 1 w0 a (siftDown (ltf cf) hi first lo d)):=by
 have elt:=hC.elt
 refine eN (args:=[_,_,_,_,_]) func173 rfl ntmps173 ?_
 refine Vs<|Vr<|oI rfl<|oJ rfl<|Vn<|Vb (?_)
 refine Vl [0,2,3,4,10] (fun x:Nat×Array α=>[.slice a n cap,.int .i64 hi,.int .i64 first,.func (.func g) #[] cb.toArray,.int .i64 x.1])
  (fun x w'=>x.1≤hi∧x.2.size=n∧siftDown (ltf cf) hi first x.1 x.2=siftDown (ltf cf) hi first lo d∧Srt (enS pr) 1 w0 a x.2 w') (fun x=>hi-x.1) (lo,d) rfl ⟨hlo,hn,rfl,hs⟩ ?_
 rintro ρ ⟨r,d1⟩ w1 ⟨h1,h2,h3,hs1⟩
 dsimp only at h1 h2 h3 hs1 ⊢
 refine Vb<|Vs<|Vr<|oI rfl<|Vo (R.mul rfl rfl (by omega) (by omega))<|oD rfl rfl<|oJ rfl<|Vn<|Vs<|Vs<|Vr<|oI rfl<|oI rfl<|Vo (R.geq rfl rfl)<|Vn<|Vd rfl (fun c18=>Ve (fend0 rfl (⟨rfl,(hs1.ext (Mod.refl _ _)).to ?_⟩))) (fun c18=>Vk<|V.cut [0,2,3,4,10,11] (fun _:Unit=>[.slice a n cap,.int .i64 hi,.int .i64 first,.func (.func g) #[] cb.toArray,.int .i64 r,.int .i64 (chF (ltf cf) hi first r d1)]) (fun _ w'=>Ext _ w'∧(r<chF (ltf cf) hi first r d1∧chF (ltf cf) hi first r d1<hi)) (Vs<|V.regionQCut mixed 22 (by kernel_rfl) rfl (fun w'=>Ext _ w') (Ext.drawn _) [19,20,21,22,23,24,25,26,27,28,29,30,31,32,33,34,35,36,37,38,39,40] 40 (.bool (chB (ltf cf) hi first r d1)) rfl (qI rfl<|Vq (fun wq eq=>R.add rfl rfl (by omega) (by omega))<|qI rfl<|Vq (fun wq eq=>R.lss rfl rfl)<|Vq (fun wq eq=>R.mvB rfl)<|VQ.andP rfl rfl (fun g3_4=>Vq (fun wq eq=>R.mvF rfl)<|qT<|qS rfl<|qT<|qI rfl<|qT<|qI rfl<|qT<|Vq (fun wq eq=>R.add rfl rfl (by omega) (by omega))<|qT<|Vq (fun wq eq=>iX ru23 sz22 rfl rfl (hs1.ad))<|qT<|Vq (fun wq eq=>rla ag22 rfl ((hs1.ext eq).cellS (i:=first+(2*r+1)) (by omega) (by omega)))<|qT<|qS rfl<|qT<|qI rfl<|qT<|qI rfl<|qT<|Vq (fun wq eq=>R.add rfl rfl (by omega) (by omega))<|qT<|Vq (fun wq eq=>R.add rfl rfl (by omega) (by omega))<|qT<|Vq (fun wq eq=>iX ru23 sz22 rfl rfl (hs1.ad))<|qT<|Vq (fun wq eq=>rla ag22 rfl ((hs1.ext eq).cellS (i:=first+(2*r+1)+1) (by omega) (by omega)))<|qT<|VQ.callCP (fun _ _ h k=>Mod.trans h k) rfl (hC.fn) rfl (fun wq eq=>hC.spec wq (hs1.ext eq).m _ _)<|qT<|Vq (fun wq eq=>R.lss rfl rfl)<|Vq (fun wq eq=>R.pickTB rfl rfl)<|Vj (cutB rfl ?_)) (fun g3_4=>qF<|qF<|qF<|qF<|qF<|qF<|qF<|qF<|qF<|qF<|qF<|qF<|qF<|qF<|qF<|Vq (fun wq eq=>R.pickFB rfl rfl)<|Vj (cutB rfl ?_))) (fun rg3 w3c e3c=>Vh rfl (fun c40=>Vr<|oI rfl<|oD rfl rfl<|oJ rfl<|Vn (⟨(),?_,⟨e3c,?_⟩⟩)) (fun c40=>Vk (⟨(),?_,⟨e3c,?_⟩⟩)))) (fun rgC40 _ wBC40 ⟨eBC40,hBC40⟩=>Vs<|Vs<|V.regionQCut mixed 16 (by kernel_rfl) rfl (fun w'=>Ext _ w') (Ext.drawn _) [43,44,45,46,47,48,49,50,51,52,53,54,55,56,57,58] 58 (.bool (!ltf cf d1[first+r]! d1[first+chF (ltf cf) hi first r d1]!)) rfl (Vq (fun wq eq=>R.mvF rfl)<|qS rfl<|qI rfl<|qI rfl<|Vq (fun wq eq=>R.add rfl rfl (by omega) (by omega))<|Vq (fun wq eq=>iX ru23 sz22 rfl rfl (hs1.ad))<|Vq (fun wq eq=>rla ag22 rfl ((hs1.ext (eBC40.trans eq)).cellS (i:=first+r) (by omega) (by omega)))<|qS rfl<|qI rfl<|qI rfl<|Vq (fun wq eq=>R.add rfl rfl (by omega) (by omega))<|Vq (fun wq eq=>iX ru23 sz22 rfl rfl (hs1.ad))<|Vq (fun wq eq=>rla ag22 rfl ((hs1.ext (eBC40.trans eq)).cellS (i:=first+chF (ltf cf) hi first r d1) (by omega) (by omega)))<|VQ.callCP (fun _ _ h k=>Mod.trans h k) rfl (hC.fn) rfl (fun wq eq=>hC.spec wq (hs1.ext (eBC40.trans eq)).m _ _)<|Vq (fun wq eq=>R.lss rfl rfl)<|Vq (fun wq eq=>R.notD rfl)<|Vj (cutB rfl ?_)) (fun rg5 w5c e5c=>Vh rfl (fun c58=>Vt (fret0 rfl (⟨rfl,(hs1.ext (eBC40.trans e5c)).to ?_⟩))) (fun c58=>Vk<|Vs<|V.regionW mixed 22 21 (by kernel_rfl) rfl (fun w'=>Ext _ w') (fun w'=>Srt (enS pr) 1 w0 a (d1.setIfInBounds (first+r) d1[first+chF (ltf cf) hi first r d1]!) w') (Ext.drawn _)<|wS rfl<|wI rfl<|wI rfl<|VW.op (fun wq eq=>R.add rfl rfl (by omega) (by omega))<|wS rfl<|wI rfl<|wI rfl<|VW.op (fun wq eq=>R.add rfl rfl (by omega) (by omega))<|wS rfl<|wI rfl<|wI rfl<|VW.op (fun wq eq=>R.add rfl rfl (by omega) (by omega))<|VW.op (fun wq eq=>iX ru23 sz22 rfl rfl (hs1.ad))<|VW.op0 (fun wq eq=>rla ag22 rfl ((hs1.ext ((eBC40.trans e5c).trans eq)).cellS (i:=first+chF (ltf cf) hi first r d1) (by omega) (by omega)))<|wS rfl<|wI rfl<|wI rfl<|VW.op (fun wq eq=>R.add rfl rfl (by omega) (by omega))<|VW.op (fun wq eq=>iX ru23 sz22 rfl rfl (hs1.ad))<|VW.op0 (fun wq eq=>rla ag22 rfl ((hs1.ext ((eBC40.trans e5c).trans eq)).cellS (i:=first+r) (by omega) (by omega)))<|VW.op (fun wq eq=>iX ru23 sz22 rfl rfl hs1.ad)<|VW.wr0 (fun wq eq=>R.storeSt elt sz22 (hs1.ext ((eBC40.trans e5c).trans eq)) rfl (i:=first+r) (by omega) (by omega) rfl)<|VW.nil fun w3 hs3=>Vo (iX ru23 sz22 rfl rfl hs1.ad)<|VL.storeSt elt sz22 hs3 rfl (i:=first+chF (ltf cf) hi first r d1) (by omega) (by simp;omega) rfl fun w4 hs4=>Vn<|Vr<|oI rfl<|oJ rfl<|Vn (⟨(chF (ltf cf) hi first r d1,swp d1 (first+r) (first+chF (ltf cf) hi first r d1)),rfl,⟨by omega,?_,?_,hs4⟩,by omega⟩)))))
 ·rw [←h3,sift_end _ _ _ _ _ (by omega)]
 ·have:2*r+2<hi:=by omega
  simp [chB,ltf,this]
 ·have:¬2*r+2<hi:=by omega
  simp [chB,this]
 ·have e:chF (ltf cf) hi first r d1=2*r+2:=by unfold chF;rw [if_pos c40]
  have e2:((chF (ltf cf) hi first r d1:Nat):Int)=2*(r:Int)+1+1:=by rw [e];omega
  rw [e2];rfl
 ·have:=chF_le (ltf cf) hi first r d1 (by omega)
  omega
 ·have e:chF (ltf cf) hi first r d1=2*r+1:=by unfold chF;rw [if_neg (by rw [c40];decide)]
  have e2:((chF (ltf cf) hi first r d1:Nat):Int)=2*(r:Int)+1:=by rw [e];omega
  rw [e2];rfl
 ·have:=chF_le (ltf cf) hi first r d1 (by omega)
  omega
 ·by_cases hc:cf d1[first+r]! d1[first+chF (ltf cf) hi first r d1]!<0
  ·simp [ltf,hc]
  ·simp [ltf,hc]
 ·rw [←h3,sift_stop _ _ _ _ _ (by simpa using c58)]
 ·rw [sz_swp];exact h2
 ·rw [←sift_step _ _ _ _ _ (by omega) (by simpa using c58)];exact h3
theorem sift_specI (hC:CmpOk pr a w0 g cb cf) (cap lo hi first n:Nat) {x y z:Int} (hx:x=lo) (hy:y=hi) (hz:z=first) (d:Array α) (w:World) (hs:Srt (enS pr) 1 w0 a d w) (hn:d.size=n) (hb:n≤1152921504606846976) (hlo:lo≤hi) (hf:first+hi≤n) :
  RetsK prog 173 #[.slice a n cap,.int .i64 x,.int .i64 y,.int .i64 z,.func (.func g) #[] cb.toArray] w (.tuple #[]) (Srt (enS pr) 1 w0 a (siftDown (ltf cf) hi first lo d)):=by
 subst hx;subst hy;subst hz
 exact sift_spec hC cap lo hi first n d w hs hn hb hlo hf
theorem sift_size (lt:α→α→Bool) (hi first:Nat):∀ (n r:Nat) (d:Array α),hi-r≤n→(siftDown lt hi first r d).size=d.size:=by
 intro n
 induction n with
 | zero=>intro r d h;rw [sift_end _ _ _ _ _ (by omega)]
 | succ n ih =>
  intro r d h
  by_cases h0:2*r+1<hi
  ·have hle:=chF_le lt hi first r d h0
   cases hc:lt d[first+r]! d[first+chF lt hi first r d]! with
   | true=>rw [sift_step _ _ _ _ _ h0 hc,ih _ _ (by omega),sz_swp]
   | false=>rw [sift_stop _ _ _ _ _ hc]
  ·rw [sift_end _ _ _ _ _ (by omega)]
theorem heap_spec (hC:CmpOk pr a w0 g cb cf) (cap A B n:Nat) (d:Array α) (w:World) (hs:Srt (enS pr) 1 w0 a d w) (hn:d.size=n) (hb:n≤1152921504606846976) (hAB:A<B) (hB:B≤n) :
  RetsK prog 162 #[.slice a n cap,.int .i64 A,.int .i64 B,.func (.func g) #[] cb.toArray] w (.tuple #[]) (Srt (enS pr) 1 w0 a (heapSort (ltf cf) d A B)):=by
 have elt:=hC.elt
 refine eN (args:=[_,_,_,_]) func162 rfl ntmps162 ?_
 refine Vs<|Vr<|oI rfl<|oJ rfl<|Vn<|Vs<|Vr<|oJ rfl<|Vn<|Vs<|Vr<|oI rfl<|oI rfl<|Vo (R.sub rfl rfl (by omega) (by omega))<|oJ rfl<|Vn<|V.cut [0,3,8,9,10] (fun _:Unit=>[.slice a n cap,.func (.func g) #[] cb.toArray,.int .i64 A,.int .i64 0,.int .i64 ((B:Int)-A)]) (fun _ w'=>(fun w'=>∃ d1:Array α,d1.size=n∧heapPop (ltf cf) A (B-A) d1=heapSort (ltf cf) d A B∧Srt (enS pr) 1 w0 a d1 w') w') (Vs<|Vr<|oI rfl<|Vo (R.sub rfl rfl (by omega) (by omega))<|Vo (R.quo rfl rfl (by omega) (by omega) (by omega))<|oJ rfl<|Vn<|Vb (?_)) (fun rgB0 _ wBB0 hBB0=>Vs<|Vr<|oI rfl<|Vo (R.sub rfl rfl (by omega) (by omega))<|oJ rfl<|Vn<|Vb (?_))
 ·have e:((B:Int)-A-1) / 2=(((B-A-1) / 2+1:Nat):Int)-1:=by omega
  refine Vl [0,3,8,9,10,11] (fun x:Nat×Array α=>[.slice a n cap,.func (.func g) #[] cb.toArray,.int .i64 A,.int .i64 0,.int .i64 ((B:Int)-A),.int .i64 ((x.1:Int)-1)])
   (fun x w'=>x.1≤B-A∧x.2.size=n∧heapBuild (ltf cf) (B-A) A x.1 x.2=heapBuild (ltf cf) (B-A) A ((B-A-1) / 2+1) d∧Srt (enS pr) 1 w0 a x.2 w') (fun x=>x.1) ((B-A-1) / 2+1,d)
   (congrArg (fun z:Int=>[Value.slice a n cap,.func (.func g) #[] cb.toArray,.int .i64 A,.int .i64 0,.int .i64 ((B:Int)-A),.int .i64 z]) e) ⟨by simp;omega,hn,rfl,hs⟩ ?_
  rintro ρ ⟨k,d1⟩ w1 ⟨h1,h2,h3,hs1⟩
  dsimp only at h1 h2 h3 hs1 ⊢
  refine Vs<|Vs<|Vr<|oI rfl<|Vo (R.geq rfl rfl)<|Vn<|Vd rfl (fun c21=>Vk<|Vs<|Vb<|Vr<|oS rfl<|oI rfl<|oI rfl<|oI rfl<|Vo (R.mvF rfl)<|VL.callK call173 rfl (sift_specI hC cap (k-1) (B-A) A n (by omega) (by omega) rfl d1 _ (hs1.ext (Mod.refl _ _)) h2 hb (by omega) (by omega)) fun w2 hs2=>Vn<|Vr<|oI rfl<|Vo (R.sub rfl rfl (by omega) (by omega))<|oJ rfl<|Vn (⟨(k-1,siftDown (ltf cf) (B-A) A (k-1) d1),?_,⟨by omega,?_,?_,hs2⟩,by omega⟩)) (fun c21=>Ve (⟨(),rfl,?_⟩))
  ·have e:((k-1:Nat):Int)=(k:Int)-1:=by omega
   rw [e];rfl
  ·rw [sift_size _ _ _ _ _ _ (Nat.le_refl _)];exact h2
  ·rw [←h3]
   obtain ⟨k,rfl⟩:∃ k',k=k'+1:=⟨k-1,by omega⟩
   rfl
  ·refine ⟨d1,h2,?_,hs1⟩
   have hk:k=0:=by omega
   subst hk
   unfold heapSort
   rw [←h3];rfl
 ·obtain ⟨d0,hn0,he0,hs0⟩:=hBB0
  have e:((B:Int)-A-1)=((B-A:Nat):Int)-1:=by omega
  refine Vl [0,3,8,9,12] (fun x:Nat×Array α=>[.slice a n cap,.func (.func g) #[] cb.toArray,.int .i64 A,.int .i64 0,.int .i64 ((x.1:Int)-1)])
   (fun x w'=>x.1≤B-A∧x.2.size=n∧heapPop (ltf cf) A x.1 x.2=heapSort (ltf cf) d A B∧Srt (enS pr) 1 w0 a x.2 w') (fun x=>x.1) (B-A,d0)
   (congrArg (fun z:Int=>[Value.slice a n cap,.func (.func g) #[] cb.toArray,.int .i64 A,.int .i64 0,.int .i64 z]) e) ⟨by simp,hn0,he0,hs0⟩ ?_
  rintro ρ ⟨k,d1⟩ w1 ⟨h1,h2,h3,hs1⟩
  dsimp only at h1 h2 h3 hs1 ⊢
  refine Vs<|Vs<|Vr<|oI rfl<|Vo (R.geq rfl rfl)<|Vn<|Vd rfl (fun c33=>Vk<|Vs<|Vb<|Vs<|V.regionW mixed 18 17 (by kernel_rfl) rfl (fun w'=>Ext _ w') (fun w'=>Srt (enS pr) 1 w0 a (d1.setIfInBounds A d1[A+(k-1)]!) w') (Ext.drawn _)<|wS rfl<|wI rfl<|wS rfl<|wI rfl<|wI rfl<|VW.op (fun wq eq=>R.add rfl rfl (by omega) (by omega))<|wS rfl<|wI rfl<|wI rfl<|VW.op (fun wq eq=>R.add rfl rfl (by omega) (by omega))<|VW.op (fun wq eq=>iX ru23 sz22 rfl rfl (hs1.ad))<|VW.op0 (fun wq eq=>rla ag22 rfl ((hs1.ext eq).cellS (i:=A+(k-1)) (by omega) (by omega)))<|wS rfl<|wI rfl<|VW.op (fun wq eq=>iX ru23 sz22 rfl rfl (hs1.ad))<|VW.op0 (fun wq eq=>rla ag22 rfl ((hs1.ext eq).cellS (i:=A) (by omega) (by omega)))<|VW.op (fun wq eq=>iX ru23 sz22 rfl rfl hs1.ad)<|VW.wr0 (fun wq eq=>R.storeSt elt sz22 (hs1.ext eq) rfl (i:=A) (by omega) (by omega) rfl)<|VW.nil fun w3 hs3=>Vo (iX ru23 sz22 rfl rfl hs1.ad)<|VL.storeSt elt sz22 hs3 rfl (i:=A+(k-1)) (by omega) (by simp;omega) rfl fun w4 hs4=>Vn<|Vr<|oS rfl<|oI rfl<|oI rfl<|oI rfl<|Vo (R.mvF rfl)<|VL.callK call173 rfl (sift_specI hC cap 0 (k-1) A n rfl (by omega) rfl (swp d1 A (A+(k-1))) _ hs4 (by rw [sz_swp];exact h2) hb (by omega) (by omega)) fun w5 hs5=>Vn<|Vr<|oI rfl<|Vo (R.sub rfl rfl (by omega) (by omega))<|oJ rfl<|Vn (⟨(k-1,siftDown (ltf cf) (k-1) A 0 (swp d1 A (A+(k-1)))),?_,⟨by omega,?_,?_,hs5⟩,by omega⟩)) (fun c33=>Ve (fend0 rfl (⟨rfl,(hs1.ext (Mod.refl _ _)).to ?_⟩)))
  ·have e:((k-1:Nat):Int)=(k:Int)-1:=by omega
   rw [e];rfl
  ·rw [sift_size _ _ _ _ _ _ (Nat.le_refl _),sz_swp];exact h2
  ·rw [←h3]
   obtain ⟨k,rfl⟩:∃ k',k=k'+1:=⟨k-1,by omega⟩
   rfl
  ·have hk:k=0:=by omega
   subst hk
   rw [←h3];rfl
end
end StbL
end Go.Proofs.YtdkhcipjenfcnaaGreatDoor
/- slices.SortFunc: the choice of a pivot. -/
namespace Go.Proofs.YtdkhcipjenfcnaaGreatDoor
open Go.Proofs.Tryz
set_option maxRecDepth 100000
set_option maxHeartbeats 16000000
namespace StbL
set_option maxRecDepth 100000
set_option maxHeartbeats 16000000
open Go.Vc Go.Sort
variable {α:Type} [Inhabited α]
section
variable {pr:α→Option Addr×Nat×Nat} {a:Option Addr} {w0:World} {g:Nat} {cb:List Value} {cf:α→α→Int}
theorem order2_spec (hC:CmpOk pr a w0 g cb cf) (cap n s:Nat) (v A B:Int) (d:Array α) (w:World) (hs:Swp (enS pr) 1 w0 a d 3 s v w) (hn:d.size=n) (_hb:n≤1152921504606846976) (hA0:0≤A) (hA:A<n) (hB0:0≤B) (hB:B<n) (hv:0≤v) (hv2:v≤1000) :
  RetsY prog 181 #[.slice a n cap,.int .i64 A,.int .i64 B,pA s,.func (.func g) #[] cb.toArray] w (fun x:Int×Int×Int=>.tuple #[.int .i64 x.1,.int .i64 x.2.1])
   (fun x w'=>(x.1=A∧x.2.1=B∨x.1=B∧x.2.1=A)∧(0≤x.2.2∧x.2.2≤v+1)∧Swp (enS pr) 1 w0 a d 3 s x.2.2 w'):=by
 have elt:=hC.elt
 have hs1:=hs.srt
 refine eN (args:=[_,_,_,_,_]) func181 rfl ntmps181 ?_
 refine Vs<|Vr<|oJ rfl<|oJ rfl<|Vn<|Vs<|Vs<|V.regionQCut mixed 11 (by kernel_rfl) rfl (fun w'=>Ext _ w') (Ext.drawn _) [12,13,14,15,16,17,18,19,20,21,22] 22 (.bool (decide (cf d[B.toNat]! d[A.toNat]!<0))) rfl (Vq (fun wq eq=>R.mvF rfl)<|qS rfl<|qI rfl<|Vq (fun wq eq=>iX ru23 sz22 rfl rfl (hs1.ad))<|Vq (fun wq eq=>rla ag22 rfl ((hs1.ext eq).cellS (i:=B.toNat) rfl (by omega)))<|qS rfl<|qI rfl<|Vq (fun wq eq=>iX ru23 sz22 rfl rfl (hs1.ad))<|Vq (fun wq eq=>rla ag22 rfl ((hs1.ext eq).cellS (i:=A.toNat) rfl (by omega)))<|VQ.callCP (fun _ _ h k=>Mod.trans h k) rfl (hC.fn) rfl (fun wq eq=>hC.spec wq (hs1.ext eq).m _ _)<|Vq (fun wq eq=>R.lss rfl rfl)<|Vj (cutB rfl ?_)) (fun rg1 w1c e1c=>Vd rfl (fun c22=>Vs<|Vr<|Vo (R.mvP rfl)<|Vo (R.nilCheck rfl)<|Vo (rla ag3 rfl ((hs.ext e1c).cell.cell _))<|oD rfl rfl<|Vo (R.nilCheck rfl)<|VL.store (v:=.int _ _) sz3 rfl rfl rfl rfl (hs.ext e1c).cell rfl rfl fun w2 m2 z2 hB2=>Vn<|Vs<|Vr<|oI rfl<|oI rfl<|oJ rfl<|oJ rfl<|Vn<|Vt (fret2 (v:=.int _ _) (x:=.int _ _) rfl rfl rfl rfl rfl (?_))) (fun c22=>Vk<|Vs<|Vr<|oI rfl<|oI rfl<|oJ rfl<|oJ rfl<|Vn<|Vt (fret2 (v:=.int _ _) (x:=.int _ _) rfl rfl rfl rfl rfl (?_))))
 ·rfl
 ·exact ⟨(B,A,v+1),rfl,.inr ⟨rfl,rfl⟩,⟨by simp only;omega,by simp⟩,(hs.ext e1c).set m2 hB2⟩
 ·exact ⟨(A,B,v),rfl,.inl ⟨rfl,rfl⟩,⟨hv,by simp only;omega⟩,hs.ext e1c⟩
theorem median_spec (hC:CmpOk pr a w0 g cb cf) (cap n s:Nat) (v A B C:Int) (d:Array α) (w:World) (hs:Swp (enS pr) 1 w0 a d 3 s v w) (hn:d.size=n) (hb:n≤1152921504606846976) (hA0:0≤A) (hA:A<n) (hB0:0≤B) (hB:B<n) (hC0:0≤C) (hC1:C<n) (hv:0≤v) (hv2:v≤900) :
  RetsY prog 175 #[.slice a n cap,.int .i64 A,.int .i64 B,.int .i64 C,pA s,.func (.func g) #[] cb.toArray] w (fun x:Int×Int=>.int .i64 x.1)
   (fun x w'=>(x.1=A∨x.1=B∨x.1=C)∧(0≤x.2∧x.2≤v+3)∧Swp (enS pr) 1 w0 a d 3 s x.2 w'):=by
 refine eN (args:=[_,_,_,_,_,_]) func175 rfl ntmps175 ?_
 refine Vs<|Vr<|oJ rfl<|Vn<|Vs<|Vr<|oS rfl<|oI rfl<|oI rfl<|Vo (R.mvP rfl)<|Vo (R.mvF rfl)<|VL.callY call181 rfl (order2_spec hC cap n s v A B d _ (hs.ext (Mod.refl _ _)) hn hb hA0 hA hB0 hB hv (by omega)) fun x1 w1 ⟨h1,g1,s1⟩=>Vo (R.mvT rfl)<|Vo (R.extr rfl rfl)<|Vo (R.extr rfl rfl)<|oJ rfl<|oJ rfl<|Vn<|Vs<|Vr<|oS rfl<|oI rfl<|oI rfl<|Vo (R.mvP rfl)<|Vo (R.mvF rfl)<|VL.callY call181 rfl (order2_spec hC cap n s x1.2.2 x1.2.1 C d _ (s1.ext (Mod.refl _ _)) hn hb (by omega) (by omega) (by omega) (by omega) (by omega) (by omega)) fun x2 w2 ⟨h2,g2,s2⟩=>Vo (R.mvT rfl)<|Vo (R.extr rfl rfl)<|Vo (R.extr rfl rfl)<|oJ rfl<|oJ rfl<|Vn<|Vs<|Vr<|oS rfl<|oI rfl<|oI rfl<|Vo (R.mvP rfl)<|Vo (R.mvF rfl)<|VL.callY call181 rfl (order2_spec hC cap n s x2.2.2 x1.1 x2.1 d _ (s2.ext (Mod.refl _ _)) hn hb (by omega) (by omega) (by omega) (by omega) (by omega) (by omega)) fun x3 w3 ⟨h3,g3,s3⟩=>Vo (R.mvT rfl)<|Vo (R.extr rfl rfl)<|Vo (R.extr rfl rfl)<|oJ rfl<|oJ rfl<|Vn<|Vs<|Vr<|oI rfl<|oJ rfl<|Vn<|Vt (fret1 (v:=.int _ _) rfl rfl rfl (⟨(x3.2.1,x3.2.2),rfl,by simp only;omega,⟨by simp only;omega,by simp only;omega⟩,s3.ext (Mod.refl _ _)⟩))
theorem medAdj_spec (hC:CmpOk pr a w0 g cb cf) (cap n s:Nat) (v A:Int) (d:Array α) (w:World) (hs:Swp (enS pr) 1 w0 a d 3 s v w) (hn:d.size=n) (hb:n≤1152921504606846976) (hA0:1≤A) (hA:A+1<n) (hv:0≤v) (hv2:v≤900) :
  RetsY prog 174 #[.slice a n cap,.int .i64 A,pA s,.func (.func g) #[] cb.toArray] w (fun x:Int×Int=>.int .i64 x.1)
   (fun x w'=>(A-1≤x.1∧x.1≤A+1)∧(0≤x.2∧x.2≤v+3)∧Swp (enS pr) 1 w0 a d 3 s x.2 w'):=by
 refine eN (args:=[_,_,_,_]) func174 rfl ntmps174 ?_
 refine Vs<|Vr<|oJ rfl<|Vn<|Vs<|Vr<|oS rfl<|oI rfl<|Vo (R.sub rfl rfl (by omega) (by omega))<|oI rfl<|oI rfl<|oD rfl rfl<|Vo (R.mvP rfl)<|Vo (R.mvF rfl)<|VL.callY call175 rfl (median_spec hC cap n s v (A-1) A (A+1) d _ (hs.ext (Mod.refl _ _)) hn hb (by omega) (by omega) (by omega) (by omega) (by omega) (by omega) hv (by omega)) fun x1 w1 ⟨h1,g1,s1⟩=>oJ rfl<|Vn<|Vt (fret1 (v:=.int _ _) rfl rfl rfl (⟨x1,rfl,⟨by omega,by omega⟩,g1,s1.ext (Mod.refl _ _)⟩))
theorem pivot_spec (hC:CmpOk pr a w0 g cb cf) (cap n:Nat) (A B:Nat) (d:Array α) (w:World) (hs:Srt (enS pr) 1 w0 a d w) (ha:abk a<w0.heap.size) (hn:d.size=n) (hb:n≤1152921504606846976) (hAB:A<B) (hB:B≤n) :
  RetsY prog 164 #[.slice a n cap,.int .i64 A,.int .i64 B,.func (.func g) #[] cb.toArray] w (fun x:Int×Int=>.tuple #[.int .i64 x.1,.int .i64 x.2])
   (fun x w'=>(A≤x.1∧x.1<B)∧Srt (enS pr) 1 w0 a d w'):=by
 refine eN (args:=[_,_,_,_]) func164 rfl ntmps164 ?_
 have hsz:=hs.m.size
 refine Vs<|Vr<|oJ rfl<|oJ rfl<|Vn<|Vs<|Vr<|oI rfl<|oI rfl<|Vo (R.sub rfl rfl (by omega) (by omega))<|oJ rfl<|Vn<|Vs<|Vr<|VL.alloc zv3 fun s w1 hs1 e1 hS1=>Vn<|Vs<|Vr<|oI rfl<|oI rfl<|Vo (R.quo rfl rfl (by omega) (by omega) (by omega))<|Vo (R.mul rfl rfl (by omega) (by omega))<|oD rfl rfl<|oJ rfl<|Vn<|Vs<|Vr<|oI rfl<|oI rfl<|Vo (R.quo rfl rfl (by omega) (by omega) (by omega))<|Vo (R.mul rfl rfl (by omega) (by omega))<|oD rfl rfl<|oJ rfl<|Vn<|Vs<|Vr<|oI rfl<|oI rfl<|Vo (R.quo rfl rfl (by omega) (by omega) (by omega))<|Vo (R.mul rfl rfl (by omega) (by omega))<|oD rfl rfl<|oJ rfl<|Vn<|V.cut [11,13] (fun x:Int×Int=>[pA s,.int .i64 x.1]) (fun x w'=>(A≤x.1∧x.1<B)∧Swp (enS pr) 1 w0 a d 3 s x.2 w') (Vs<|Vr<|oI rfl<|Vo (R.geq rfl rfl)<|Vn<|Vd rfl (fun c34=>V.cut [0,3,11,12,13,14] (fun y:Int×Int×Int×Int=>[.slice a n cap,.func (.func g) #[] cb.toArray,pA s,.int .i64 y.1,.int .i64 y.2.1,.int .i64 y.2.2.1]) (fun y w'=>(A≤y.1∧y.1<B)∧(A≤y.2.1∧y.2.1<B)∧(A≤y.2.2.1∧y.2.2.1<B)∧(0≤y.2.2.2∧y.2.2.2≤9)∧Swp (enS pr) 1 w0 a d 3 s y.2.2.2 w') (Vs<|Vr<|oI rfl<|Vo (R.geq rfl rfl)<|Vn<|Vd rfl (fun c36=>Vs<|Vr<|oS rfl<|oI rfl<|Vo (R.mvF rfl)<|VL.callY call174 rfl (medAdj_spec hC cap n s 0 _ d _ ⟨hs.ext e1,by omega,ha,hS1⟩ hn hb (by omega) (by omega) (by omega) (by omega)) fun x1 w2 ⟨h1,g1,s1⟩=>oJ rfl<|Vn<|Vs<|Vr<|oS rfl<|oI rfl<|Vo (R.mvF rfl)<|VL.callY call174 rfl (medAdj_spec hC cap n s x1.2 _ d _ (s1.ext (Mod.refl _ _)) hn hb (by omega) (by omega) (by omega) (by omega)) fun x2 w3 ⟨h2,g2,s2⟩=>oJ rfl<|Vn<|Vr<|oS rfl<|oI rfl<|Vo (R.mvF rfl)<|VL.callY call174 rfl (medAdj_spec hC cap n s x2.2 _ d _ (s2.ext (Mod.refl _ _)) hn hb (by omega) (by omega) (by omega) (by omega)) fun x3 w4 ⟨h3,g3,s3⟩=>oJ rfl<|Vn (?_)) (fun c36=>Vk (?_))) (fun rgC36 xC36 wBC36 hBC36=>Vr<|oS rfl<|oI rfl<|oI rfl<|oI rfl<|Vo (R.mvF rfl)<|VL.callY call175 rfl (median_spec hC cap n s xC36.2.2.2 xC36.1 xC36.2.1 xC36.2.2.1 d _ hBC36.2.2.2.2 hn hb (by have:=hBC36;omega) (by have:=hBC36;omega) (by have:=hBC36;omega) (by have:=hBC36;omega) (by have:=hBC36;omega) (by have:=hBC36;omega) (by have:=hBC36;omega) (by have:=hBC36;omega)) fun x4 w5 ⟨h4,g4,s4⟩=>oJ rfl<|Vn (?_))) (fun c34=>Vk (?_))) (fun rgC34 xC34 wBC34 hBC34=>Vs<|Vr<|Vo (rla ag3 rfl (hBC34.2.cell.cell _))<|Vn<|Vb<|Vs<|Vr<|Vo (R.eql rfl rfl)<|oA rfl<|Vn<|Vd rfl (fun c57=>Vs<|Vr<|oI rfl<|oJ rfl<|oJ rfl<|Vn<|Vt (fret2 (v:=.int _ _) (x:=.int _ _) rfl rfl rfl rfl rfl (?_))) (fun c57=>Vs<|Vr<|Vo (R.eql rfl rfl)<|oA rfl<|Vn<|Vd rfl (fun c60=>Vs<|Vr<|oI rfl<|oJ rfl<|oJ rfl<|Vn<|Vt (fret2 (v:=.int _ _) (x:=.int _ _) rfl rfl rfl rfl rfl (?_))) (fun c60=>Vs<|Vr<|oI rfl<|oJ rfl<|oJ rfl<|Vn<|Vt (fret2 (v:=.int _ _) (x:=.int _ _) rfl rfl rfl rfl rfl (?_)))))
 ·exact ⟨(x1.1,x2.1,x3.1,x3.2),rfl,⟨by simp only;omega,by simp only;omega⟩,⟨by simp only;omega,by simp only;omega⟩,⟨by simp only;omega,by simp only;omega⟩,⟨by simp only;omega,by simp only;omega⟩,s3⟩
 ·exact ⟨(_,_,_,0),rfl,⟨by simp only;omega,by simp only;omega⟩,⟨by simp only;omega,by simp only;omega⟩,⟨by simp only;omega,by simp only;omega⟩,⟨by simp only;omega,by simp only;omega⟩,⟨hs.ext e1,by omega,ha,hS1⟩⟩
 ·have:=hBC36
  exact ⟨(x4.1,x4.2),rfl,⟨by simp only;omega,by simp only;omega⟩,s4⟩
 ·exact ⟨(_,0),rfl,⟨by simp only;omega,by simp only;omega⟩,⟨hs.ext e1,by omega,ha,hS1⟩⟩
 ·exact ⟨(xC34.1,1),rfl,hBC34.1,hBC34.2.srt⟩
 ·exact ⟨(xC34.1,2),rfl,hBC34.1,hBC34.2.srt⟩
 ·exact ⟨(xC34.1,0),rfl,hBC34.1,hBC34.2.srt⟩
end
end StbL
end Go.Proofs.YtdkhcipjenfcnaaGreatDoor
/- slices.SortFunc: the reversal and the partitions. -/
namespace Go.Proofs.YtdkhcipjenfcnaaGreatDoor
open Go.Proofs.Tryz
set_option maxRecDepth 100000
set_option maxHeartbeats 16000000
namespace StbL
set_option maxRecDepth 100000
set_option maxHeartbeats 16000000
open Go.Vc Go.Sort
variable {α:Type} [Inhabited α]
section
variable {pr:α→Option Addr×Nat×Nat} {a:Option Addr} {w0:World} {g:Nat} {cb:List Value} {cf:α→α→Int}
theorem reverse_spec (hC:CmpOk pr a w0 g cb cf) (cap n:Nat) (A B:Nat) (d:Array α) (w:World) (hs:Srt (enS pr) 1 w0 a d w) (hn:d.size=n) (hb:n≤1152921504606846976) (hAB:A<B) (hB:B≤n) :
  RetsK prog 165 #[.slice a n cap,.int .i64 A,.int .i64 B,.func (.func g) #[] cb.toArray] w (.tuple #[]) (Srt (enS pr) 1 w0 a (reverseRange d A B)):=by
 have elt:=hC.elt
 refine eN (args:=[_,_,_,_]) func165 rfl ntmps165 ?_
 refine Vs<|Vr<|oI rfl<|oJ rfl<|Vn<|Vs<|Vr<|oI rfl<|Vo (R.subE (z:=((B-1:Nat):Int)) rfl rfl (by omega) (by omega) (by omega))<|oJ rfl<|Vn<|Vb (?_)
 refine Vl [0,8,9] (fun x:Nat×Nat×Array α=>[.slice a n cap,.int .i64 x.1,.int .i64 x.2.1])
  (fun x w'=>x.2.1<n∧x.2.2.size=n∧reverseLoop x.1 x.2.1 x.2.2=reverseRange d A B∧Srt (enS pr) 1 w0 a x.2.2 w') (fun x=>x.2.1-x.1) (A,B-1,d) rfl ⟨by simp only;omega,hn,rfl,hs⟩ ?_
 rintro ρ ⟨i,j,d1⟩ w1 ⟨h1,h2,h3,hs1⟩
 dsimp only at h1 h2 h3 hs1 ⊢
 refine Vs<|Vs<|Vr<|oI rfl<|oI rfl<|oL rfl rfl<|Vn<|Vd rfl (fun c15=>Vk<|Vb<|Vs<|V.regionW mixed 14 13 (by kernel_rfl) rfl (fun w'=>Ext _ w') (fun w'=>Srt (enS pr) 1 w0 a (d1.setIfInBounds (i) d1[j]!) w') (Ext.drawn _)<|wS rfl<|wI rfl<|wS rfl<|wI rfl<|wS rfl<|wI rfl<|VW.op (fun wq eq=>iX ru23 sz22 rfl rfl (hs1.ad))<|VW.op0 (fun wq eq=>rla ag22 rfl (((hs1.ext eq).row elt (i:=j) (by omega) (by omega)).c0a rfl))<|wS rfl<|wI rfl<|VW.op (fun wq eq=>iX ru23 sz22 rfl rfl (hs1.ad))<|VW.op0 (fun wq eq=>rla ag22 rfl (((hs1.ext eq).row elt (i:=i) (by omega) (by omega)).c0a rfl))<|VW.op (fun wq eq=>iX ru23 sz22 rfl rfl hs1.ad)<|VW.wr0 (fun wq eq=>R.storeSt elt sz22 (hs1.ext eq) rfl (i:=i) (by omega) (by omega) rfl)<|VW.nil fun w3 hs3=>Vo (iX ru23 sz22 rfl rfl hs1.ad)<|VL.storeSt elt sz22 hs3 rfl (i:=j) (by omega) (by rw [Array.size_setIfInBounds];exact (by omega)) rfl fun w4 hs4=>Vn<|Vs<|Vr<|oI rfl<|oD rfl rfl<|oJ rfl<|Vn<|Vr<|oI rfl<|Vo (R.subE (z:=((j-1:Nat):Int)) rfl rfl (by omega) (by omega) (by omega))<|oJ rfl<|Vn (⟨(i+1,j-1,swp d1 i j),rfl,⟨by dsimp only;omega,?_,?_,hs4⟩,by dsimp only;omega⟩)) (fun c15=>Ve (fend0 rfl (⟨rfl,(hs1.ext (Mod.refl _ _)).to ?_⟩)))
 ·rw [sz_swp];exact h2
 ·rw [←h3,reverseLoop.eq_def i j,if_pos (by omega)]
 ·rw [←h3,reverseLoop,if_neg (by omega)]
theorem up_step (p:α→Bool) (d:Array α) (j i:Nat) (h:(decide (i≤j)&&p d[i]!)=true):scanUp p d j i=scanUp p d j (i+1):=by rw [scanUp,if_pos h]
theorem up_stop (p:α→Bool) (d:Array α) (j i:Nat) (h:(decide (i≤j)&&p d[i]!)=false):scanUp p d j i=i:=by rw [scanUp,if_neg (by rw [h];decide)]
theorem down_step (p:α→Bool) (d:Array α) (i j:Nat) (h0:1≤i) (h:(decide (i≤j)&&p d[j]!)=true):scanDown p d i j=scanDown p d i (j-1):=by
 cases j with
 | zero=>simp at h;omega
 | succ j =>
  have h':(decide (i≤j+1)&&p d[j+1]!)=true:=h
  rw [scanDown,if_pos h'];rfl
theorem down_stop (p:α→Bool) (d:Array α) (i j:Nat) (h:(decide (i≤j)&&p d[j]!)=false):scanDown p d i j=j:=by
 cases j with
 | zero=>rfl
 | succ j =>
  have h':(decide (i≤j+1)&&p d[j+1]!)=false:=h
  rw [scanDown,if_neg (by rw [h'];decide)]
theorem le_and {A j:Nat} {b:Bool} (h:(decide (A≤j)&&b)=true):A≤j:=by simp at h;exact h.1
theorem partEq_spec (hC:CmpOk pr a w0 g cb cf) (cap n:Nat) (A B:Nat) (pv:Nat) (d:Array α) (w:World) (hs:Srt (enS pr) 1 w0 a d w) (hn:d.size=n) (hb:n≤1152921504606846976) (hAB:A<B) (hB:B≤n) (hp1:A≤pv) (hp2:pv<B) :
  RetsK prog 167 #[.slice a n cap,.int .i64 A,.int .i64 B,.int .i64 pv,.func (.func g) #[] cb.toArray] w (.int .i64 (partitionEqual (ltf cf) d A B pv).1) (Srt (enS pr) 1 w0 a (partitionEqual (ltf cf) d A B pv).2):=by
 have elt:=hC.elt
 refine eN (args:=[_,_,_,_,_]) func167 rfl ntmps167 ?_
 refine Vs<|Vr<|oJ rfl<|Vn<|Vs<|V.regionW mixed 14 13 (by kernel_rfl) rfl (fun w'=>Ext _ w') (fun w'=>Srt (enS pr) 1 w0 a (d.setIfInBounds (A) d[pv]!) w') (Ext.drawn _)<|wS rfl<|wI rfl<|wS rfl<|wI rfl<|wS rfl<|wI rfl<|VW.op (fun wq eq=>iX ru23 sz22 rfl rfl (hs.ad))<|VW.op0 (fun wq eq=>rla ag22 rfl (((hs.ext eq).row elt (i:=pv) (by omega) (by omega)).c0a rfl))<|wS rfl<|wI rfl<|VW.op (fun wq eq=>iX ru23 sz22 rfl rfl (hs.ad))<|VW.op0 (fun wq eq=>rla ag22 rfl (((hs.ext eq).row elt (i:=A) (by omega) (by omega)).c0a rfl))<|VW.op (fun wq eq=>iX ru23 sz22 rfl rfl hs.ad)<|VW.wr0 (fun wq eq=>R.storeSt elt sz22 (hs.ext eq) rfl (i:=A) (by omega) (by omega) rfl)<|VW.nil fun w3 hs3=>Vo (iX ru23 sz22 rfl rfl hs.ad)<|VL.storeSt elt sz22 hs3 rfl (i:=pv) (by omega) (by rw [Array.size_setIfInBounds];exact (by omega)) rfl fun w4 hs4=>Vn<|Vs<|Vr<|oI rfl<|oD rfl rfl<|oI rfl<|Vo (R.subE (z:=((B-1:Nat):Int)) rfl rfl (by omega) (by omega) (by omega))<|oJ rfl<|oJ rfl<|Vn<|Vs<|Vb (?_)
 refine Vl [0,1,4,11,12] (fun x:Nat×Nat×Array α=>[.slice a n cap,.int .i64 A,.func (.func g) #[] cb.toArray,.int .i64 x.1,.int .i64 x.2.1])
  (fun x w'=>A+1≤x.1∧x.1≤n∧x.2.1<n∧x.2.2.size=n∧partEqLoop (ltf cf) A x.1 x.2.1 x.2.2=partitionEqual (ltf cf) d A B pv∧Srt (enS pr) 1 w0 a x.2.2 w') (fun x=>x.2.1+1-x.1) (A+1,B-1,swp d A pv) rfl ⟨by simp,by simp only;omega,by simp only;omega,by simp only [sz_swp];exact hn,rfl,hs4⟩ ?_
 rintro ρ ⟨i,j,d1⟩ w1 ⟨h1,h1n,h2,h3,h4,hs1⟩
 dsimp only at h1 h1n h2 h3 h4 hs1 ⊢
 obtain ⟨i2,hi2⟩:∃ i2,i2=scanUp (fun x=>!ltf cf d1[A]! x) d1 j i:=⟨_,rfl⟩
 obtain ⟨j2,hj2⟩:∃ j2,j2=scanDown (fun x=>ltf cf d1[A]! x) d1 i2 j:=⟨_,rfl⟩
 have q1:=scanUp_spec (fun x=>!ltf cf d1[A]! x) d1 j _ i rfl
 have q2:=scanDown_spec (fun x=>ltf cf d1[A]! x) d1 i2 j
 rw [←hi2] at q1
 rw [←hj2] at q2
 have q3:j2≤j:=q2.1
 have q4:i≤i2:=q1.1
 have q5:i2≤j+1∨i2=i:=by
  by_cases h:i≤j+1
  ·exact .inl (q1.2.1 h)
  ·right;rw [hi2,up_stop];simp;omega
 refine Vb<|V.cut [0,1,4,11,12] (fun _:Unit=>[.slice a n cap,.int .i64 A,.func (.func g) #[] cb.toArray,.int .i64 i2,.int .i64 j]) (fun _ w'=>(Srt (enS pr) 1 w0 a d1) w') (Vb (?_)) (fun rgB2 _ wBB2 hBB2=>V.cut [0,1,4,11,12] (fun _:Unit=>[.slice a n cap,.int .i64 A,.func (.func g) #[] cb.toArray,.int .i64 i2,.int .i64 j2]) (fun _ w'=>(Srt (enS pr) 1 w0 a d1) w') (Vb (?_)) (fun rgB4 _ wBB4 hBB4=>Vs<|Vs<|Vr<|oI rfl<|oI rfl<|Vo (R.gtr rfl rfl)<|Vn<|Vd rfl (fun c70=>Ve<|Vs<|Vr<|oI rfl<|oJ rfl<|Vn<|Vt (fret1 (v:=.int _ _) rfl rfl rfl (?_))) (fun c70=>Vk<|Vs<|V.regionW mixed 14 13 (by kernel_rfl) rfl (fun w'=>Ext _ w') (fun w'=>Srt (enS pr) 1 w0 a (d1.setIfInBounds (i2) d1[j2]!) w') (Ext.drawn _)<|wS rfl<|wI rfl<|wS rfl<|wI rfl<|wS rfl<|wI rfl<|VW.op (fun wq eq=>iX ru23 sz22 rfl rfl (hBB4.ad))<|VW.op0 (fun wq eq=>rla ag22 rfl (((hBB4.ext eq).row elt (i:=j2) (by omega) (by omega)).c0a rfl))<|wS rfl<|wI rfl<|VW.op (fun wq eq=>iX ru23 sz22 rfl rfl (hBB4.ad))<|VW.op0 (fun wq eq=>rla ag22 rfl (((hBB4.ext eq).row elt (i:=i2) (by omega) (by omega)).c0a rfl))<|VW.op (fun wq eq=>iX ru23 sz22 rfl rfl hBB4.ad)<|VW.wr0 (fun wq eq=>R.storeSt elt sz22 (hBB4.ext eq) rfl (i:=i2) (by omega) (by omega) rfl)<|VW.nil fun w3 hs3=>Vo (iX ru23 sz22 rfl rfl hBB4.ad)<|VL.storeSt elt sz22 hs3 rfl (i:=j2) (by omega) (by rw [Array.size_setIfInBounds];exact (by omega)) rfl fun w4 hs4=>Vn<|Vs<|Vr<|oI rfl<|oD rfl rfl<|oJ rfl<|Vn<|Vr<|oI rfl<|Vo (R.subE (z:=((j2-1:Nat):Int)) rfl rfl (by omega) (by omega) (by omega))<|oJ rfl<|Vn (⟨(i2+1,j2-1,swp d1 i2 j2),rfl,⟨by dsimp only;omega,by dsimp only;omega,by dsimp only;omega,by dsimp only;rw [sz_swp];exact h3,?_,hs4⟩,by dsimp only;omega⟩))))
 ·refine Vl [0,1,4,11,12] (fun x:Nat=>[.slice a n cap,.int .i64 A,.func (.func g) #[] cb.toArray,.int .i64 x,.int .i64 j])
   (fun x w'=>i≤x∧x≤i2∧scanUp (fun x=>!ltf cf d1[A]! x) d1 j x=i2∧Srt (enS pr) 1 w0 a d1 w') (fun x=>i2-x) (i) rfl ⟨Nat.le_refl _,q4,hi2.symm,hs1⟩ ?_
  rintro ρ2 x w2 ⟨g1,g1b,g2,hs2⟩
  refine Vs<|Vs<|V.regionQCut mixed 17 (by kernel_rfl) rfl (fun w'=>Ext _ w') (Ext.drawn _) [31,32,33,34,35,36,37,38,39,40,41,42,43,44,45,46,47] 47 (.bool (decide (x≤j)&&(fun x=>!ltf cf d1[A]! x) d1[x]!)) rfl (qI rfl<|qI rfl<|Vq (fun wq eq=>R.leq rfl rfl)<|Vq (fun wq eq=>R.mvB rfl)<|VQ.andP rfl rfl (fun g3_3=>Vq (fun wq eq=>R.mvF rfl)<|qT<|qS rfl<|qT<|qI rfl<|qT<|Vq (fun wq eq=>iX ru23 sz22 rfl rfl (hs2.ad))<|qT<|Vq (fun wq eq=>rla ag22 rfl (((hs2.ext eq).row elt (i:=A) (by omega) (by omega)).c0a rfl))<|qT<|qS rfl<|qT<|qI rfl<|qT<|Vq (fun wq eq=>iX ru23 sz22 rfl rfl (hs2.ad))<|qT<|Vq (fun wq eq=>rla ag22 rfl (((hs2.ext eq).row elt (i:=x) (by omega) (by omega)).c0a rfl))<|qT<|VQ.callCP (fun _ _ h k=>Mod.trans h k) rfl (hC.fn) rfl (fun wq eq=>hC.spec wq (hs2.ext eq).m _ _)<|qT<|Vq (fun wq eq=>R.lss rfl rfl)<|qT<|Vq (fun wq eq=>R.notD rfl)<|Vq (fun wq eq=>R.pickTB rfl rfl)<|Vj (cutB rfl ?_)) (fun g3_3=>qF<|qF<|qF<|qF<|qF<|qF<|qF<|qF<|qF<|qF<|qF<|Vq (fun wq eq=>R.pickFB rfl rfl)<|Vj (cutB rfl ?_))) (fun rg3 w3c e3c=>Vh rfl (fun c47=>Vk<|Vb<|Vr<|oI rfl<|oD rfl rfl<|oJ rfl<|Vn (⟨x+1,rfl,⟨by omega,?_,?_,hs2.ext e3c⟩,?_⟩)) (fun c47=>Ve (⟨(),?_,?_⟩)))
  ·have:x≤j:=by omega
   simp [ltf,this] <;> (rw [Bool.eq_iff_iff];simp)
  ·have:¬x≤j:=by omega
   simp [this]
  ·have h:=(scanUp_spec (fun x=>!ltf cf d1[A]! x) d1 j _ (x+1) rfl).1
   rw [←up_step _ _ _ _ c47,g2] at h
   exact h
  ·rw [←up_step _ _ _ _ c47];exact g2
  ·have h:=(scanUp_spec (fun x=>!ltf cf d1[A]! x) d1 j _ (x+1) rfl).1
   rw [←up_step _ _ _ _ c47,g2] at h
   omega
  ·have:i2=x:=by rw [←g2,up_stop _ _ _ _ c47]
   rw [this];rfl
  ·exact hs2.ext e3c
 ·refine Vl [0,1,4,11,12] (fun y:Nat=>[.slice a n cap,.int .i64 A,.func (.func g) #[] cb.toArray,.int .i64 i2,.int .i64 y])
   (fun y w'=>y≤j∧scanDown (fun x=>ltf cf d1[A]! x) d1 i2 y=j2∧Srt (enS pr) 1 w0 a d1 w') (fun y=>y) (j) rfl ⟨Nat.le_refl _,hj2.symm,hBB2⟩ ?_
  rintro ρ2 y w2 ⟨g1,g2,hs2⟩
  refine Vs<|Vs<|V.regionQCut mixed 16 (by kernel_rfl) rfl (fun w'=>Ext _ w') (Ext.drawn _) [50,51,52,53,54,55,56,57,58,59,60,61,62,63,64,65] 65 (.bool (decide (i2≤y)&&(fun x=>ltf cf d1[A]! x) d1[y]!)) rfl (qI rfl<|qI rfl<|Vq (fun wq eq=>R.leq rfl rfl)<|Vq (fun wq eq=>R.mvB rfl)<|VQ.andP rfl rfl (fun g5_3=>Vq (fun wq eq=>R.mvF rfl)<|qT<|qS rfl<|qT<|qI rfl<|qT<|Vq (fun wq eq=>iX ru23 sz22 rfl rfl (hs2.ad))<|qT<|Vq (fun wq eq=>rla ag22 rfl (((hs2.ext eq).row elt (i:=A) (by omega) (by omega)).c0a rfl))<|qT<|qS rfl<|qT<|qI rfl<|qT<|Vq (fun wq eq=>iX ru23 sz22 rfl rfl (hs2.ad))<|qT<|Vq (fun wq eq=>rla ag22 rfl (((hs2.ext eq).row elt (i:=y) (by omega) (by omega)).c0a rfl))<|qT<|VQ.callCP (fun _ _ h k=>Mod.trans h k) rfl (hC.fn) rfl (fun wq eq=>hC.spec wq (hs2.ext eq).m _ _)<|qT<|Vq (fun wq eq=>R.lss rfl rfl)<|Vq (fun wq eq=>R.pickTB rfl rfl)<|Vj (cutB rfl ?_)) (fun g5_3=>qF<|qF<|qF<|qF<|qF<|qF<|qF<|qF<|qF<|qF<|Vq (fun wq eq=>R.pickFB rfl rfl)<|Vj (cutB rfl ?_))) (fun rg5 w5c e5c=>Vh rfl (fun c65=>Vk<|Vb<|Vr<|oI rfl<|Vo (R.subE (z:=((y-1:Nat):Int)) rfl rfl (by have:=le_and c65;omega) (by have:=le_and c65;omega) (by have:=le_and c65;omega))<|oJ rfl<|Vn (⟨y-1,rfl,⟨by omega,?_,hs2.ext e5c⟩,by have:=le_and c65;omega⟩)) (fun c65=>Ve (⟨(),?_,?_⟩)))
  ·have:i2≤y:=by omega
   simp [ltf,this] <;> (rw [Bool.eq_iff_iff];simp)
  ·have:¬i2≤y:=by omega
   simp [this]
  ·rw [←down_step _ _ _ _ (by omega) c65];exact g2
  ·have:j2=y:=by rw [←g2,down_stop _ _ _ _ c65]
   rw [this];rfl
  ·exact hs2.ext e5c
 ·have e:partitionEqual (ltf cf) d A B pv=(i2,d1):=by rw [←h4,partEqLoop_eq,←hi2,←hj2,if_pos (by omega)]
  rw [e];exact ⟨rfl,hBB4⟩
 ·dsimp only
  rw [←h4,partEqLoop_eq (ltf cf) A i j,←hi2,←hj2,if_neg (by omega)]
theorem part_spec (hC:CmpOk pr a w0 g cb cf) (cap n:Nat) (A B:Nat) (pv:Nat) (d:Array α) (w:World) (hs:Srt (enS pr) 1 w0 a d w) (hn:d.size=n) (hb:n≤1152921504606846976) (hAB:A<B) (hB:B≤n) (hp1:A≤pv) (hp2:pv<B) :
  RetsK prog 168 #[.slice a n cap,.int .i64 A,.int .i64 B,.int .i64 pv,.func (.func g) #[] cb.toArray] w (.tuple #[.int .i64 (partition (ltf cf) d A B pv).1,.bool (partition (ltf cf) d A B pv).2.1]) (Srt (enS pr) 1 w0 a (partition (ltf cf) d A B pv).2.2):=by
 have elt:=hC.elt
 obtain ⟨d1,hd1⟩:∃ d1,d1=swp d A pv:=⟨_,rfl⟩
 obtain ⟨i2,hi2⟩:∃ i2,i2=scanUp (fun x=>ltf cf x d1[A]!) d1 (B-1) (A+1):=⟨_,rfl⟩
 obtain ⟨j2,hj2⟩:∃ j2,j2=scanDown (fun x=>!ltf cf x d1[A]!) d1 i2 (B-1):=⟨_,rfl⟩
 have hz:d1.size=n:=by rw [hd1,sz_swp];exact hn
 have q1:=scanUp_spec (fun x=>ltf cf x d1[A]!) d1 (B-1) _ (A+1) rfl
 have q2:=scanDown_spec (fun x=>!ltf cf x d1[A]!) d1 i2 (B-1)
 rw [←hi2] at q1
 rw [←hj2] at q2
 have q3:j2≤B-1:=q2.1
 have q4:A+1≤i2:=q1.1
 have q5:i2≤B-1+1:=q1.2.1 (by omega)
 refine eN (args:=[_,_,_,_,_]) func168 rfl ntmps168 ?_
 refine Vs<|Vr<|oJ rfl<|oA rfl<|Vn<|Vs<|V.regionW mixed 14 13 (by kernel_rfl) rfl (fun w'=>Ext _ w') (fun w'=>Srt (enS pr) 1 w0 a (d.setIfInBounds (A) d[pv]!) w') (Ext.drawn _)<|wS rfl<|wI rfl<|wS rfl<|wI rfl<|wS rfl<|wI rfl<|VW.op (fun wq eq=>iX ru23 sz22 rfl rfl (hs.ad))<|VW.op0 (fun wq eq=>rla ag22 rfl (((hs.ext eq).row elt (i:=pv) (by omega) (by omega)).c0a rfl))<|wS rfl<|wI rfl<|VW.op (fun wq eq=>iX ru23 sz22 rfl rfl (hs.ad))<|VW.op0 (fun wq eq=>rla ag22 rfl (((hs.ext eq).row elt (i:=A) (by omega) (by omega)).c0a rfl))<|VW.op (fun wq eq=>iX ru23 sz22 rfl rfl hs.ad)<|VW.wr0 (fun wq eq=>R.storeSt elt sz22 (hs.ext eq) rfl (i:=A) (by omega) (by omega) rfl)<|VW.nil fun w3 hs3=>Vo (iX ru23 sz22 rfl rfl hs.ad)<|VL.storeSt elt sz22 hs3 rfl (i:=pv) (by omega) (by rw [Array.size_setIfInBounds];exact (by omega)) rfl fun w4 hs4=>Vn<|Vs<|Vr<|oI rfl<|oD rfl rfl<|oI rfl<|Vo (R.subE (z:=((B-1:Nat):Int)) rfl rfl (by omega) (by omega) (by omega))<|oJ rfl<|oJ rfl<|Vn<|V.cut [0,1,4,12,13] (fun _:Unit=>[.slice a n cap,.int .i64 A,.func (.func g) #[] cb.toArray,.int .i64 i2,.int .i64 (B-1:Nat)]) (fun _ w'=>(Srt (enS pr) 1 w0 a d1) w') (Vb (?_)) (fun rgB0 _ wBB0 hBB0=>V.cut [0,1,4,12,13] (fun _:Unit=>[.slice a n cap,.int .i64 A,.func (.func g) #[] cb.toArray,.int .i64 i2,.int .i64 j2]) (fun _ w'=>(Srt (enS pr) 1 w0 a d1) w') (Vb (?_)) (fun rgB2 _ wBB2 hBB2=>Vs<|Vs<|Vr<|oI rfl<|oI rfl<|Vo (R.gtr rfl rfl)<|Vn<|Vd rfl (fun c71=>Vs<|V.regionW mixed 14 13 (by kernel_rfl) rfl (fun w'=>Ext _ w') (fun w'=>Srt (enS pr) 1 w0 a (d1.setIfInBounds (j2) d1[A]!) w') (Ext.drawn _)<|wS rfl<|wI rfl<|wS rfl<|wI rfl<|wS rfl<|wI rfl<|VW.op (fun wq eq=>iX ru23 sz22 rfl rfl (hBB2.ad))<|VW.op0 (fun wq eq=>rla ag22 rfl (((hBB2.ext eq).row elt (i:=A) (by omega) (by omega)).c0a rfl))<|wS rfl<|wI rfl<|VW.op (fun wq eq=>iX ru23 sz22 rfl rfl (hBB2.ad))<|VW.op0 (fun wq eq=>rla ag22 rfl (((hBB2.ext eq).row elt (i:=j2) (by omega) (by omega)).c0a rfl))<|VW.op (fun wq eq=>iX ru23 sz22 rfl rfl hBB2.ad)<|VW.wr0 (fun wq eq=>R.storeSt elt sz22 (hBB2.ext eq) rfl (i:=j2) (by omega) (by omega) rfl)<|VW.nil fun w5 hs5=>Vo (iX ru23 sz22 rfl rfl hBB2.ad)<|VL.storeSt elt sz22 hs5 rfl (i:=A) (by omega) (by rw [Array.size_setIfInBounds];exact (by omega)) rfl fun w6 hs6=>Vn<|Vs<|Vr<|oI rfl<|oJ rfl<|oA rfl<|Vn<|Vt (fret2 (v:=.int _ _) (x:=.bool _) rfl rfl rfl rfl rfl (?_))) (fun c71=>Vk<|Vs<|V.regionW mixed 14 13 (by kernel_rfl) rfl (fun w'=>Ext _ w') (fun w'=>Srt (enS pr) 1 w0 a (d1.setIfInBounds (i2) d1[j2]!) w') (Ext.drawn _)<|wS rfl<|wI rfl<|wS rfl<|wI rfl<|wS rfl<|wI rfl<|VW.op (fun wq eq=>iX ru23 sz22 rfl rfl (hBB2.ad))<|VW.op0 (fun wq eq=>rla ag22 rfl (((hBB2.ext eq).row elt (i:=j2) (by omega) (by omega)).c0a rfl))<|wS rfl<|wI rfl<|VW.op (fun wq eq=>iX ru23 sz22 rfl rfl (hBB2.ad))<|VW.op0 (fun wq eq=>rla ag22 rfl (((hBB2.ext eq).row elt (i:=i2) (by omega) (by omega)).c0a rfl))<|VW.op (fun wq eq=>iX ru23 sz22 rfl rfl hBB2.ad)<|VW.wr0 (fun wq eq=>R.storeSt elt sz22 (hBB2.ext eq) rfl (i:=i2) (by omega) (by omega) rfl)<|VW.nil fun w7 hs7=>Vo (iX ru23 sz22 rfl rfl hBB2.ad)<|VL.storeSt elt sz22 hs7 rfl (i:=j2) (by omega) (by rw [Array.size_setIfInBounds];exact (by omega)) rfl fun w8 hs8=>Vn<|Vs<|Vr<|oI rfl<|oD rfl rfl<|oJ rfl<|Vn<|Vs<|Vr<|oI rfl<|Vo (R.subE (z:=((j2-1:Nat):Int)) rfl rfl (by omega) (by omega) (by omega))<|oJ rfl<|Vn<|V.cut [0,1,13] (fun j3:Nat×Array α=>[.slice a n cap,.int .i64 A,.int .i64 j3.1]) (fun j3 w'=>partLoop (ltf cf) A (i2+1) (j2-1) (swp d1 i2 j2)=j3∧j3.1<n∧j3.2.size=n∧Srt (enS pr) 1 w0 a j3.2 w') (Vb (?_)) (fun rgB4 xB4 wBB4 hBB4=>Vs<|V.regionW mixed 14 13 (by kernel_rfl) rfl (fun w'=>Ext _ w') (fun w'=>Srt (enS pr) 1 w0 a (xB4.2.setIfInBounds (xB4.1) xB4.2[A]!) w') (Ext.drawn _)<|wS rfl<|wI rfl<|wS rfl<|wI rfl<|wS rfl<|wI rfl<|VW.op (fun wq eq=>R.ixS ru23 sz22 rfl rfl (by have:=hBB4.2.1 ; have:=hBB4.2.2.1 ; omega) (by have:=hBB4.2.1 ; have:=hBB4.2.2.1 ; omega) (hBB4.2.2.2.ad))<|VW.op0 (fun wq eq=>rla ag22 rfl (((hBB4.2.2.2.ext eq).row elt (i:=A) (by have:=hBB4.2.1 ; have:=hBB4.2.2.1 ; omega) (by have:=hBB4.2.1 ; have:=hBB4.2.2.1 ; omega)).c0a rfl))<|wS rfl<|wI rfl<|VW.op (fun wq eq=>R.ixS ru23 sz22 rfl rfl (by have:=hBB4.2.1 ; have:=hBB4.2.2.1 ; omega) (by have:=hBB4.2.1 ; have:=hBB4.2.2.1 ; omega) (hBB4.2.2.2.ad))<|VW.op0 (fun wq eq=>rla ag22 rfl (((hBB4.2.2.2.ext eq).row elt (i:=xB4.1) (by have:=hBB4.2.1 ; have:=hBB4.2.2.1 ; omega) (by have:=hBB4.2.1 ; have:=hBB4.2.2.1 ; omega)).c0a rfl))<|VW.op (fun wq eq=>R.ixS ru23 sz22 rfl rfl (by have:=hBB4.2.1 ; have:=hBB4.2.2.1 ; omega) (by have:=hBB4.2.1 ; have:=hBB4.2.2.1 ; omega) hBB4.2.2.2.ad)<|VW.wr0 (fun wq eq=>R.storeSt elt sz22 (hBB4.2.2.2.ext eq) rfl (i:=xB4.1) (by have:=hBB4.2.1 ; have:=hBB4.2.2.1 ; omega) (by have:=hBB4.2.1 ; have:=hBB4.2.2.1 ; omega) rfl)<|VW.nil fun w9 hs9=>Vo (R.ixS ru23 sz22 rfl rfl (by have:=hBB4.2.1 ; have:=hBB4.2.2.1 ; omega) (by have:=hBB4.2.1 ; have:=hBB4.2.2.1 ; omega) hBB4.2.2.2.ad)<|VL.storeSt elt sz22 hs9 rfl (i:=A) (by have:=hBB4.2.1 ; have:=hBB4.2.2.1 ; omega) (by rw [Array.size_setIfInBounds];exact (by have:=hBB4.2.1 ; have:=hBB4.2.2.1 ; omega)) rfl fun w10 hs10=>Vn<|Vs<|Vr<|oI rfl<|oJ rfl<|oA rfl<|Vn<|Vt (fret2 (v:=.int _ _) (x:=.bool _) rfl rfl rfl rfl rfl (?_))))))
 ·refine Vl [0,1,4,12,13] (fun x:Nat=>[.slice a n cap,.int .i64 A,.func (.func g) #[] cb.toArray,.int .i64 x,.int .i64 (B-1:Nat)])
   (fun x w'=>A+1≤x∧x≤i2∧scanUp (fun x=>ltf cf x d1[A]!) d1 (B-1) x=i2∧Srt (enS pr) 1 w0 a d1 w') (fun x=>i2-x) (A+1) rfl ⟨Nat.le_refl _,q4,hi2.symm,(hs4.to hd1.symm)⟩ ?_
  rintro ρ2 x w2 ⟨g1,g1b,g2,hs2⟩
  refine Vs<|Vs<|V.regionQCut mixed 16 (by kernel_rfl) rfl (fun w'=>Ext _ w') (Ext.drawn _) [32,33,34,35,36,37,38,39,40,41,42,43,44,45,46,47] 47 (.bool (decide (x≤(B-1))&&(fun x=>ltf cf x d1[A]!) d1[x]!)) rfl (qI rfl<|qI rfl<|Vq (fun wq eq=>R.leq rfl rfl)<|Vq (fun wq eq=>R.mvB rfl)<|VQ.andP rfl rfl (fun g3_3=>Vq (fun wq eq=>R.mvF rfl)<|qT<|qS rfl<|qT<|qI rfl<|qT<|Vq (fun wq eq=>iX ru23 sz22 rfl rfl (hs2.ad))<|qT<|Vq (fun wq eq=>rla ag22 rfl (((hs2.ext eq).row elt (i:=x) (by omega) (by omega)).c0a rfl))<|qT<|qS rfl<|qT<|qI rfl<|qT<|Vq (fun wq eq=>iX ru23 sz22 rfl rfl (hs2.ad))<|qT<|Vq (fun wq eq=>rla ag22 rfl (((hs2.ext eq).row elt (i:=A) (by omega) (by omega)).c0a rfl))<|qT<|VQ.callCP (fun _ _ h k=>Mod.trans h k) rfl (hC.fn) rfl (fun wq eq=>hC.spec wq (hs2.ext eq).m _ _)<|qT<|Vq (fun wq eq=>R.lss rfl rfl)<|Vq (fun wq eq=>R.pickTB rfl rfl)<|Vj (cutB rfl ?_)) (fun g3_3=>qF<|qF<|qF<|qF<|qF<|qF<|qF<|qF<|qF<|qF<|Vq (fun wq eq=>R.pickFB rfl rfl)<|Vj (cutB rfl ?_))) (fun rg3 w3c e3c=>Vh rfl (fun c47=>Vk<|Vb<|Vr<|oI rfl<|oD rfl rfl<|oJ rfl<|Vn (⟨x+1,rfl,⟨by omega,?_,?_,hs2.ext e3c⟩,?_⟩)) (fun c47=>Ve (⟨(),?_,?_⟩)))
  ·have:x≤(B-1):=by omega
   simp [ltf,this] <;> (rw [Bool.eq_iff_iff];simp)
  ·have:¬x≤(B-1):=by omega
   simp [this]
  ·have h:=(scanUp_spec (fun x=>ltf cf x d1[A]!) d1 (B-1) _ (x+1) rfl).1
   rw [←up_step _ _ _ _ c47,g2] at h
   exact h
  ·rw [←up_step _ _ _ _ c47];exact g2
  ·have h:=(scanUp_spec (fun x=>ltf cf x d1[A]!) d1 (B-1) _ (x+1) rfl).1
   rw [←up_step _ _ _ _ c47,g2] at h
   omega
  ·have:i2=x:=by rw [←g2,up_stop _ _ _ _ c47]
   rw [this];rfl
  ·exact hs2.ext e3c
 ·refine Vl [0,1,4,12,13] (fun y:Nat=>[.slice a n cap,.int .i64 A,.func (.func g) #[] cb.toArray,.int .i64 i2,.int .i64 y])
   (fun y w'=>y≤(B-1)∧scanDown (fun x=>!ltf cf x d1[A]!) d1 i2 y=j2∧Srt (enS pr) 1 w0 a d1 w') (fun y=>y) (B-1) rfl ⟨Nat.le_refl _,hj2.symm,hBB0⟩ ?_
  rintro ρ2 y w2 ⟨g1,g2,hs2⟩
  refine Vs<|Vs<|V.regionQCut mixed 17 (by kernel_rfl) rfl (fun w'=>Ext _ w') (Ext.drawn _) [50,51,52,53,54,55,56,57,58,59,60,61,62,63,64,65,66] 66 (.bool (decide (i2≤y)&&(fun x=>!ltf cf x d1[A]!) d1[y]!)) rfl (qI rfl<|qI rfl<|Vq (fun wq eq=>R.leq rfl rfl)<|Vq (fun wq eq=>R.mvB rfl)<|VQ.andP rfl rfl (fun g5_3=>Vq (fun wq eq=>R.mvF rfl)<|qT<|qS rfl<|qT<|qI rfl<|qT<|Vq (fun wq eq=>iX ru23 sz22 rfl rfl (hs2.ad))<|qT<|Vq (fun wq eq=>rla ag22 rfl (((hs2.ext eq).row elt (i:=y) (by omega) (by omega)).c0a rfl))<|qT<|qS rfl<|qT<|qI rfl<|qT<|Vq (fun wq eq=>iX ru23 sz22 rfl rfl (hs2.ad))<|qT<|Vq (fun wq eq=>rla ag22 rfl (((hs2.ext eq).row elt (i:=A) (by omega) (by omega)).c0a rfl))<|qT<|VQ.callCP (fun _ _ h k=>Mod.trans h k) rfl (hC.fn) rfl (fun wq eq=>hC.spec wq (hs2.ext eq).m _ _)<|qT<|Vq (fun wq eq=>R.lss rfl rfl)<|qT<|Vq (fun wq eq=>R.notD rfl)<|Vq (fun wq eq=>R.pickTB rfl rfl)<|Vj (cutB rfl ?_)) (fun g5_3=>qF<|qF<|qF<|qF<|qF<|qF<|qF<|qF<|qF<|qF<|qF<|Vq (fun wq eq=>R.pickFB rfl rfl)<|Vj (cutB rfl ?_))) (fun rg5 w5c e5c=>Vh rfl (fun c66=>Vk<|Vb<|Vr<|oI rfl<|Vo (R.subE (z:=((y-1:Nat):Int)) rfl rfl (by have:=le_and c66;omega) (by have:=le_and c66;omega) (by have:=le_and c66;omega))<|oJ rfl<|Vn (⟨y-1,rfl,⟨by omega,?_,hs2.ext e5c⟩,by have:=le_and c66;omega⟩)) (fun c66=>Ve (⟨(),?_,?_⟩)))
  ·have:i2≤y:=by omega
   simp [ltf,this] <;> (rw [Bool.eq_iff_iff];simp)
  ·have:¬i2≤y:=by omega
   simp [this]
  ·rw [←down_step _ _ _ _ (by omega) c66];exact g2
  ·have:j2=y:=by rw [←g2,down_stop _ _ _ _ c66]
   rw [this];rfl
  ·exact hs2.ext e5c
 ·have e:partition (ltf cf) d A B pv=(j2,true,swp d1 j2 A):=by
   unfold partition
   simp only [←hd1,←hi2,←hj2]
   rw [if_pos (by omega)]
  rw [e];exact ⟨rfl,hs6⟩
 ·refine Vl [0,1,4,12,13] (fun x:Nat×Nat×Array α=>[.slice a n cap,.int .i64 A,.func (.func g) #[] cb.toArray,.int .i64 x.1,.int .i64 x.2.1])
   (fun x w'=>A+1≤x.1∧x.1≤n∧x.2.1<n∧x.2.2.size=n∧partLoop (ltf cf) A x.1 x.2.1 x.2.2=partLoop (ltf cf) A (i2+1) (j2-1) (swp d1 i2 j2)∧Srt (enS pr) 1 w0 a x.2.2 w') (fun x=>x.2.1+1-x.1) (i2+1,j2-1,swp d1 i2 j2) rfl ⟨by dsimp only;omega,by dsimp only;omega,by dsimp only;omega,by simp only [sz_swp];exact hz,rfl,hs8⟩ ?_
  clear q1 q2
  rintro ρ ⟨i,j,d2⟩ w1 ⟨h1,h1n,h2,h3,h4,hs1⟩
  dsimp only at h1 h1n h2 h3 h4 hs1 ⊢
  obtain ⟨i3,hi3⟩:∃ i3,i3=scanUp (fun x=>ltf cf x d2[A]!) d2 j i:=⟨_,rfl⟩
  obtain ⟨j3,hj3⟩:∃ j3,j3=scanDown (fun x=>!ltf cf x d2[A]!) d2 i3 j:=⟨_,rfl⟩
  have q1:=scanUp_spec (fun x=>ltf cf x d2[A]!) d2 j _ i rfl
  have q2:=scanDown_spec (fun x=>!ltf cf x d2[A]!) d2 i3 j
  rw [←hi3] at q1
  rw [←hj3] at q2
  have r3:j3≤j:=q2.1
  have r4:i≤i3:=q1.1
  have r5:i3≤j+1∨i3=i:=by
   by_cases h:i≤j+1
   ·exact .inl (q1.2.1 h)
   ·right;rw [hi3,up_stop];simp;omega
  refine Vb<|V.cut [0,1,4,12,13] (fun _:Unit=>[.slice a n cap,.int .i64 A,.func (.func g) #[] cb.toArray,.int .i64 i3,.int .i64 j]) (fun _ w'=>(Srt (enS pr) 1 w0 a d2) w') (Vb (?_)) (fun rgB6 _ wBB6 hBB6=>V.cut [0,1,4,12,13] (fun _:Unit=>[.slice a n cap,.int .i64 A,.func (.func g) #[] cb.toArray,.int .i64 i3,.int .i64 j3]) (fun _ w'=>(Srt (enS pr) 1 w0 a d2) w') (Vb (?_)) (fun rgB8 _ wBB8 hBB8=>Vs<|Vs<|Vr<|oI rfl<|oI rfl<|Vo (R.gtr rfl rfl)<|Vn<|Vd rfl (fun c144=>Ve (?_)) (fun c144=>Vk<|Vs<|V.regionW mixed 14 13 (by kernel_rfl) rfl (fun w'=>Ext _ w') (fun w'=>Srt (enS pr) 1 w0 a (d2.setIfInBounds (i3) d2[j3]!) w') (Ext.drawn _)<|wS rfl<|wI rfl<|wS rfl<|wI rfl<|wS rfl<|wI rfl<|VW.op (fun wq eq=>iX ru23 sz22 rfl rfl (hBB8.ad))<|VW.op0 (fun wq eq=>rla ag22 rfl (((hBB8.ext eq).row elt (i:=j3) (by omega) (by omega)).c0a rfl))<|wS rfl<|wI rfl<|VW.op (fun wq eq=>iX ru23 sz22 rfl rfl (hBB8.ad))<|VW.op0 (fun wq eq=>rla ag22 rfl (((hBB8.ext eq).row elt (i:=i3) (by omega) (by omega)).c0a rfl))<|VW.op (fun wq eq=>iX ru23 sz22 rfl rfl hBB8.ad)<|VW.wr0 (fun wq eq=>R.storeSt elt sz22 (hBB8.ext eq) rfl (i:=i3) (by omega) (by omega) rfl)<|VW.nil fun wa hsa=>Vo (iX ru23 sz22 rfl rfl hBB8.ad)<|VL.storeSt elt sz22 hsa rfl (i:=j3) (by omega) (by rw [Array.size_setIfInBounds];exact (by omega)) rfl fun wb hsb=>Vn<|Vs<|Vr<|oI rfl<|oD rfl rfl<|oJ rfl<|Vn<|Vr<|oI rfl<|Vo (R.subE (z:=((j3-1:Nat):Int)) rfl rfl (by omega) (by omega) (by omega))<|oJ rfl<|Vn (⟨(i3+1,j3-1,swp d2 i3 j3),rfl,⟨by dsimp only;omega,by dsimp only;omega,by dsimp only;omega,by dsimp only;rw [sz_swp];exact h3,?_,hsb⟩,by dsimp only;omega⟩))))
  ·refine Vl [0,1,4,12,13] (fun x:Nat=>[.slice a n cap,.int .i64 A,.func (.func g) #[] cb.toArray,.int .i64 x,.int .i64 j])
    (fun x w'=>i≤x∧x≤i3∧scanUp (fun x=>ltf cf x d2[A]!) d2 j x=i3∧Srt (enS pr) 1 w0 a d2 w') (fun x=>i3-x) (i) rfl ⟨Nat.le_refl _,r4,hi3.symm,hs1⟩ ?_
   rintro ρ2 x w2 ⟨g1,g1b,g2,hs2⟩
   refine Vs<|Vs<|V.regionQCut mixed 16 (by kernel_rfl) rfl (fun w'=>Ext _ w') (Ext.drawn _) [105,106,107,108,109,110,111,112,113,114,115,116,117,118,119,120] 120 (.bool (decide (x≤j)&&(fun x=>ltf cf x d2[A]!) d2[x]!)) rfl (qI rfl<|qI rfl<|Vq (fun wq eq=>R.leq rfl rfl)<|Vq (fun wq eq=>R.mvB rfl)<|VQ.andP rfl rfl (fun g13_3=>Vq (fun wq eq=>R.mvF rfl)<|qT<|qS rfl<|qT<|qI rfl<|qT<|Vq (fun wq eq=>iX ru23 sz22 rfl rfl (hs2.ad))<|qT<|Vq (fun wq eq=>rla ag22 rfl (((hs2.ext eq).row elt (i:=x) (by omega) (by omega)).c0a rfl))<|qT<|qS rfl<|qT<|qI rfl<|qT<|Vq (fun wq eq=>iX ru23 sz22 rfl rfl (hs2.ad))<|qT<|Vq (fun wq eq=>rla ag22 rfl (((hs2.ext eq).row elt (i:=A) (by omega) (by omega)).c0a rfl))<|qT<|VQ.callCP (fun _ _ h k=>Mod.trans h k) rfl (hC.fn) rfl (fun wq eq=>hC.spec wq (hs2.ext eq).m _ _)<|qT<|Vq (fun wq eq=>R.lss rfl rfl)<|Vq (fun wq eq=>R.pickTB rfl rfl)<|Vj (cutB rfl ?_)) (fun g13_3=>qF<|qF<|qF<|qF<|qF<|qF<|qF<|qF<|qF<|qF<|Vq (fun wq eq=>R.pickFB rfl rfl)<|Vj (cutB rfl ?_))) (fun rg13 w13c e13c=>Vh rfl (fun c120=>Vk<|Vb<|Vr<|oI rfl<|oD rfl rfl<|oJ rfl<|Vn (⟨x+1,rfl,⟨by omega,?_,?_,hs2.ext e13c⟩,?_⟩)) (fun c120=>Ve (⟨(),?_,?_⟩)))
   ·have:x≤j:=by omega
    simp [ltf,this] <;> (rw [Bool.eq_iff_iff];simp)
   ·have:¬x≤j:=by omega
    simp [this]
   ·have h:=(scanUp_spec (fun x=>ltf cf x d2[A]!) d2 j _ (x+1) rfl).1
    rw [←up_step _ _ _ _ c120,g2] at h
    exact h
   ·rw [←up_step _ _ _ _ c120];exact g2
   ·have h:=(scanUp_spec (fun x=>ltf cf x d2[A]!) d2 j _ (x+1) rfl).1
    rw [←up_step _ _ _ _ c120,g2] at h
    omega
   ·have:i3=x:=by rw [←g2,up_stop _ _ _ _ c120]
    rw [this];rfl
   ·exact hs2.ext e13c
  ·refine Vl [0,1,4,12,13] (fun y:Nat=>[.slice a n cap,.int .i64 A,.func (.func g) #[] cb.toArray,.int .i64 i3,.int .i64 y])
    (fun y w'=>y≤j∧scanDown (fun x=>!ltf cf x d2[A]!) d2 i3 y=j3∧Srt (enS pr) 1 w0 a d2 w') (fun y=>y) (j) rfl ⟨Nat.le_refl _,hj3.symm,hBB6⟩ ?_
   rintro ρ2 y w2 ⟨g1,g2,hs2⟩
   refine Vs<|Vs<|V.regionQCut mixed 17 (by kernel_rfl) rfl (fun w'=>Ext _ w') (Ext.drawn _) [123,124,125,126,127,128,129,130,131,132,133,134,135,136,137,138,139] 139 (.bool (decide (i3≤y)&&(fun x=>!ltf cf x d2[A]!) d2[y]!)) rfl (qI rfl<|qI rfl<|Vq (fun wq eq=>R.leq rfl rfl)<|Vq (fun wq eq=>R.mvB rfl)<|VQ.andP rfl rfl (fun g15_3=>Vq (fun wq eq=>R.mvF rfl)<|qT<|qS rfl<|qT<|qI rfl<|qT<|Vq (fun wq eq=>iX ru23 sz22 rfl rfl (hs2.ad))<|qT<|Vq (fun wq eq=>rla ag22 rfl (((hs2.ext eq).row elt (i:=y) (by omega) (by omega)).c0a rfl))<|qT<|qS rfl<|qT<|qI rfl<|qT<|Vq (fun wq eq=>iX ru23 sz22 rfl rfl (hs2.ad))<|qT<|Vq (fun wq eq=>rla ag22 rfl (((hs2.ext eq).row elt (i:=A) (by omega) (by omega)).c0a rfl))<|qT<|VQ.callCP (fun _ _ h k=>Mod.trans h k) rfl (hC.fn) rfl (fun wq eq=>hC.spec wq (hs2.ext eq).m _ _)<|qT<|Vq (fun wq eq=>R.lss rfl rfl)<|qT<|Vq (fun wq eq=>R.notD rfl)<|Vq (fun wq eq=>R.pickTB rfl rfl)<|Vj (cutB rfl ?_)) (fun g15_3=>qF<|qF<|qF<|qF<|qF<|qF<|qF<|qF<|qF<|qF<|qF<|Vq (fun wq eq=>R.pickFB rfl rfl)<|Vj (cutB rfl ?_))) (fun rg15 w15c e15c=>Vh rfl (fun c139=>Vk<|Vb<|Vr<|oI rfl<|Vo (R.subE (z:=((y-1:Nat):Int)) rfl rfl (by have:=le_and c139;omega) (by have:=le_and c139;omega) (by have:=le_and c139;omega))<|oJ rfl<|Vn (⟨y-1,rfl,⟨by omega,?_,hs2.ext e15c⟩,by have:=le_and c139;omega⟩)) (fun c139=>Ve (⟨(),?_,?_⟩)))
   ·have:i3≤y:=by omega
    simp [ltf,this] <;> (rw [Bool.eq_iff_iff];simp)
   ·have:¬i3≤y:=by omega
    simp [this]
   ·rw [←down_step _ _ _ _ (by omega) c139];exact g2
   ·have:j3=y:=by rw [←g2,down_stop _ _ _ _ c139]
    rw [this];rfl
   ·exact hs2.ext e15c
  ·refine ⟨(j3,d2),rfl,?_,by dsimp only;omega,h3,hBB8⟩
   rw [←h4,partLoop_eq,←hi3,←hj3,if_pos (by omega)]
  ·dsimp only
   rw [←h4,partLoop_eq (ltf cf) A i j,←hi3,←hj3,if_neg (by omega)]
 ·have e:partition (ltf cf) d A B pv=(xB4.1,false,swp xB4.2 xB4.1 A):=by
   unfold partition
   simp only [←hd1,←hi2,←hj2]
   rw [if_neg (by omega),hBB4.1]
  rw [e];exact ⟨rfl,hs10⟩
end
end StbL
end Go.Proofs.YtdkhcipjenfcnaaGreatDoor
