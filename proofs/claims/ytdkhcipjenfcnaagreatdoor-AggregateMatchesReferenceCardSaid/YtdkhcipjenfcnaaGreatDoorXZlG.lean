/- slices.SortFunc: the partial insertion sort. -/
import Derived.Test.YtdkhcipjenfcnaaGreatDoorXZlD
import Derived.Sort.WalkA14
namespace Go.Proofs.YtdkhcipjenfcnaaGreatDoor
open Go.Proofs.Tryz
set_option maxRecDepth 100000
set_option maxHeartbeats 16000000
namespace StbL
set_option maxRecDepth 100000
set_option maxHeartbeats 16000000
open Go.Vc Go.Sort
variable {α:Type} [Inhabited α]
section
variable {pr:α→Option Addr×Nat×Nat} {a:Option Addr} {w0:World} {g:Nat} {cb:List Value} {cf:α→α→Int}
theorem scs_step (lt:α→α→Bool) (d:Array α) (b i:Nat) (h:(decide (i<b)&&!lt d[i]! d[i-1]!)=true):scanSorted lt d b i=scanSorted lt d b (i+1):=by rw [scanSorted,if_pos h]
theorem scs_stop (lt:α→α→Bool) (d:Array α) (b i:Nat) (h:(decide (i<b)&&!lt d[i]! d[i-1]!)=false):scanSorted lt d b i=i:=by rw [scanSorted,if_neg (by rw [h];decide)]
theorem scs_ge (lt:α→α→Bool) (d:Array α) (b:Nat):∀ (n i:Nat),b-i=n→i≤scanSorted lt d b i∧(i≤b→scanSorted lt d b i≤b):=by
 intro n
 induction n with
 | zero=>intro i h;rw [scs_stop];exact ⟨Nat.le_refl _,fun h=>h⟩;simp;omega
 | succ n ih =>
  intro i h
  cases hc:(decide (i<b)&&!lt d[i]! d[i-1]!) with
  | true =>
   rw [scs_step _ _ _ _ hc]
   have:=ih (i+1) (by omega)
   exact ⟨by omega,fun h=>this.2 (by omega)⟩
  | false=>rw [scs_stop _ _ _ _ hc];exact ⟨Nat.le_refl _,fun h=>h⟩
theorem shd_step (lt:α→α→Bool) (y:Nat) (d:Array α) (hy:1≤y) (h:lt d[y]! d[y-1]! = true):shiftDown lt y d=shiftDown lt (y-1) (swp d y (y-1)):=by
 cases y with
 | zero=>omega
 | succ y =>
  have h':lt d[y+1]! d[y]! = true:=h
  rw [shiftDown,h'];rfl
theorem shd_stop (lt:α→α→Bool) (y:Nat) (d:Array α) (h:lt d[y]! d[y-1]! = false):shiftDown lt y d=d:=by
 cases y with
 | zero=>rfl
 | succ y =>
  have h':lt d[y+1]! d[y]! = false:=h
  rw [shiftDown,h'];rfl
theorem shd_size (lt:α→α→Bool):∀ (y:Nat) (d:Array α),(shiftDown lt y d).size=d.size
 | 0,d=>rfl
 | y+1,d=>by
  rw [shiftDown]
  split
  ·rfl
  ·rw [shd_size lt y,sz_swp]
theorem shu_size (lt:α→α→Bool) (b:Nat):∀ (n y:Nat) (d:Array α),b-y=n→(shiftUp lt b y d).size=d.size:=by
 intro n
 induction n with
 | zero=>intro y d h;rw [shiftUp,if_neg (by omega)]
 | succ n ih =>
  intro y d h
  rw [shiftUp]
  split
  ·split
   ·rfl
   ·rw [ih _ _ (by omega),sz_swp]
  ·rfl
theorem pins_spec (hC:CmpOk pr a w0 g cb cf) (cap n:Nat) (A B:Nat) (d:Array α) (w:World) (hs:Srt (enS pr) 1 w0 a d w) (hn:d.size=n) (hb:n≤1152921504606846976) (hAB:A<B) (hB:B≤n) :
  RetsK prog 166 #[.slice a n cap,.int .i64 A,.int .i64 B,.func (.func g) #[] cb.toArray] w (.bool (partialInsertionSort (ltf cf) d A B).2) (Srt (enS pr) 1 w0 a (partialInsertionSort (ltf cf) d A B).1):=by
 have elt:=hC.elt
 refine eN (args:=[_,_,_,_]) func166 rfl ntmps166 ?_
 refine Vs<|Vr<|oA rfl<|Vn<|Vs<|Vr<|oI rfl<|oD rfl rfl<|oJ rfl<|Vn<|Vs<|Vs<|Vr<|oJ rfl<|Vn<|Vb (?_)
 refine Vl [0,1,2,3,9,10] (fun x:Nat×Nat×Array α=>[.slice a n cap,.int .i64 A,.int .i64 B,.func (.func g) #[] cb.toArray,.int .i64 x.2.1,.int .i64 x.1])
  (fun x w'=>x.1≤5∧A+1≤x.2.1∧x.2.1≤B∧x.2.2.size=n∧partialIns (ltf cf) A B (5-x.1) x.2.1 x.2.2=partialInsertionSort (ltf cf) d A B∧Srt (enS pr) 1 w0 a x.2.2 w') (fun x=>5-x.1) (0,A+1,d) rfl ⟨by simp,by simp,by dsimp only;omega,hn,rfl,hs⟩ ?_
 rintro ρ ⟨s,i,d1⟩ w1 ⟨h0,h1,h2,h3,h4,hs1⟩
 dsimp only at h0 h1 h2 h3 h4 hs1 ⊢
 obtain ⟨i2,hi2⟩:∃ i2,i2=scanSorted (ltf cf) d1 B i:=⟨_,rfl⟩
 have q1:=scs_ge (ltf cf) d1 B _ i rfl
 rw [←hi2] at q1
 have q2:=q1.1
 have q3:=q1.2 h2
 obtain ⟨d2,hd2⟩:∃ d2,d2=swp d1 i2 (i2-1):=⟨_,rfl⟩
 obtain ⟨d3,hd3⟩:∃ d3,d3=if i2-A ≥ 2 then shiftDown (ltf cf) (i2-1) d2 else d2:=⟨_,rfl⟩
 obtain ⟨d4,hd4⟩:∃ d4,d4=if B-i2 ≥ 2 then shiftUp (ltf cf) B (i2+1) d3 else d3:=⟨_,rfl⟩
 have z2:d2.size=n:=by rw [hd2,sz_swp];exact h3
 have z3:d3.size=n:=by rw [hd3];split <;> simp only [shd_size,z2]
 have z4:d4.size=n:=by rw [hd4];split <;> simp only [shu_size _ _ _ _ _ rfl,z3]
 have hst:s<5→partialInsertionSort (ltf cf) d A B=if i2=B then (d1,true) else if B-A<50 then (d1,false) else partialIns (ltf cf) A B (5-(s+1)) i2 d4:=by
  intro h
  rw [←h4,show 5-s=(5-(s+1))+1 from by omega,partialIns]
  simp only [←hi2,←hd2,←hd3,←hd4]
 refine Vs<|Vs<|Vr<|oI rfl<|oL rfl rfl<|Vn<|Vd rfl (fun c16=>Vk<|V.cut [0,1,2,3,9,10] (fun _:Unit=>[.slice a n cap,.int .i64 A,.int .i64 B,.func (.func g) #[] cb.toArray,.int .i64 i2,.int .i64 s]) (fun _ w'=>(fun w'=>(¬i2=B∧¬B-A<50)∧Srt (enS pr) 1 w0 a d4 w') w') (Vb<|V.cut [0,1,2,3,9,10] (fun _:Unit=>[.slice a n cap,.int .i64 A,.int .i64 B,.func (.func g) #[] cb.toArray,.int .i64 i2,.int .i64 s]) (fun _ w'=>(Srt (enS pr) 1 w0 a d1) w') (Vb (?_)) (fun rgB2 _ wBB2 hBB2=>Vs<|Vs<|Vr<|oI rfl<|oI rfl<|Vo (R.eql rfl rfl)<|Vn<|Vd rfl (fun c41=>Vs<|Vr<|oA rfl<|Vn<|Vt<|tB rfl rfl rfl (⟨?_,?_⟩)) (fun c41=>Vk<|Vs<|Vs<|Vr<|oI rfl<|oI rfl<|Vo (R.sub rfl rfl (by omega) (by omega))<|oL rfl rfl<|Vn<|Vd rfl (fun c45=>Vs<|Vr<|oA rfl<|Vn<|Vt<|tB rfl rfl rfl (⟨?_,?_⟩)) (fun c45=>Vk<|Vs<|V.regionW mixed 16 15 (by kernel_rfl) rfl (fun w'=>Ext _ w') (fun w'=>Srt (enS pr) 1 w0 a (d1.setIfInBounds (i2) d1[i2-1]!) w') (Ext.drawn _)<|wS rfl<|wI rfl<|wS rfl<|wI rfl<|VW.op (fun wq eq=>R.sub rfl rfl (by omega) (by omega))<|wS rfl<|wI rfl<|VW.op (fun wq eq=>R.sub rfl rfl (by omega) (by omega))<|VW.op (fun wq eq=>iX ru23 sz22 rfl rfl (hBB2.ad))<|VW.op0 (fun wq eq=>rla ag22 rfl (((hBB2.ext eq).row elt (i:=i2-1) (by omega) (by omega)).c0a rfl))<|wS rfl<|wI rfl<|VW.op (fun wq eq=>iX ru23 sz22 rfl rfl (hBB2.ad))<|VW.op0 (fun wq eq=>rla ag22 rfl (((hBB2.ext eq).row elt (i:=i2) (by omega) (by omega)).c0a rfl))<|VW.op (fun wq eq=>iX ru23 sz22 rfl rfl hBB2.ad)<|VW.wr0 (fun wq eq=>R.storeSt elt sz22 (hBB2.ext eq) rfl (i:=i2) (by omega) (by omega) rfl)<|VW.nil fun w3 hs3=>Vo (iX ru23 sz22 rfl rfl hBB2.ad)<|VL.storeSt elt sz22 hs3 rfl (i:=i2-1) (by omega) (by rw [Array.size_setIfInBounds];exact (by omega)) rfl fun w4 hs4=>Vn<|V.cut [0,1,2,3,9,10] (fun _:Unit=>[.slice a n cap,.int .i64 A,.int .i64 B,.func (.func g) #[] cb.toArray,.int .i64 i2,.int .i64 s]) (fun _ w'=>(Srt (enS pr) 1 w0 a d3) w') (Vs<|Vr<|oI rfl<|oI rfl<|Vo (R.sub rfl rfl (by omega) (by omega))<|Vo (R.geq rfl rfl)<|Vn<|Vd rfl (fun c65=>Vs<|Vr<|oI rfl<|Vo (R.subE (z:=((i2-1:Nat):Int)) rfl rfl (by omega) (by omega) (by omega))<|oJ rfl<|Vn<|Vb (?_)) (fun c65=>Vk (⟨(),rfl,?_⟩))) (fun rgC65 _ wBC65 hBC65=>Vs<|Vr<|oI rfl<|oI rfl<|Vo (R.sub rfl rfl (by omega) (by omega))<|Vo (R.geq rfl rfl)<|Vn<|Vd rfl (fun c104=>Vs<|Vr<|oI rfl<|oD rfl rfl<|oJ rfl<|Vn<|Vb (?_)) (fun c104=>Vk (⟨(),rfl,?_⟩))))))) (fun rgB1 _ wBB1 hBB1=>Vr<|oI rfl<|oD rfl rfl<|oJ rfl<|Vn (⟨(s+1,i2,d4),rfl,⟨by dsimp only;omega,by dsimp only;omega,by dsimp only;omega,z4,?_,hBB1.2⟩,by dsimp only;omega⟩))) (fun c16=>Ve<|Vs<|Vr<|oA rfl<|Vn<|Vt<|tB rfl rfl rfl (⟨?_,?_⟩))
 ·refine Vl [0,1,2,3,9,10] (fun x:Nat=>[.slice a n cap,.int .i64 A,.int .i64 B,.func (.func g) #[] cb.toArray,.int .i64 x,.int .i64 s])
   (fun x w'=>i≤x∧x≤i2∧scanSorted (ltf cf) d1 B x=i2∧Srt (enS pr) 1 w0 a d1 w') (fun x=>i2-x) i rfl ⟨Nat.le_refl _,q2,hi2.symm,hs1⟩ ?_
  rintro ρ2 x w2 ⟨g1,g1b,g2,hs2⟩
  refine Vs<|Vs<|V.regionQCut mixed 18 (by kernel_rfl) rfl (fun w'=>Ext _ w') (Ext.drawn _) [19,20,21,22,23,24,25,26,27,28,29,30,31,32,33,34,35,36] 36 (.bool (decide (x<B)&&!ltf cf d1[x]! d1[x-1]!)) rfl (qI rfl<|qI rfl<|Vq (fun wq eq=>R.lss rfl rfl)<|Vq (fun wq eq=>R.mvB rfl)<|VQ.andP rfl rfl (fun g5_3=>Vq (fun wq eq=>R.mvF rfl)<|qT<|qS rfl<|qT<|qI rfl<|qT<|Vq (fun wq eq=>iX ru23 sz22 rfl rfl (hs2.ad))<|qT<|Vq (fun wq eq=>rla ag22 rfl (((hs2.ext eq).row elt (i:=x) (by omega) (by omega)).c0a rfl))<|qT<|qS rfl<|qT<|qI rfl<|qT<|Vq (fun wq eq=>R.sub rfl rfl (by omega) (by omega))<|qT<|Vq (fun wq eq=>iX ru23 sz22 rfl rfl (hs2.ad))<|qT<|Vq (fun wq eq=>rla ag22 rfl (((hs2.ext eq).row elt (i:=x-1) (by omega) (by omega)).c0a rfl))<|qT<|VQ.callCP (fun _ _ h k=>Mod.trans h k) rfl (hC.fn) rfl (fun wq eq=>hC.spec wq (hs2.ext eq).m _ _)<|qT<|Vq (fun wq eq=>R.lss rfl rfl)<|qT<|Vq (fun wq eq=>R.notD rfl)<|Vq (fun wq eq=>R.pickTB rfl rfl)<|Vj (cutB rfl ?_)) (fun g5_3=>qF<|qF<|qF<|qF<|qF<|qF<|qF<|qF<|qF<|qF<|qF<|qF<|Vq (fun wq eq=>R.pickFB rfl rfl)<|Vj (cutB rfl ?_))) (fun rg5 w5c e5c=>Vh rfl (fun c36=>Vk<|Vb<|Vr<|oI rfl<|oD rfl rfl<|oJ rfl<|Vn (⟨x+1,rfl,⟨by omega,?_,?_,hs2.ext e5c⟩,?_⟩)) (fun c36=>Ve (⟨(),?_,?_⟩)))
  ·have:x<B:=by omega
   simp [ltf,this] <;> (rw [Bool.eq_iff_iff];simp)
  ·have:¬x<B:=by omega
   simp [this]
  ·have h:=(scs_ge (ltf cf) d1 B _ (x+1) rfl).1
   rw [←scs_step _ _ _ _ c36,g2] at h
   exact h
  ·rw [←scs_step _ _ _ _ c36];exact g2
  ·have h:=(scs_ge (ltf cf) d1 B _ (x+1) rfl).1
   rw [←scs_step _ _ _ _ c36,g2] at h
   omega
  ·have:i2=x:=by rw [←g2,scs_stop _ _ _ _ c36]
   rw [this];rfl
  ·exact hs2.ext e5c
 ·rw [hst (by omega),if_pos (by omega)]
 ·rw [hst (by omega),if_pos (by omega)];exact hBB2
 ·rw [hst (by omega),if_neg (by omega),if_pos (by omega)]
 ·rw [hst (by omega),if_neg (by omega),if_pos (by omega)];exact hBB2
 ·have e3:d3=shiftDown (ltf cf) (i2-1) d2:=by rw [hd3,if_pos (by omega)]
  refine Vl [0,1,2,3,9,10,11] (fun x:Nat×Array α=>[.slice a n cap,.int .i64 A,.int .i64 B,.func (.func g) #[] cb.toArray,.int .i64 i2,.int .i64 s,.int .i64 x.1])
   (fun x w'=>x.1<n∧x.2.size=n∧shiftDown (ltf cf) x.1 x.2=d3∧Srt (enS pr) 1 w0 a x.2 w') (fun x=>x.1) (i2-1,d2) rfl ⟨by dsimp only;omega,z2,e3.symm,hs4.to hd2.symm⟩ ?_
  rintro ρ2 ⟨y,d5⟩ w2 ⟨g1,g2,g3,hs2⟩
  dsimp only at g1 g2 g3 hs2 ⊢
  refine Vs<|Vs<|Vr<|oI rfl<|Vo (R.geq rfl rfl)<|Vn<|Vd rfl (fun c69=>Vk<|Vs<|Vb<|Vs<|Vs<|V.regionQCut mixed 13 (by kernel_rfl) rfl (fun w'=>Ext _ w') (Ext.drawn _) [72,73,74,75,76,77,78,79,80,81,82,83,84] 84 (.bool (!ltf cf d5[y]! d5[y-1]!)) rfl (Vq (fun wq eq=>R.mvF rfl)<|qS rfl<|qI rfl<|Vq (fun wq eq=>iX ru23 sz22 rfl rfl (hs2.ad))<|Vq (fun wq eq=>rla ag22 rfl (((hs2.ext eq).row elt (i:=y) (by omega) (by omega)).c0a rfl))<|qS rfl<|qI rfl<|Vq (fun wq eq=>R.sub rfl rfl (by omega) (by omega))<|Vq (fun wq eq=>iX ru23 sz22 rfl rfl (hs2.ad))<|Vq (fun wq eq=>rla ag22 rfl (((hs2.ext eq).row elt (i:=y-1) (by omega) (by omega)).c0a rfl))<|VQ.callCP (fun _ _ h k=>Mod.trans h k) rfl (hC.fn) rfl (fun wq eq=>hC.spec wq (hs2.ext eq).m _ _)<|Vq (fun wq eq=>R.lss rfl rfl)<|Vq (fun wq eq=>R.notD rfl)<|Vj (cutB rfl ?_)) (fun rg16 w16c e16c=>Vh rfl (fun c84=>Ve (⟨(),rfl,?_⟩)) (fun c84=>Vk<|V.regionW mixed 16 15 (by kernel_rfl) rfl (fun w'=>Ext _ w') (fun w'=>Srt (enS pr) 1 w0 a (d5.setIfInBounds (y) d5[y-1]!) w') (Ext.drawn _)<|wS rfl<|wI rfl<|wS rfl<|wI rfl<|VW.op (fun wq eq=>R.sub rfl rfl (by omega) (by omega))<|wS rfl<|wI rfl<|VW.op (fun wq eq=>R.sub rfl rfl (by omega) (by omega))<|VW.op (fun wq eq=>iX ru23 sz22 rfl rfl (hs2.ad))<|VW.op0 (fun wq eq=>rla ag22 rfl (((hs2.ext (e16c.trans eq)).row elt (i:=y-1) (by omega) (by omega)).c0a rfl))<|wS rfl<|wI rfl<|VW.op (fun wq eq=>iX ru23 sz22 rfl rfl (hs2.ad))<|VW.op0 (fun wq eq=>rla ag22 rfl (((hs2.ext (e16c.trans eq)).row elt (i:=y) (by omega) (by omega)).c0a rfl))<|VW.op (fun wq eq=>iX ru23 sz22 rfl rfl hs2.ad)<|VW.wr0 (fun wq eq=>R.storeSt elt sz22 (hs2.ext (e16c.trans eq)) rfl (i:=y) (by omega) (by omega) rfl)<|VW.nil fun w5 hs5=>Vo (iX ru23 sz22 rfl rfl hs2.ad)<|VL.storeSt elt sz22 hs5 rfl (i:=y-1) (by omega) (by rw [Array.size_setIfInBounds];exact (by omega)) rfl fun w6 hs6=>Vn<|Vr<|oI rfl<|Vo (R.subE (z:=((y-1:Nat):Int)) rfl rfl (by omega) (by omega) (by omega))<|oJ rfl<|Vn (⟨(y-1,swp d5 y (y-1)),rfl,⟨by dsimp only;omega,by dsimp only;rw [sz_swp];exact g2,?_,hs6⟩,by dsimp only;omega⟩)))) (fun c69=>Ve (⟨(),rfl,?_⟩))
  ·simp [ltf] <;> (rw [Bool.eq_iff_iff];simp)
  ·exact (hs2.ext e16c).to (by rw [←g3,shd_stop _ _ _ (by simpa using c84)])
  ·dsimp only;rw [←g3,←shd_step _ _ _ (by omega) (by simpa using c84)]
  ·have hy:y=0:=by omega
   subst hy
   exact hs2.to g3
 ·have e3:d3=d2:=by rw [hd3,if_neg (by omega)]
  exact hs4.to (by rw [e3,hd2];rfl)
 ·have e4:d4=shiftUp (ltf cf) B (i2+1) d3:=by rw [hd4,if_pos (by omega)]
  refine Vl [0,1,2,3,9,10,12] (fun x:Nat×Array α=>[.slice a n cap,.int .i64 A,.int .i64 B,.func (.func g) #[] cb.toArray,.int .i64 i2,.int .i64 s,.int .i64 x.1])
   (fun x w'=>i2+1≤x.1∧x.2.size=n∧shiftUp (ltf cf) B x.1 x.2=d4∧Srt (enS pr) 1 w0 a x.2 w') (fun x=>B-x.1) (i2+1,d3) rfl ⟨by dsimp only;omega,z3,e4.symm,hBC65⟩ ?_
  rintro ρ2 ⟨y,d5⟩ w2 ⟨g1,g2,g3,hs2⟩
  dsimp only at g1 g2 g3 hs2 ⊢
  refine Vs<|Vs<|Vr<|oI rfl<|oI rfl<|oL rfl rfl<|Vn<|Vd rfl (fun c109=>Vk<|Vs<|Vb<|Vs<|Vs<|V.regionQCut mixed 13 (by kernel_rfl) rfl (fun w'=>Ext _ w') (Ext.drawn _) [112,113,114,115,116,117,118,119,120,121,122,123,124] 124 (.bool (!ltf cf d5[y]! d5[y-1]!)) rfl (Vq (fun wq eq=>R.mvF rfl)<|qS rfl<|qI rfl<|Vq (fun wq eq=>iX ru23 sz22 rfl rfl (hs2.ad))<|Vq (fun wq eq=>rla ag22 rfl (((hs2.ext eq).row elt (i:=y) (by omega) (by omega)).c0a rfl))<|qS rfl<|qI rfl<|Vq (fun wq eq=>R.sub rfl rfl (by omega) (by omega))<|Vq (fun wq eq=>iX ru23 sz22 rfl rfl (hs2.ad))<|Vq (fun wq eq=>rla ag22 rfl (((hs2.ext eq).row elt (i:=y-1) (by omega) (by omega)).c0a rfl))<|VQ.callCP (fun _ _ h k=>Mod.trans h k) rfl (hC.fn) rfl (fun wq eq=>hC.spec wq (hs2.ext eq).m _ _)<|Vq (fun wq eq=>R.lss rfl rfl)<|Vq (fun wq eq=>R.notD rfl)<|Vj (cutB rfl ?_)) (fun rg22 w22c e22c=>Vh rfl (fun c124=>Ve (⟨(),rfl,?_⟩)) (fun c124=>Vk<|V.regionW mixed 16 15 (by kernel_rfl) rfl (fun w'=>Ext _ w') (fun w'=>Srt (enS pr) 1 w0 a (d5.setIfInBounds (y) d5[y-1]!) w') (Ext.drawn _)<|wS rfl<|wI rfl<|wS rfl<|wI rfl<|VW.op (fun wq eq=>R.sub rfl rfl (by omega) (by omega))<|wS rfl<|wI rfl<|VW.op (fun wq eq=>R.sub rfl rfl (by omega) (by omega))<|VW.op (fun wq eq=>iX ru23 sz22 rfl rfl (hs2.ad))<|VW.op0 (fun wq eq=>rla ag22 rfl (((hs2.ext (e22c.trans eq)).row elt (i:=y-1) (by omega) (by omega)).c0a rfl))<|wS rfl<|wI rfl<|VW.op (fun wq eq=>iX ru23 sz22 rfl rfl (hs2.ad))<|VW.op0 (fun wq eq=>rla ag22 rfl (((hs2.ext (e22c.trans eq)).row elt (i:=y) (by omega) (by omega)).c0a rfl))<|VW.op (fun wq eq=>iX ru23 sz22 rfl rfl hs2.ad)<|VW.wr0 (fun wq eq=>R.storeSt elt sz22 (hs2.ext (e22c.trans eq)) rfl (i:=y) (by omega) (by omega) rfl)<|VW.nil fun w5 hs5=>Vo (iX ru23 sz22 rfl rfl hs2.ad)<|VL.storeSt elt sz22 hs5 rfl (i:=y-1) (by omega) (by rw [Array.size_setIfInBounds];exact (by omega)) rfl fun w6 hs6=>Vn<|Vr<|oI rfl<|oD rfl rfl<|oJ rfl<|Vn (⟨(y+1,swp d5 y (y-1)),rfl,⟨by dsimp only;omega,by dsimp only;rw [sz_swp];exact g2,?_,hs6⟩,by dsimp only;omega⟩)))) (fun c109=>Ve (⟨(),rfl,?_⟩))
  ·simp [ltf] <;> (rw [Bool.eq_iff_iff];simp)
  ·refine ⟨⟨by omega,by omega⟩,(hs2.ext e22c).to ?_⟩
   have h:ltf cf d5[y]! d5[y-1]! = false:=by simpa using c124
   rw [←g3,shiftUp,if_pos (by omega),h];rfl
  ·dsimp only
   have h:ltf cf d5[y]! d5[y-1]! = true:=by simpa using c124
   rw [←g3,shiftUp.eq_def (ltf cf) B y d5,if_pos (by omega),h];rfl
  ·refine ⟨⟨by omega,by omega⟩,hs2.to ?_⟩
   rw [←g3,shiftUp,if_neg (by omega)]
 ·have e4:d4=d3:=by rw [hd4,if_neg (by omega)]
  rw [e4];exact ⟨⟨by omega,by omega⟩,hBC65⟩
 ·dsimp only
  rw [hst (by omega),if_neg hBB1.1.1,if_neg hBB1.1.2]
 ·have h:5-s=0:=by omega
  rw [←h4,h];rfl
 ·have h:5-s=0:=by omega
  rw [←h4,h];exact hs1
end
end StbL
end Go.Proofs.YtdkhcipjenfcnaaGreatDoor
/- slices.SortFunc: the breaking of patterns. -/
namespace Go.Proofs.YtdkhcipjenfcnaaGreatDoor
open Go.Proofs.Tryz
set_option maxRecDepth 100000
set_option maxHeartbeats 16000000
namespace StbL
set_option maxRecDepth 100000
set_option maxHeartbeats 16000000
open Go.Vc Go.Sort
theorem len_spec (x:Int) (w:World) (h0:0≤x) (h1:x≤18446744073709551615):RetsP prog 88 #[.int .u64 x] w (.int .i64 (bitsLen x.toNat)):=by
 refine Calls.mono (Any.bits_Len Tryz.bits x w h0 h1) ?_
 rintro e w' ⟨rfl,rfl⟩
 exact ⟨_,rfl,by rw [bitLen_eq _ (by omega)],Vc.Mod.refl _ _⟩
theorem bitsLen_le (n:Nat) (h:0<n) (h2:n≤1152921504606846976):bitsLen n≤61∧2 ^ bitsLen n≤2*n:=by
 unfold bitsLen
 rw [if_neg (by omega)]
 have h1:=Nat.log2_self_le (n:=n) (by omega)
 refine ⟨?_,by rw [Nat.pow_succ];omega⟩
 have:n.log2<61:=(Nat.log2_lt (by omega)).2 (by omega)
 omega
theorem pow2_spec (n:Nat) (w:World) (h0:0<n) (h1:n≤1152921504606846976):RetsP prog 140 #[.int .i64 n] w (.int .u64 ((2 ^ bitsLen n:Nat):Int)):=by
 have hl:=bitsLen_le n h0 h1
 refine eN (args:=[_]) func140 rfl ntmps140 ?_
 refine Vs<|Vr<|oJ rfl<|Vn<|Vs<|Vr<|oI rfl<|Vo (R.conv ru3 ru108 rfl (wrap_u64 (by omega) (by omega)))<|Vp call88 rfl (len_spec (n:Int) _ (by omega) (by omega)) fun w1_2 e1_2=>Vo (R.shl rfl rfl (Int.natCast_nonneg _))<|oJ rfl<|Vn<|Vt (fret1 (v:=.int _ _) rfl rfl rfl (⟨?_,e1_2⟩))
 have e1:IntKind.u64.wrap (1*2 ^ Min.min (bitsLen (n:Int).toNat:Int).toNat IntKind.u64.bits)=((2 ^ bitsLen n:Nat):Int):=by
  rw [Int.toNat_natCast,Int.toNat_natCast,show Min.min (bitsLen n) IntKind.u64.bits=bitsLen n from Nat.min_eq_left (by show bitsLen n≤64;omega),Int.one_mul]
  have e2:((2:Int) ^ bitsLen n)=((2 ^ bitsLen n:Nat):Int):=by simp
  rw [e2]
  have h3:0≤((2 ^ bitsLen n:Nat):Int):=Int.natCast_nonneg _
  exact wrap_u64 (by omega) (by omega)
 rw [e1]
theorem one_chain {s:Nat} {x y z:World} (e:Ext x y) (m:Vc.Mod (Vc.one s) y z):Vc.Mod (Vc.one s) x z:=Vc.Mod.then (e.weaken fun _ _ h=>h.elim) m fun _ _ h=>h
theorem one_then {s:Nat} {x y z:World} (e:Vc.Mod (Vc.one s) x y) (m:Vc.Mod (Vc.one s) y z):Vc.Mod (Vc.one s) x z:=Vc.Mod.then e m fun _ _ h=>h
theorem next_spec (s T:Nat) (v:Int) (w:World) (hB:Blk w s (.cells #[.int .u64 v] T (0,0))) :
  RetsY prog 141 #[pA s] w (fun v=>.int .u64 v) (fun v' w'=>Vc.Mod (Vc.one s) w w'∧Blk w' s (.cells #[.int .u64 v'] T (0,0))):=by
 refine eN (args:=[_]) func141 rfl ntmps141 ?_
 refine Vs<|Vr<|oJ rfl<|Vn<|Vs<|rQ 8 (Vq (fun wq eq=>R.mvP rfl)<|Vq (fun wq eq=>R.nilCheck rfl)<|Vq (fun wq eq=>rla isAgg139 rfl ((hB.ext eq).cell _))<|Vq (fun wq eq=>R.mvP rfl)<|Vq (fun wq eq=>R.nilCheck rfl)<|Vq (fun wq eq=>rla isAgg139 rfl ((hB.ext eq).cell _))<|Vq (fun wq eq=>R.shl rfl rfl (by decide))<|Vq (fun wq eq=>R.xor rfl rfl)<|Vj fun w1q e1q=>Vo (R.nilCheck rfl)<|VL.store (v:=.int _ _) sizeOf139 rfl rfl rfl rfl (hB.ext e1q) rfl rfl fun w1 m1 z1 hB1=>Vn<|Vs<|rQ 8 (Vq (fun wq eq=>R.mvP rfl)<|Vq (fun wq eq=>R.nilCheck rfl)<|Vq (fun wq eq=>rla isAgg139 rfl ((hB1.ext eq).cell _))<|Vq (fun wq eq=>R.mvP rfl)<|Vq (fun wq eq=>R.nilCheck rfl)<|Vq (fun wq eq=>rla isAgg139 rfl ((hB1.ext eq).cell _))<|Vq (fun wq eq=>R.shr rfl rfl (by decide))<|Vq (fun wq eq=>R.xor rfl rfl)<|Vj fun w2q e2q=>Vo (R.nilCheck rfl)<|VL.store (v:=.int _ _) sizeOf139 rfl rfl rfl rfl (hB1.ext e2q) rfl rfl fun w2 m2 z2 hB2=>Vn<|Vs<|rQ 8 (Vq (fun wq eq=>R.mvP rfl)<|Vq (fun wq eq=>R.nilCheck rfl)<|Vq (fun wq eq=>rla isAgg139 rfl ((hB2.ext eq).cell _))<|Vq (fun wq eq=>R.mvP rfl)<|Vq (fun wq eq=>R.nilCheck rfl)<|Vq (fun wq eq=>rla isAgg139 rfl ((hB2.ext eq).cell _))<|Vq (fun wq eq=>R.shl rfl rfl (by decide))<|Vq (fun wq eq=>R.xor rfl rfl)<|Vj fun w3q e3q=>Vo (R.nilCheck rfl)<|VL.store (v:=.int _ _) sizeOf139 rfl rfl rfl rfl (hB2.ext e3q) rfl rfl fun w3 m3 z3 hB3=>Vn<|Vs<|Vr<|Vo (R.mvP rfl)<|Vo (R.nilCheck rfl)<|Vo (rla isAgg139 rfl ((hB3.ext (Mod.refl _ _)).cell _))<|oJ rfl<|Vn<|Vt (fret1 (v:=.int _ _) rfl rfl rfl (?_)))))
 exact ⟨_,rfl,one_then (one_then (one_chain e1q m1) (one_chain e2q m2)) (one_chain e3q m3),hB3⟩
section
variable {α:Type} [Inhabited α] {pr:α→Option Addr×Nat×Nat} {a:Option Addr} {w0:World} {g:Nat} {cb:List Value} {cf:α→α→Int}
theorem break_spec (elt:Elt (enS pr) 1) (fv:Value) (hfv:∃ g cb,fv=.func (.func g) #[] cb) (cap n:Nat) (A B:Nat) (d:Array α) (w:World) (hs:Srt (enS pr) 1 w0 a d w) (ha:abk a<w0.heap.size) (hn:d.size=n) (hb:n≤1152921504606846976) (hAB:A<B) (hB:B≤n) :
  RetsY prog 163 #[.slice a n cap,.int .i64 A,.int .i64 B,fv] w (fun _:Array α=>.tuple #[]) (fun d' w'=>PermIn A B d d'∧Srt (enS pr) 1 w0 a d' w'):=by
 have hsz:=hs.m.size
 obtain ⟨g,cb,rfl⟩:=hfv
 refine eN (args:=[_,_,_,_]) func163 rfl ntmps163 ?_
 refine Vs<|Vr<|oI rfl<|oI rfl<|Vo (R.subE (z:=((B-A:Nat):Int)) rfl rfl (by omega) (by omega) (by omega))<|oJ rfl<|Vn<|Vs<|Vr<|oI rfl<|Vo (R.geq rfl rfl)<|Vn<|Vd rfl (fun c17=>Vs<|Vr<|oI rfl<|Vo (R.conv ru3 runUnderlying139 rfl (wrap_u64 (by omega) (by omega)))<|VL.allocSt (v:=.int _ _) zeroValue139 sizeOf139 rfl rfl rfl rfl rfl fun s w1 hs1 e1 hS1=>Vn<|Vs<|Vr<|oI rfl<|Vp call140 rfl (pow2_spec (B-A) _ (by omega) (by omega)) fun w3_1 e3_1=>oJ rfl<|Vn<|Vs<|Vr<|oI rfl<|oI rfl<|Vo (R.quo rfl rfl (by omega) (by omega) (by omega))<|Vo (R.mul rfl rfl (by omega) (by omega))<|oD rfl rfl<|Vo (R.subE (z:=((A+(B-A) / 4*2-1:Nat):Int)) rfl rfl (by omega) (by omega) (by omega))<|oJ rfl<|Vn<|Vb (?_)) (fun c17=>Vk (fend0 rfl (⟨d,rfl,permIn_refl _ _ _,hs.ext (Mod.refl _ _)⟩)))
 have hl:=bitsLen_le (B-A) (by omega) (by omega)
 have hp:1≤2 ^ bitsLen (B-A):=Nat.one_le_two_pow
 have hne:∀ k,aBlk a k→k≠s:=by
  rintro k ⟨ad,rfl,rfl⟩ h
  have:ad.block<w0.heap.size:=ha
  omega
 refine Vl [0,1,8,9,10,11] (fun x:Nat×Int×Array α=>[.slice a n cap,.int .i64 A,.int .i64 (B-A:Nat),pA s,.int .u64 ((2 ^ bitsLen (B-A):Nat):Int),.int .i64 (A+(B-A) / 4*2-1+x.1:Nat)])
  (fun x w'=>x.1≤3∧PermIn A B d x.2.2∧Srt (enS pr) 1 w0 a x.2.2 w'∧Blk w' s (.cells #[.int .u64 x.2.1] 139 (0,0))) (fun x=>3-x.1) (0,_,d) rfl ⟨by simp,permIn_refl _ _ _,hs.ext (e1.trans e3_1),hS1.ext e3_1⟩ ?_
 rintro ρ ⟨q,v,d2⟩ w2 ⟨h1,h2,hs2,hB2⟩
 dsimp only at h1 h2 hs2 hB2 ⊢
 have hz:d2.size=n:=h2.1.trans hn
 refine Vs<|Vs<|Vr<|oI rfl<|oI rfl<|oI rfl<|Vo (R.quo rfl rfl (by omega) (by omega) (by omega))<|Vo (R.mul rfl rfl (by omega) (by omega))<|oD rfl rfl<|oD rfl rfl<|Vo (R.leq rfl rfl)<|Vn<|Vd rfl (fun c35=>Vk<|Vs<|Vb<|Vs<|Vr<|VL.callY call141 rfl (next_spec s _ v _ (hB2.ext (Mod.refl _ _))) fun v2 w3 ⟨m3,hB3⟩=>oI rfl<|Vo (R.subU rfl rfl (by omega) (by omega))<|Vo (R.andU rfl rfl)<|Vo (R.conv ru108 ru3 rfl (wrap_i64 (by have:=and_le v2 (((2 ^ bitsLen (B-A):Nat):Int)-1) (by omega) (by omega);omega) (by have:=and_le v2 (((2 ^ bitsLen (B-A):Nat):Int)-1) (by omega) (by omega);omega)))<|oJ rfl<|Vn<|V.cut [0,1,8,9,10,11,12] (fun x:Nat=>[.slice a n cap,.int .i64 A,.int .i64 (B-A:Nat),pA s,.int .u64 ((2 ^ bitsLen (B-A):Nat):Int),.int .i64 (A+(B-A) / 4*2-1+q:Nat),.int .i64 x]) (fun x w'=>x<B-A∧Srt (enS pr) 1 w0 a d2 w'∧Blk w' s (.cells #[.int .u64 v2] 139 (0,0))) (Vs<|Vr<|oI rfl<|oI rfl<|Vo (R.geq rfl rfl)<|Vn<|Vd rfl (fun c45=>Vr<|oI rfl<|oI rfl<|Vo (R.sub rfl rfl (by have:=and_le v2 (((2 ^ bitsLen (B-A):Nat):Int)-1) (by omega) (by omega);omega) (by have:=and_le v2 (((2 ^ bitsLen (B-A):Nat):Int)-1) (by omega) (by omega);omega))<|oJ rfl<|Vn (?_)) (fun c45=>Vk (?_))) (fun rgC45 xC45 wBC45 hBC45=>V.regionW mixed 18 17 (by kernel_rfl) rfl (fun w'=>Ext _ w') (fun w'=>Srt (enS pr) 1 wBC45 a (d2.setIfInBounds (A+(B-A) / 4*2-1+q) d2[A+xC45]!) w') (Ext.drawn _)<|wS rfl<|wI rfl<|wS rfl<|wI rfl<|wI rfl<|VW.op (fun wq eq=>R.add rfl rfl (by omega) (by omega))<|wS rfl<|wI rfl<|wI rfl<|VW.op (fun wq eq=>R.add rfl rfl (by omega) (by omega))<|VW.op (fun wq eq=>R.ixS ru23 sz22 rfl rfl (by have:=hBC45.1 ; omega) (by have:=hBC45.1 ; omega) (hBC45.2.1.rb.ad))<|VW.op0 (fun wq eq=>rla ag22 rfl (((hBC45.2.1.rb.ext eq).row elt (i:=A+xC45) (by have:=hBC45.1 ; omega) (by have:=hBC45.1 ; omega)).c0a rfl))<|wS rfl<|wI rfl<|VW.op (fun wq eq=>R.ixS ru23 sz22 rfl rfl (by have:=hBC45.1 ; omega) (by have:=hBC45.1 ; omega) (hBC45.2.1.rb.ad))<|VW.op0 (fun wq eq=>rla ag22 rfl (((hBC45.2.1.rb.ext eq).row elt (i:=A+(B-A) / 4*2-1+q) (by have:=hBC45.1 ; omega) (by have:=hBC45.1 ; omega)).c0a rfl))<|VW.op (fun wq eq=>R.ixS ru23 sz22 rfl rfl (by have:=hBC45.1 ; omega) (by have:=hBC45.1 ; omega) hBC45.2.1.rb.ad)<|VW.wr0 (fun wq eq=>R.storeSt elt sz22 (hBC45.2.1.rb.ext eq) rfl (i:=A+(B-A) / 4*2-1+q) (by have:=hBC45.1 ; omega) (by have:=hBC45.1 ; omega) rfl)<|VW.nil fun w5 hs5=>Vo (R.ixS ru23 sz22 rfl rfl (by have:=hBC45.1 ; omega) (by have:=hBC45.1 ; omega) hBC45.2.1.rb.ad)<|VL.storeSt elt sz22 hs5 rfl (i:=A+xC45) (by have:=hBC45.1 ; omega) (by rw [Array.size_setIfInBounds];exact (by have:=hBC45.1 ; omega)) rfl fun w6 hs6=>Vn<|Vr<|oI rfl<|Vo (R.addE (z:=((A+(B-A) / 4*2-1+(q+1):Nat):Int)) rfl rfl (by omega) (by omega) (by omega))<|oJ rfl<|Vn (⟨(q+1,v2,swp d2 (A+(B-A) / 4*2-1+q) (A+xC45)),rfl,⟨by dsimp only;omega,?_,hBC45.2.1.back hs6,hBC45.2.2.mod hs6.m fun h=>hne _ h rfl⟩,by dsimp only;omega⟩))) (fun c35=>Ve (fend0 rfl (⟨d2,rfl,h2,hs2.ext (Mod.refl _ _)⟩)))
 ·have hal:=and_le v2 (((2 ^ bitsLen (B-A):Nat):Int)-1) (by omega) (by omega)
  obtain ⟨o,ho⟩:=Int.eq_ofNat_of_zero_le hal.1
  have e:(IntKind.u64.wrap (BitVec.ofInt 64 v2 &&& BitVec.ofInt 64 (((2 ^ bitsLen (B-A):Nat):Int)-1)).toNat)-((B-A:Nat):Int)=((o-(B-A):Nat):Int):=by omega
  exact ⟨o-(B-A),congrArg (fun z:Int=>[Value.slice a n cap,.int .i64 A,.int .i64 (B-A:Nat),pA s,.int .u64 ((2 ^ bitsLen (B-A):Nat):Int),.int .i64 (A+(B-A) / 4*2-1+q:Nat),.int .i64 z]) e,by omega,hs2.own (by omega) ha m3,hB3⟩
 ·have hal:=and_le v2 (((2 ^ bitsLen (B-A):Nat):Int)-1) (by omega) (by omega)
  obtain ⟨o,ho⟩:=Int.eq_ofNat_of_zero_le hal.1
  exact ⟨o,congrArg (fun z:Int=>[Value.slice a n cap,.int .i64 A,.int .i64 (B-A:Nat),pA s,.int .u64 ((2 ^ bitsLen (B-A):Nat):Int),.int .i64 (A+(B-A) / 4*2-1+q:Nat),.int .i64 z]) ho,by omega,hs2.own (by omega) ha m3,hB3⟩
 ·have:=hBC45.1
  exact permIn_trans d d2 _ A B h2 (swp_permIn d2 A B _ _ (by omega) (by omega) (by omega) (by omega) (by omega))
end
end StbL
end Go.Proofs.YtdkhcipjenfcnaaGreatDoor
/- slices.SortFunc: the recursion, and the function itself. -/
namespace Go.Proofs.YtdkhcipjenfcnaaGreatDoor
open Go.Proofs.Tryz
set_option maxRecDepth 100000
set_option maxHeartbeats 16000000
namespace StbL
set_option maxRecDepth 100000
set_option maxHeartbeats 16000000
open Go.Vc Go.Sort
section
variable {α:Type} [Inhabited α] {pr:α→Option Addr×Nat×Nat} {a:Option Addr} {w0:World} {g:Nat} {cb:List Value} {cf:α→α→Int}
theorem pdq_spec (hC:CmpOk pr a w0 g cb cf) (hO:SWO (ltf cf)) (ha:abk a<w0.heap.size) (cap n:Nat) (hb:n≤1152921504606846976):∀ (m A B:Nat) (lim0:Int) (d:Array α) (w:World),B-A<m→Srt (enS pr) 1 w0 a d w→d.size=n→A≤B→B≤n→0≤lim0→lim0≤1000→Below (ltf cf) A B d →
  RetsY prog 153 #[.slice a n cap,.int .i64 A,.int .i64 B,.int .i64 lim0,.func (.func g) #[] cb.toArray] w (fun _:Array α=>.tuple #[]) (fun d' w'=>PermIn A B d d'∧SortedIn (ltf cf) A B d'∧Srt (enS pr) 1 w0 a d' w'):=by
 have elt:=hC.elt
 intro m
 induction m with
 | zero=>intro A B lim0 d w h;omega
 | succ m ih =>
 intro A B lim0 d w hm hs hn hAB hB hl0 hl1 hbel
 refine eN (args:=[_,_,_,_,_]) func153 rfl ntmps153 ?_
 refine Vs<|Vr<|oA rfl<|Vn<|Vs<|Vr<|oA rfl<|Vn<|Vb (?_)
 refine Vl [0,1,2,3,4,10,11] (fun x:Nat×Nat×Int×Bool×Bool×Array α=>[.slice a n cap,.int .i64 x.1,.int .i64 x.2.1,.int .i64 x.2.2.1,.func (.func g) #[] cb.toArray,.bool x.2.2.2.1,.bool x.2.2.2.2.1])
  (fun x w'=>A≤x.1∧x.1≤x.2.1∧x.2.1≤B∧0≤x.2.2.1∧x.2.2.1≤1000∧x.2.2.2.2.2.size=n∧Below (ltf cf) x.1 x.2.1 x.2.2.2.2.2∧(∀ R,PermIn x.1 x.2.1 x.2.2.2.2.2 R→SortedIn (ltf cf) x.1 x.2.1 R→PermIn A B d R∧SortedIn (ltf cf) A B R)∧Srt (enS pr) 1 w0 a x.2.2.2.2.2 w')
  (fun x=>x.2.1-x.1) (A,B,lim0,true,true,d) rfl ⟨Nat.le_refl _,hAB,Nat.le_refl _,hl0,hl1,hn,hbel,fun R h1 h2=>⟨h1,h2⟩,hs⟩ ?_
 rintro ρ ⟨a1,b1,lim,wb,wp,d1⟩ w1 ⟨h1,h2,h3,h4,h5,h6,h7,h8,hs1⟩
 dsimp only at h1 h2 h3 h4 h5 h6 h7 h8 hs1 ⊢
 refine Vb<|Vs<|Vr<|oI rfl<|oI rfl<|Vo (R.subE (z:=((b1-a1:Nat):Int)) rfl rfl (by omega) (by omega) (by omega))<|oJ rfl<|Vn<|Vs<|Vs<|Vr<|oI rfl<|Vo (R.leq rfl rfl)<|Vn<|Vd rfl (fun c25=>Vs<|Vr<|oS rfl<|oI rfl<|oI rfl<|Vo (R.mvF rfl)<|VL.callK call156 rfl (ins_spec hC cap a1 b1 n d1 _ (hs1.ext (Mod.refl _ _)) h6 (by omega) h2 (by omega)) fun w2 hs2=>Vn<|Vt (fret0 rfl (?_))) (fun c25=>Vk<|Vs<|Vs<|Vr<|oI rfl<|Vo (R.eql rfl rfl)<|Vn<|Vd rfl (fun c32=>Vs<|Vr<|oS rfl<|oI rfl<|oI rfl<|Vo (R.mvF rfl)<|VL.callK call162 rfl (heap_spec hC cap a1 b1 n d1 _ (hs1.ext (Mod.refl _ _)) h6 hb (by omega) (by omega)) fun w2 hs2=>Vn<|Vt (fret0 rfl (?_))) (fun c32=>Vk<|V.cut [0,1,2,3,4,10,11,12] (fun x:Int×Array α=>[.slice a n cap,.int .i64 a1,.int .i64 b1,.int .i64 x.1,.func (.func g) #[] cb.toArray,.bool wb,.bool wp,.int .i64 (b1-a1:Nat)]) (fun x w'=>12<b1-a1∧(0≤x.1∧x.1≤1000)∧PermIn a1 b1 d1 x.2∧x.2.size=n∧Srt (enS pr) 1 w0 a x.2 w') (Vs<|Vr<|oB rfl<|Vo (R.not rfl)<|Vn<|Vh rfl (fun c39=>Vs<|Vr<|oS rfl<|oI rfl<|oI rfl<|Vo (R.mvF rfl)<|VL.callY call163 rfl (break_spec elt _ ⟨_,_,rfl⟩ cap n a1 b1 d1 _ (hs1.ext (Mod.refl _ _)) ha h6 hb (by omega) (by omega)) fun d2 w2 ⟨p2,hs2⟩=>Vn<|Vr<|oI rfl<|Vo (R.sub rfl rfl (by omega) (by omega))<|oJ rfl<|Vn (?_)) (fun c39=>Vk (?_))) (fun rgC39 xC39 wBC39 hBC39=>Vs<|Vr<|oS rfl<|oI rfl<|oI rfl<|Vo (R.mvF rfl)<|VL.callY call164 rfl (pivot_spec hC cap n a1 b1 xC39.2 _ (hBC39.2.2.2.2.ext (Mod.refl _ _)) ha hBC39.2.2.2.1 hb (by have:=hBC39.1;omega) (by omega)) fun x3 w3 ⟨h9,hs3⟩=>Vo (R.mvT rfl)<|Vo (R.extr rfl rfl)<|Vo (R.extr rfl rfl)<|oJ rfl<|oJ rfl<|Vn<|V.cut [0,1,2,3,4,10,11,12,13,14] (fun x:Nat×Int×Array α=>[.slice a n cap,.int .i64 a1,.int .i64 b1,.int .i64 xC39.1,.func (.func g) #[] cb.toArray,.bool wb,.bool wp,.int .i64 (b1-a1:Nat),.int .i64 x.1,.int .i64 x.2.1]) (fun x w'=>(a1≤x.1∧x.1<b1)∧PermIn a1 b1 d1 x.2.2∧x.2.2.size=n∧Srt (enS pr) 1 w0 a x.2.2 w') (Vs<|Vr<|oI rfl<|Vo (R.eql rfl rfl)<|Vn<|Vd rfl (fun c56=>Vs<|Vr<|oS rfl<|oI rfl<|oI rfl<|Vo (R.mvF rfl)<|VL.callK call165 rfl (reverse_spec hC cap n a1 b1 xC39.2 _ (hs3.ext (Mod.refl _ _)) hBC39.2.2.2.1 hb (by have:=hBC39.1;omega) (by omega)) fun w4 hs4=>Vn<|Vs<|Vr<|oI rfl<|Vo (R.sub rfl rfl (by omega) (by omega))<|oI rfl<|oI rfl<|Vo (R.sub rfl rfl (by omega) (by omega))<|Vo (R.sub rfl rfl (by omega) (by omega))<|oJ rfl<|Vn<|Vr<|oJ rfl<|Vn (?_)) (fun c56=>Vk (?_))) (fun rgC56 xC56 wBC56 hBC56=>V.cut [0,1,2,3,4,10,11,12,13] (fun x:Array α=>[.slice a n cap,.int .i64 a1,.int .i64 b1,.int .i64 xC39.1,.func (.func g) #[] cb.toArray,.bool wb,.bool wp,.int .i64 (b1-a1:Nat),.int .i64 xC56.1]) (fun x w'=>PermIn a1 b1 d1 x∧x.size=n∧Srt (enS pr) 1 w0 a x w') (Vs<|V.regionCut [68,69,70,71,72,73,74,75] 75 (.bool (wb&&wp&&decide (xC56.2.1=1))) (fun w'=>Ext _ w') rfl (oB rfl<|oB rfl<|VL.and rfl rfl (fun g15_1=>oB rfl<|oP rfl rfl<|oB rfl<|VL.and rfl rfl (fun g15_4=>oI rfl<|lT<|Vo (R.eql rfl rfl)<|oP rfl rfl<|VL.nil ⟨rfl,cutB rfl ?_,Mod.refl _ _⟩) (fun g15_4=>lF<|oQ rfl rfl<|VL.nil ⟨rfl,cutB rfl ?_,Mod.refl _ _⟩)) (fun g15_1=>oQ rfl rfl<|oB rfl<|lF<|lF<|oQ rfl rfl<|VL.nil ⟨rfl,cutB rfl ?_,Mod.refl _ _⟩)) (fun rg15 w15c e15c=>Vh rfl (fun c75=>Vs<|Vr<|oS rfl<|oI rfl<|oI rfl<|Vo (R.mvF rfl)<|VL.callK call166 rfl (pins_spec hC cap n a1 b1 xC56.2.2 _ (hBC56.2.2.2.ext e15c) hBC56.2.2.1 hb (by have:=hBC56.1;omega) (by omega)) fun w5 hs5=>Vn<|Vh rfl (fun c80=>Vt (fret0 rfl (?_))) (fun c80=>Vk (?_))) (fun c75=>Vk (?_)))) (fun rgC75 xC75 wBC75 hBC75=>Vs<|Vs<|V.regionQCut mixed 17 (by kernel_rfl) rfl (fun w'=>Ext _ w') (Ext.drawn _) [81,82,83,84,85,86,87,88,89,90,91,92,93,94,95,96,97] 97 (.bool (decide (0<a1)&&!ltf cf xC75[a1-1]! xC75[xC56.1]!)) rfl (qI rfl<|Vq (fun wq eq=>R.gtr rfl rfl)<|Vq (fun wq eq=>R.mvB rfl)<|VQ.andP rfl rfl (fun g17_2=>Vq (fun wq eq=>R.mvF rfl)<|qT<|qS rfl<|qT<|qI rfl<|qT<|Vq (fun wq eq=>R.sub rfl rfl (by omega) (by omega))<|qT<|Vq (fun wq eq=>R.ixS ru23 sz22 rfl rfl (by have:=hBC56.1 ; have:=hBC75.2.1 ; omega) (by have:=hBC56.1 ; have:=hBC75.2.1 ; omega) (hBC75.2.2.ad))<|qT<|Vq (fun wq eq=>rla ag22 rfl (((hBC75.2.2.ext eq).row elt (i:=a1-1) (by have:=hBC56.1 ; have:=hBC75.2.1 ; omega) (by have:=hBC56.1 ; have:=hBC75.2.1 ; omega)).c0a rfl))<|qT<|qS rfl<|qT<|qI rfl<|qT<|Vq (fun wq eq=>R.ixS ru23 sz22 rfl rfl (by have:=hBC56.1 ; have:=hBC75.2.1 ; omega) (by have:=hBC56.1 ; have:=hBC75.2.1 ; omega) (hBC75.2.2.ad))<|qT<|Vq (fun wq eq=>rla ag22 rfl (((hBC75.2.2.ext eq).row elt (i:=xC56.1) (by have:=hBC56.1 ; have:=hBC75.2.1 ; omega) (by have:=hBC56.1 ; have:=hBC75.2.1 ; omega)).c0a rfl))<|qT<|VQ.callCP (fun _ _ h k=>Mod.trans h k) rfl (hC.fn) rfl (fun wq eq=>hC.spec wq (hBC75.2.2.ext eq).m _ _)<|qT<|Vq (fun wq eq=>R.lss rfl rfl)<|qT<|Vq (fun wq eq=>R.notD rfl)<|Vq (fun wq eq=>R.pickTB rfl rfl)<|Vj (cutB rfl ?_)) (fun g17_2=>qF<|qF<|qF<|qF<|qF<|qF<|qF<|qF<|qF<|qF<|qF<|qF<|Vq (fun wq eq=>R.pickFB rfl rfl)<|Vj (cutB rfl ?_))) (fun rg17 w17c e17c=>Vh rfl (fun c97=>Vs<|Vr<|oS rfl<|oI rfl<|oI rfl<|oI rfl<|Vo (R.mvF rfl)<|VL.callK call167 rfl (partEq_spec hC cap n a1 b1 xC56.1 xC75 _ (hBC75.2.2.ext e17c) hBC75.2.1 hb (by have:=hBC56.1;omega) (by omega) hBC56.1.1 hBC56.1.2) fun w6 hs6=>oJ rfl<|Vn<|Vs<|Vr<|oI rfl<|oJ rfl<|Vn<|Ve (?_)) (fun c97=>Vk<|Vs (?_))))))))
 ·exact ⟨_,rfl,(h8 _ (insertionSort_holds hO d1 a1 b1 h2 (by omega)).1 (insertionSort_holds hO d1 a1 b1 h2 (by omega)).2).1,(h8 _ (insertionSort_holds hO d1 a1 b1 h2 (by omega)).1 (insertionSort_holds hO d1 a1 b1 h2 (by omega)).2).2,hs2⟩
 ·exact ⟨_,rfl,(h8 _ (heapSort_holds hO d1 a1 b1 h2 (by omega)).1 (heapSort_holds hO d1 a1 b1 h2 (by omega)).2).1,(h8 _ (heapSort_holds hO d1 a1 b1 h2 (by omega)).1 (heapSort_holds hO d1 a1 b1 h2 (by omega)).2).2,hs2⟩
 ·exact ⟨(lim-1,d2),rfl,by omega,⟨by dsimp only;omega,by dsimp only;omega⟩,p2,p2.1.trans h6,hs2⟩
 ·exact ⟨(lim,d1),rfl,by omega,⟨h4,h5⟩,permIn_refl _ _ _,h6,hs1⟩
 ·obtain ⟨p0,hp0⟩:=Int.eq_ofNat_of_zero_le (show 0≤x3.1 by omega)
  have e:((b1:Int)-1-(x3.1-a1))=((b1-1-(p0-a1):Nat):Int):=by omega
  have pr:=reverseRange_holds xC39.2 a1 b1 h2 (by have:=hBC39.2.2.2.1;omega)
  exact ⟨(b1-1-(p0-a1),1,_),congrArg (fun z:Int=>[Value.slice a n cap,.int .i64 a1,.int .i64 b1,.int .i64 xC39.1,.func (.func g) #[] cb.toArray,.bool wb,.bool wp,.int .i64 (b1-a1:Nat),.int .i64 z,.int .i64 1]) e,⟨by dsimp only;omega,by dsimp only;omega⟩,permIn_trans _ _ _ _ _ hBC39.2.2.1 pr,pr.1.trans hBC39.2.2.2.1,hs4⟩
 ·obtain ⟨p0,hp0⟩:=Int.eq_ofNat_of_zero_le (show 0≤x3.1 by omega)
  exact ⟨(p0,x3.2,xC39.2),congrArg (fun z:Int=>[Value.slice a n cap,.int .i64 a1,.int .i64 b1,.int .i64 xC39.1,.func (.func g) #[] cb.toArray,.bool wb,.bool wp,.int .i64 (b1-a1:Nat),.int .i64 z,.int .i64 x3.2]) hp0,⟨by dsimp only;omega,by dsimp only;omega⟩,hBC39.2.2.1,hBC39.2.2.2.1,hs3⟩
 ·rw [g15_1,g15_4];rfl
 ·rw [g15_1,g15_4];rfl
 ·rw [g15_1];rfl
 ·have pp:=partialInsertionSort_holds hO xC56.2.2 a1 b1 (by omega) (by have:=hBC56.2.2.1;omega) (h7.perm (by omega) hBC56.2.1)
  have fin:=h8 _ (permIn_trans _ _ _ _ _ hBC56.2.1 pp.1) (pp.2 c80)
  exact ⟨_,rfl,fin.1,fin.2,hs5⟩
 ·have pp:=partialInsertionSort_holds hO xC56.2.2 a1 b1 (by omega) (by have:=hBC56.2.2.1;omega) (h7.perm (by omega) hBC56.2.1)
  exact ⟨_,rfl,permIn_trans _ _ _ _ _ hBC56.2.1 pp.1,pp.1.1.trans hBC56.2.2.1,hs5⟩
 ·exact ⟨xC56.2.2,rfl,hBC56.2.1,hBC56.2.2.1,hBC56.2.2.2.ext e15c⟩
 ·have:0<a1:=by omega
  simp [ltf,this] <;> (rw [Bool.eq_iff_iff];simp)
 ·have:¬0<a1:=by omega
  simp [this]
 ·have hc:=lt_and c97
  have hnl:ltf cf xC75[a1-1]! xC75[xC56.1]! = false:=by
   rw [Bool.and_eq_true] at c97
   simpa using c97.2
  obtain ⟨md,d4,hx⟩:∃ md d4,partitionEqual (ltf cf) xC75 a1 b1 xC56.1=(md,d4):=⟨_,_,rfl⟩
  obtain ⟨r1,r2,r3,r4,r5⟩:=round_eq hO (partitionEqual_holds _) hc hBC56.1.1 hBC56.1.2 (by have:=hBC75.2.1;omega) (h7.perm (by omega) hBC75.1) hnl hx
  simp only [hx] at hs6 ⊢
  exact ⟨(md,b1,xC39.1,wb,wp,d4),rfl,⟨by dsimp only;omega,r2,h3,hBC39.2.1.1,hBC39.2.1.2,r3.trans hBC75.2.1,r4,fun R hR hsR=>h8 R (permIn_trans _ _ _ _ _ hBC75.1 (r5 R hR hsR).1) (r5 R hR hsR).2,hs6⟩,by dsimp only;omega⟩
 ·have ps:=fun w' hs'=>part_spec hC cap n a1 b1 xC56.1 xC75 w' hs' hBC75.2.1 hb (by have:=hBC56.1;omega) (by omega) hBC56.1.1 hBC56.1.2
  obtain ⟨md,ap,d4,hx⟩:∃ md ap d4,partition (ltf cf) xC75 a1 b1 xC56.1=(md,ap,d4):=⟨_,_,_,rfl⟩
  obtain ⟨r1,r2,r3,r4,r5,r6,r7⟩:=round_part hO (partition_holds _) hBC56.1.1 hBC56.1.2 (by have:=hBC75.2.1;omega) (h7.perm (by omega) hBC75.1) hx
  simp only [hx] at ps
  refine Vr<|oS rfl<|oI rfl<|oI rfl<|oI rfl<|Vo (R.mvF rfl)<|VL.callK call168 rfl (ps _ (hBC75.2.2.ext (e17c.trans (Mod.refl _ _)))) fun w7 hs7=>Vo (R.mvT rfl)<|Vo (R.extr rfl rfl)<|Vo (R.extr rfl rfl)<|oJ rfl<|oA rfl<|Vn<|Vs<|Vr<|oB rfl<|oA rfl<|Vn<|Vs<|Vr<|oI rfl<|oI rfl<|Vo (R.subE (z:=((md-a1:Nat):Int)) rfl rfl (by omega) (by omega) (by omega))<|oI rfl<|oI rfl<|Vo (R.subE (z:=((b1-md:Nat):Int)) rfl rfl (by omega) (by omega) (by omega))<|oJ rfl<|oJ rfl<|Vn<|Vs<|Vr<|oI rfl<|Vo (R.quo rfl rfl (by omega) (by omega) (by omega))<|oJ rfl<|Vn<|Vs<|Vr<|oI rfl<|oI rfl<|oL rfl rfl<|Vn<|Vd rfl (fun c125=>Vs<|Vr<|oI rfl<|oI rfl<|Vo (R.geq rfl rfl)<|oA rfl<|Vn<|Vs<|Vr<|oS rfl<|oI rfl<|oI rfl<|oI rfl<|Vo (R.mvF rfl)<|VL.callY call153 rfl (ih a1 md xC39.1 d4 _ (by omega) (hs7.ext (Mod.refl _ _)) (r3.trans hBC75.2.1) r1 (by omega) hBC39.2.1.1 hBC39.2.1.2 r4) fun d5 w8 ⟨q1,q2,hs8⟩=>Vn<|Vr<|oI rfl<|oD rfl rfl<|oJ rfl<|Vn (?_)) (fun c125=>Vs<|Vr<|oI rfl<|oI rfl<|Vo (R.geq rfl rfl)<|oA rfl<|Vn<|Vs<|Vr<|oS rfl<|oI rfl<|oD rfl rfl<|oI rfl<|oI rfl<|Vo (R.mvF rfl)<|VL.callY call153 rfl (ih (md+1) b1 xC39.1 d4 _ (by omega) (hs7.ext (Mod.refl _ _)) (r3.trans hBC75.2.1) (by omega) (by omega) hBC39.2.1.1 hBC39.2.1.2 r5) fun d5 w8 ⟨q1,q2,hs8⟩=>Vn<|Vr<|oI rfl<|oJ rfl<|Vn (?_))
  ·exact ⟨(md+1,b1,xC39.1,_,ap,d5),rfl,⟨by dsimp only;omega,by dsimp only;omega,h3,hBC39.2.1.1,hBC39.2.1.2,(q1.1.trans r3).trans hBC75.2.1,(r6 d5 q1 q2).1,fun R hR hsR=>h8 R (permIn_trans _ _ _ _ _ hBC75.1 ((r6 d5 q1 q2).2 R hR hsR).1) ((r6 d5 q1 q2).2 R hR hsR).2,hs8⟩,by dsimp only;omega⟩
  ·exact ⟨(a1,md,xC39.1,_,ap,d5),rfl,⟨h1,r1,by dsimp only;omega,hBC39.2.1.1,hBC39.2.1.2,(q1.1.trans r3).trans hBC75.2.1,(r7 d5 q1 q2).1,fun R hR hsR=>h8 R (permIn_trans _ _ _ _ _ hBC75.1 ((r7 d5 q1 q2).2 R hR hsR).1) ((r7 d5 q1 q2).2 R hR hsR).2,hs8⟩,by dsimp only;omega⟩
theorem sortF_spec (hC:CmpOk pr a w0 g cb cf) (hO:SWO (ltf cf)) (ha:abk a<w0.heap.size) (cap n:Nat) (hb:n≤1152921504606846976) (d:Array α) (w:World) (hs:Srt (enS pr) 1 w0 a d w) (hn:d.size=n) :
  RetsY prog 134 #[.slice a n cap,.func (.func g) #[] cb.toArray] w (fun _:Array α=>.tuple #[]) (fun d' w'=>PermIn 0 n d d'∧SortedIn (ltf cf) 0 n d'∧Srt (enS pr) 1 w0 a d' w'):=by
 refine eN (args:=[_,_]) func134 rfl ntmps134 ?_
 have hl:bitsLen n≤61:=by
  by_cases h:0<n
  ·exact (bitsLen_le n h hb).1
  ·have:n=0:=by omega
   subst this;decide
 refine Vs<|Vr<|oS rfl<|Vo (R.lenS ru23 rfl)<|oJ rfl<|Vn<|Vr<|oS rfl<|oI rfl<|oI rfl<|Vo (R.conv ru3 ru108 rfl (wrap_u64 (by omega) (by omega)))<|Vp call88 rfl (len_spec (n:Int) _ (by omega) (by omega)) fun w1_4 e1_4=>Vo (R.mvF rfl)<|VL.callY call153 rfl (pdq_spec hC hO ha cap n hb (n+1) 0 n (bitsLen (n:Int).toNat:Nat) d _ (by omega) (hs.ext e1_4) hn (Nat.zero_le _) (Nat.le_refl _) (Int.natCast_nonneg _) (by rw [Int.toNat_natCast];omega) (.inl rfl)) fun d2 w2 h2=>Vn (fend0 rfl (⟨d2,rfl,h2⟩))
theorem ins_nil (cap:Nat) (w:World):RetsP prog 156 #[.slice a 0 cap,.int .i64 0,.int .i64 0,.func (.func g) #[] cb.toArray] w (.tuple #[]):=by
 refine eN (args:=[_,_,_,_]) func156 rfl ntmps156 ?_
 refine Vs<|Vr<|oI rfl<|oD rfl rfl<|oJ rfl<|Vn<|Vb (?_)
 refine Vl [2,8] (fun _:Unit=>[.int .i64 0,.int .i64 1]) (fun _ w'=>Ext w w') (fun _=>0) () rfl (Vc.Mod.refl _ _) ?_
 rintro ρ _ w1 e
 refine Vs<|Vs<|Vr<|oI rfl<|oI rfl<|oL rfl rfl<|Vn<|Vd rfl (fun c14=>Vk<|V.cut [] (fun _:Unit=>[]) (fun _ w'=>(fun _=>True) w') (Vb<|Vs (?_)) (fun rgB1 _ wBB1 hBB1=>?_)) (fun c14=>Ve (fend0 rfl (⟨rfl,e.trans (Mod.refl _ _)⟩)))
 all_goals (exfalso;omega)
theorem pdq_nil (cap:Nat) (lim:Int) (w:World):RetsP prog 153 #[.slice a 0 cap,.int .i64 0,.int .i64 0,.int .i64 lim,.func (.func g) #[] cb.toArray] w (.tuple #[]):=by
 refine eN (args:=[_,_,_,_,_]) func153 rfl ntmps153 ?_
 refine Vs<|Vr<|oA rfl<|Vn<|Vs<|Vr<|oA rfl<|Vn<|Vb (?_)
 refine Vl [0,1,2,4] (fun _:Unit=>[.slice a 0 cap,.int .i64 0,.int .i64 0,.func (.func g) #[] cb.toArray]) (fun _ w'=>Ext w w') (fun _=>0) () rfl (Vc.Mod.refl _ _) ?_
 rintro ρ _ w1 e
 refine Vb<|Vs<|Vr<|oI rfl<|oI rfl<|Vo (R.sub rfl rfl (by omega) (by omega))<|oJ rfl<|Vn<|Vs<|Vs<|Vr<|oI rfl<|Vo (R.leq rfl rfl)<|Vn<|Vd rfl (fun c25=>Vs<|Vr<|oS rfl<|oI rfl<|oI rfl<|Vo (R.mvF rfl)<|Vp call156 rfl (ins_nil cap _) fun w4_4 e4_4=>Vn<|Vt (fret0 rfl (⟨rfl,e.trans e4_4⟩))) (fun c25=>Vk<|Vs<|Vs (?_))
 all_goals (exfalso;omega)
theorem sortF_nil (cap:Nat) (w:World):RetsP prog 134 #[.slice a 0 cap,.func (.func g) #[] cb.toArray] w (.tuple #[]):=by
 refine eN (args:=[_,_]) func134 rfl ntmps134 ?_
 refine Vs<|Vr<|oS rfl<|Vo (R.lenS ru23 rfl)<|oJ rfl<|Vn<|Vr<|oS rfl<|oI rfl<|oI rfl<|Vo (R.conv ru3 ru108 rfl (wrap_u64 (by omega) (by omega)))<|Vp call88 rfl (len_spec 0 _ (by omega) (by omega)) fun w1_4 e1_4=>Vo (R.mvF rfl)<|Vp call153 rfl (pdq_nil cap _ _) fun w1_6 e1_6=>Vn (fend0 rfl (⟨rfl,(e1_4.trans e1_6)⟩))
end
end StbL
end Go.Proofs.YtdkhcipjenfcnaaGreatDoor
