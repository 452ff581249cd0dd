/- Hyper: lists of sets; the reference's small functions. -/
import Derived.Test.YtdkhcipjenfcnaaGreatDoorXTy
import Derived.Test.YtdkhcipjenfcnaaGreatDoorXVcGuard
import Derived.Test.YtdkhcipjenfcnaaGreatDoorXVcDiv
import Derived.Test.YtdkhcipjenfcnaaGreatDoorXVcStable
namespace Go.Proofs.YtdkhcipjenfcnaaGreatDoor
set_option maxRecDepth 100000
set_option maxHeartbeats 16000000
open Go.Vc Go.Proofs.Tryz
abbrev IntSl (w:World) (a:Option Addr) (l:List Int):Prop:=TSl encI 1 w a l
structure SlI where
 a:Option Addr
 c:Nat
 l:List Int
instance:Inhabited SlI:=⟨⟨none,0,[]⟩⟩
def encSl (x:SlI):List Value:=[.slice x.a x.l.length x.c]
structure LL (w:World) (a:Option Addr) (L:List SlI):Prop where
 sl:TSl encSl 1 w a L
 each:∀ x∈L,IntSl w x.a x.l
theorem LL.ext {w w':World} {a:Option Addr} {L:List SlI} (h:LL w a L) (e:Ext w w'):LL w' a L:=⟨h.sl.ext e,fun x hx=>(h.each x hx).ext e⟩
abbrev vals (L:List SlI):List (List Int):=L.map (·.l)
theorem gmem {α:Type} [Inhabited α] {l:List α} {i:Nat} (hi:i<l.length):l.getD i default∈l:=by
 rw [show l.getD i default=l[i] by simp [List.getD,hi]];exact List.getElem_mem _
theorem gget {α:Type} [Inhabited α] {l:List α} {i:Nat} (h:i<l.length):l.getD i default=l[i]:=by simp [List.getD,h]
theorem gmap {α β:Type} [Inhabited α] (f:α→β) (l:List α) (d:β) {i:Nat} (h:i<l.length):(l.map f).getD i d=f (l.getD i default):=by
 simp [List.getD,h]
theorem LL.at {w:World} {a:Option Addr} {L:List SlI} (h:LL w a L) {i:Nat} (hi:i<L.length):IntSl w (L.getD i default).a (L.getD i default).l:=h.each _ (gmem hi)
theorem getD_ext' {α:Type} [Inhabited α] {l m:List α} (h:l.length=m.length) (hh:∀ i,i<l.length→l.getD i default=m.getD i default):l=m:=by
 refine List.ext_getElem h fun i h1 h2=>?_
 have:=hh i h1
 simpa [List.getD,h1,h2] using this
theorem ints_spec (a b:Option Addr) (ca cb:Nat) (l m:List Int) (w:World) (hl:l.length≤9223372036854775807) (hm:m.length≤9223372036854775807) (hS:IntSl w a l) (hT:IntSl w b m) :
  RetsP prog 51 #[.slice a l.length ca,.slice b m.length cb] w (.bool (decide (l=m))):=by
 refine eN (args:=[_,_]) func51 rfl ntmps51 ?_
 refine Vs<|Vr<|oA rfl<|Vn<|Vs<|Vs<|Vr<|oS rfl<|Vo (R.lenS ru22 rfl)<|oS rfl<|Vo (R.lenS ru22 rfl)<|Vo (R.neq rfl rfl)<|Vn<|Vd rfl (fun c10=>Vs<|Vr<|oA rfl<|Vn<|Vt<|tB rfl rfl rfl (⟨?_,(Mod.refl _ _)⟩)) (fun c10=>Vk<|Vs<|Vs<|Vr<|oJ rfl<|Vn<|Vb (?_))
 ·have:l≠m:=by rintro rfl;exact c10 rfl
  simp [this]
 have hlm:l.length=m.length:=by have:=Classical.not_not.1 c10;omega
 refine Vl [0,1,5] (fun k:Nat=>[.slice a l.length ca,.slice b m.length cb,.int .i64 k]) (fun k w'=>k≤l.length∧(∀ i,i<k→l.getD i default=m.getD i default)∧Ext w w') (fun k=>l.length-k) 0 rfl ⟨by omega,by intro i hi;omega,Mod.refl _ _⟩ ?_
 rintro ρ k w1 ⟨hk,hi,e⟩
 refine Vs<|Vs<|Vr<|oI rfl<|oS rfl<|Vo (R.lenS ru22 rfl)<|oL rfl rfl<|Vn<|Vd rfl (fun c14=>Vk<|Vs<|Vb<|Vs<|rQ 9 (qS rfl<|qI rfl<|Vq (fun wq eq=>iX ru22 sz3 rfl rfl ((hS).some (i:=k) (by omega)))<|Vq (fun wq eq=>rla ag3 rfl ((((hS).ext (e.trans eq)).row (i:=k) (by omega)).c0a rfl))<|qS rfl<|qI rfl<|Vq (fun wq eq=>iX ru22 sz3 rfl rfl ((hT).some (i:=k) (by omega)))<|Vq (fun wq eq=>rla ag3 rfl ((((hT).ext (e.trans eq)).row (i:=k) (by omega)).c0a rfl))<|Vq (fun wq eq=>R.neq rfl rfl)<|Vj fun w6q e6q=>Vn<|Vd rfl (fun c25=>Vs<|Vr<|oA rfl<|Vn<|Vt<|tB rfl rfl rfl (⟨?_,(e.trans e6q)⟩)) (fun c25=>Vk<|Vr<|oI rfl<|oD rfl rfl<|oJ rfl<|Vn (⟨k+1,rfl,⟨by omega,?_,(e.trans e6q)⟩,by omega⟩)))) (fun c14=>Ve<|Vs<|Vr<|oA rfl<|Vn<|Vt<|tB rfl rfl rfl (⟨?_,e⟩))
 ·have:l≠m:=by rintro rfl;exact c25 rfl
  simp [this]
 ·intro i hik
  by_cases h:i=k
  ·subst h;exact Classical.not_not.1 c25
  ·exact hi i (by omega)
 ·have:l=m:=getD_ext' hlm fun i hik=>hi i (by omega)
  simp [this]
theorem inc_step {l:List Int} {k:Nat}:(∀ i,0<i→i<k→l.getD (i-1) default<l.getD i default)→l.length≤k→Inc l:=by
 intro h hk
 have key:∀ j i,i<j→j<l.length→l.getD i default<l.getD j default:=by
  intro j
  induction j with
  | zero=>intro i hi;omega
  | succ j ih =>
   intro i hi hj
   have h1:=h (j+1) (by omega) (by omega)
   by_cases e:i=j
   ·subst e;exact h1
   ·have:=ih i (by omega) (by omega)
    exact Int.lt_trans this h1
 refine List.pairwise_iff_getElem.2 fun i j hi hj hij=>?_
 have:=key j i hij hj
 rwa [gget hi,gget hj] at this
theorem incr_spec (a:Option Addr) (c:Nat) (l:List Int) (w:World) (hl:l.length≤9223372036854775807) (hS:IntSl w a l) :
  RetsP prog 105 #[.slice a l.length c] w (.bool (decide (Inc l))):=by
 refine eN (args:=[_]) func105 rfl ntmps105 ?_
 refine Vs<|Vr<|oA rfl<|Vn<|Vs<|Vs<|Vr<|oJ rfl<|Vn<|Vb (?_)
 refine Vl [0,3] (fun k:Nat=>[.slice a l.length c,.int .i64 (k:Nat)]) (fun k w'=>1≤k∧(∀ i,0<i→i<k→i<l.length→l.getD (i-1) default<l.getD i default)∧Ext w w') (fun k=>l.length-k) 1 rfl ⟨by omega,fun i h1 h2=>by omega,Mod.refl _ _⟩ ?_
 rintro ρ k w1 ⟨hk,hi,e⟩
 have hk1:((k:Int)-1).toNat=k-1:=by omega
 refine Vs<|Vs<|Vr<|oI rfl<|oS rfl<|Vo (R.lenS ru22 rfl)<|oL rfl rfl<|Vn<|Vd rfl (fun c7=>Vk<|Vs<|Vb<|Vs<|rQ 10 (qS rfl<|qI rfl<|Vq (fun wq eq=>iX ru22 sz3 rfl rfl ((hS).some (i:=k) (by omega)))<|Vq (fun wq eq=>rla ag3 rfl ((((hS).ext (e.trans eq)).row (i:=k) (by omega)).c0a rfl))<|qS rfl<|qI rfl<|Vq (fun wq eq=>R.sub rfl rfl (by omega) (by omega))<|Vq (fun wq eq=>iX ru22 sz3 rfl rfl ((hS).some (i:=((k:Int)-1).toNat) (by omega)))<|Vq (fun wq eq=>rla ag3 rfl ((((hS).ext (e.trans eq)).row (i:=((k:Int)-1).toNat) (by omega)).c0a rfl))<|Vq (fun wq eq=>R.leq rfl rfl)<|Vj fun w4q e4q=>Vn<|Vd rfl (fun c19=>Vs<|Vr<|oA rfl<|Vn<|Vt<|tB rfl rfl rfl (⟨?_,(e.trans e4q)⟩)) (fun c19=>Vk<|Vr<|oI rfl<|oD rfl rfl<|oJ rfl<|Vn (⟨k+1,rfl,⟨by omega,fun i h1 h2 h3=>?_,(e.trans e4q)⟩,by omega⟩)))) (fun c7=>Ve<|Vs<|Vr<|oA rfl<|Vn<|Vt<|tB rfl rfl rfl (⟨?_,e⟩))
 ·rw [hk1] at c19
  refine congrArg Value.bool (decide_eq_false fun h=>?_).symm
  have:=inc_at h (show k-1<k by omega) (by omega)
  omega
 ·by_cases e2:i=k
  ·subst e2;rw [hk1] at c19;omega
  ·exact hi i h1 (by omega) h3
 ·refine congrArg Value.bool (decide_eq_true (inc_step (k:=l.length) (fun i h1 h2=>hi i h1 (by omega) h2) (Nat.le_refl _))).symm
theorem inc_ends {l:List Int} {n:Int} (h:Inc l):(∀ x∈l,0≤x∧x<n)↔(l.length=0∨(0≤l.getD 0 default∧l.getD (l.length-1) default<n)):=by
 constructor
 ·intro hh
  by_cases h0:l.length=0
  ·exact .inl h0
  ·exact .inr ⟨(hh _ (gmem (by omega))).1,(hh _ (gmem (by omega))).2⟩
 ·rintro (h0 | ⟨h1,h2⟩) x hx
  ·rw [List.length_eq_zero_iff] at h0;rw [h0] at hx;cases hx
  ·obtain ⟨i,hi,rfl⟩:=List.getElem_of_mem hx
   rw [←gget hi]
   have a1:l.getD 0 default≤l.getD i default:=by
    by_cases e:i=0
    ·subst e;omega
    ·have:=inc_at h (show 0<i by omega) hi;omega
   have a2:l.getD i default≤l.getD (l.length-1) default:=by
    by_cases e:i=l.length-1
    ·subst e;omega
    ·have:=inc_at h (show i<l.length-1 by omega) (by omega);omega
   omega
theorem verts_spec (a:Option Addr) (c:Nat) (l:List Int) (n:Int) (w:World) (hl:l.length≤9223372036854775807) (hS:IntSl w a l) :
  RetsP prog 79 #[.slice a l.length c,.int .i64 n] w (.bool (setB l n)):=by
 have hsb:setB l n=true↔(Inc l∧∀ x∈l,0≤x∧x<n):=setB_iff
 have hend:=fun h=>inc_ends (l:=l) (n:=n) h
 refine eN (args:=[_,_]) func79 rfl ntmps79 ?_
 refine Vs<|Vr<|oA rfl<|Vn<|Vs<|Vr<|oS rfl<|Vp call105 rfl (incr_spec a c l _ hl (hS.ext (Mod.refl _ _))) fun w1_1 e1_1=>oB rfl<|VL.and rfl rfl (fun g1_2=>oS rfl<|lT<|Vo (R.lenS ru22 rfl)<|lT<|Vo (R.eql rfl rfl)<|lT<|oB rfl<|VL.orP rfl rfl (fun g1_6=>oS rfl<|lT<|Vo (iX ru22 sz3 rfl rfl (hS.some (i:=0) (by omega)))<|lT<|Vo (rla ag3 rfl (((hS.ext e1_1).row (i:=0) (by omega)).c0a rfl))<|lT<|Vo (R.geq rfl rfl)<|lT<|oB rfl<|VL.andP rfl rfl (fun g1_11=>oS rfl<|lT<|oS rfl<|lT<|Vo (R.lenS ru22 rfl)<|lT<|Vo (R.sub rfl rfl (by omega) (by omega))<|lT<|Vo (iX ru22 sz3 rfl rfl (hS.some (i:=((l.length:Int)-1).toNat) (by omega)))<|lT<|Vo (rla ag3 rfl (((hS.ext e1_1).row (i:=((l.length:Int)-1).toNat) (by omega)).c0a rfl))<|lT<|oI rfl<|lT<|oL rfl rfl<|lT<|oP rfl rfl<|lT<|oQ rfl rfl<|oP rfl rfl<|oA rfl<|Vn<|Vt<|tB rfl rfl rfl (⟨?_,e1_1⟩)) (fun g1_11=>lF<|lF<|lF<|lF<|lF<|lF<|lF<|lT<|oQ rfl rfl<|lT<|oQ rfl rfl<|oP rfl rfl<|oA rfl<|Vn<|Vt<|tB rfl rfl rfl (⟨?_,e1_1⟩))) (fun g1_6=>lF<|lF<|lF<|lF<|VL.gU rfl rfl<|VL.gU rfl rfl<|VL.gU rfl rfl<|VL.gU rfl rfl<|VL.gU rfl rfl<|VL.gU rfl rfl<|VL.gU rfl rfl<|VL.gU rfl rfl<|lF<|lT<|oP rfl rfl<|oP rfl rfl<|oA rfl<|Vn<|Vt<|tB rfl rfl rfl (⟨?_,e1_1⟩))) (fun g1_2=>lF<|lF<|lF<|VL.gU rfl rfl<|VL.gU rfl rfl<|VL.gU rfl rfl<|VL.gU rfl rfl<|VL.gU rfl rfl<|VL.gU rfl rfl<|VL.gU rfl rfl<|VL.gU rfl rfl<|VL.gU rfl rfl<|VL.gU rfl rfl<|VL.gU rfl rfl<|VL.gU rfl rfl<|VL.gU rfl rfl<|VL.gU rfl rfl<|lF<|oQ rfl rfl<|oA rfl<|Vn<|Vt<|tB rfl rfl rfl (⟨?_,e1_1⟩))
 ·have e1:((l.length:Int)-1).toNat=l.length-1:=by omega
  rw [e1]
  refine congrArg Value.bool (Bool.eq_iff_iff.2 ?_)
  have g1_2:=of_decide_eq_true g1_2
  rw [hsb,decide_eq_true_iff,hend g1_2]
  constructor
  ·exact fun h=>⟨g1_2,.inr ⟨g1_11,h⟩⟩
  ·rintro ⟨_,h | h⟩
   ·omega
   ·exact h.2
 ·refine congrArg Value.bool (Bool.eq_iff_iff.2 ?_)
  have g1_2:=of_decide_eq_true g1_2
  rw [hsb,hend g1_2]
  constructor
  ·intro h;cases h
  ·rintro ⟨_,h | h⟩
   ·omega
   ·exact absurd h.1 g1_11
 ·refine congrArg Value.bool (Bool.eq_iff_iff.2 ?_)
  have g1_2:=of_decide_eq_true g1_2
  rw [hsb,hend g1_2]
  exact ⟨fun _=>⟨g1_2,.inl (by omega)⟩,fun _=>rfl⟩
 ·refine congrArg Value.bool (Bool.eq_iff_iff.2 ?_)
  rw [hsb]
  have g1_2:=of_decide_eq_false g1_2
  constructor
  ·intro h;cases h
  ·intro h;exact absurd h.1 g1_2
theorem lex_drop {l m:List Int} {k:Nat} (h1:k<l.length) (h2:k<m.length):lexB (l.drop k) (m.drop k)=if l.getD k default<m.getD k default then true else if m.getD k default<l.getD k default then false else lexB (l.drop (k+1)) (m.drop (k+1)):=by
 rw [List.drop_eq_getElem_cons h1,List.drop_eq_getElem_cons h2,lexB,gget h1,gget h2]
theorem less_spec (a b:Option Addr) (ca cb:Nat) (l m:List Int) (w:World) (hl:l.length≤9223372036854775807) (hm:m.length≤9223372036854775807) (hS:IntSl w a l) (hT:IntSl w b m) :
  RetsP prog 80 #[.slice a l.length ca,.slice b m.length cb] w (.bool (lexB l m)):=by
 refine eN (args:=[_,_]) func80 rfl ntmps80 ?_
 refine Vs<|Vr<|oA rfl<|Vn<|Vs<|Vs<|Vr<|oJ rfl<|Vn<|Vb (?_)
 refine Vl [0,1,5] (fun k:Nat=>[.slice a l.length ca,.slice b m.length cb,.int .i64 k]) (fun k w'=>k≤l.length∧k≤m.length∧lexB l m=lexB (l.drop k) (m.drop k)∧Ext w w') (fun k=>l.length-k) 0 rfl ⟨by omega,by omega,rfl,Mod.refl _ _⟩ ?_
 rintro ρ k w1 ⟨hk,hk2,hq,e⟩
 have hst:=fun h1 h2=>lex_drop (l:=l) (m:=m) (k:=k) h1 h2
 refine Vs<|Vs<|Vr<|oI rfl<|oS rfl<|Vo (R.lenS ru22 rfl)<|oL rfl rfl<|oB rfl<|VL.andP rfl rfl (fun g2_4=>oI rfl<|lT<|oS rfl<|lT<|Vo (R.lenS ru22 rfl)<|lT<|oL rfl rfl<|oP rfl rfl<|Vn<|Vd rfl (fun c15=>Vk<|Vs<|Vb<|Vs<|rQ 9 (qS rfl<|qI rfl<|Vq (fun wq eq=>iX ru22 sz3 rfl rfl ((hS).some (i:=k) (by omega)))<|Vq (fun wq eq=>rla ag3 rfl ((((hS).ext (e.trans eq)).row (i:=k) (by omega)).c0a rfl))<|qS rfl<|qI rfl<|Vq (fun wq eq=>iX ru22 sz3 rfl rfl ((hT).some (i:=k) (by omega)))<|Vq (fun wq eq=>rla ag3 rfl ((((hT).ext (e.trans eq)).row (i:=k) (by omega)).c0a rfl))<|Vq (fun wq eq=>R.neq rfl rfl)<|Vj fun w4q e4q=>Vn<|Vd rfl (fun c26=>Vs (?_)) (fun c26=>Vk<|Vr<|oI rfl<|oD rfl rfl<|oJ rfl<|Vn (⟨k+1,rfl,⟨by omega,by omega,?_,(e.trans e4q)⟩,by omega⟩)))) (fun c15=>Ve<|Vs (?_))) (fun g2_4=>lF<|lF<|lF<|oQ rfl rfl<|Vn<|V.condF rfl<|Ve<|Vs (?_))
 ·refine rQ 10 (qS rfl<|qI rfl<|Vq (fun wq eq=>iX ru22 sz3 rfl rfl ((hS).some (i:=k) (by omega)))<|Vq (fun wq eq=>rla ag3 rfl ((((hS).ext ((e.trans e4q).trans eq)).row (i:=k) (by omega)).c0a rfl))<|qS rfl<|qI rfl<|Vq (fun wq eq=>iX ru22 sz3 rfl rfl ((hT).some (i:=k) (by omega)))<|Vq (fun wq eq=>rla ag3 rfl ((((hT).ext ((e.trans e4q).trans eq)).row (i:=k) (by omega)).c0a rfl))<|Vq (fun wq eq=>R.lss rfl rfl)<|Vq (fun wq eq=>R.asB rfl)<|Vj fun w5q e5q=>Vn<|Vt<|tB rfl rfl rfl (⟨?_,((e.trans e4q).trans e5q)⟩))
  rw [hq,hst (by omega) (by omega)]
  by_cases h:l.getD k default<m.getD k default
  ·rw [if_pos h,decide_eq_true h]
  ·rw [if_neg h,decide_eq_false h,if_pos (by omega)]
 ·rw [hq,hst (by omega) (by omega),if_neg (by omega),if_neg (by omega)]
 ·refine Vr<|oS rfl<|Vo (R.lenS ru22 rfl)<|oS rfl<|Vo (R.lenS ru22 rfl)<|oL rfl rfl<|oA rfl<|Vn<|Vt<|tB rfl rfl rfl (⟨?_,e⟩)
  have hkm:k=m.length:=by omega
  rw [hq,hkm,List.drop_length,decide_eq_false (by omega)]
  cases l.drop m.length <;> rfl
 ·refine Vr<|oS rfl<|Vo (R.lenS ru22 rfl)<|oS rfl<|Vo (R.lenS ru22 rfl)<|oL rfl rfl<|oA rfl<|Vn<|Vt<|tB rfl rfl rfl (⟨?_,e⟩)
  have hkl:k=l.length:=by omega
  rw [hq,hkl,List.drop_length]
  cases hd:m.drop l.length with
  | nil =>
   have:=congrArg List.length hd
   rw [List.length_drop] at this
   rw [decide_eq_false (by simp at this;omega)];rfl
  | cons x d =>
   have:=congrArg List.length hd
   rw [List.length_drop] at this
   rw [decide_eq_true (by simp at this;omega)];rfl
theorem cont_drop {l m:List Int} {i k:Nat} (h1:i<l.length) (h2:k<m.length):contF (l.drop i) (m.drop k)=if l.getD i default=m.getD k default then contF (l.drop (i+1)) (m.drop (k+1)) else contF (l.drop (i+1)) (m.drop k):=by
 rw [List.drop_eq_getElem_cons h1,List.drop_eq_getElem_cons h2,contF,gget h1,gget h2]
theorem cont_spec (a b:Option Addr) (ca cb:Nat) (l m:List Int) (w:World) (hl:l.length≤9223372036854775807) (hm:m.length≤9223372036854775807) (hS:IntSl w a l) (hT:IntSl w b m) :
  RetsP prog 81 #[.slice a l.length ca,.slice b m.length cb] w (.bool (contF l m)):=by
 refine eN (args:=[_,_]) func81 rfl ntmps81 ?_
 refine Vs<|Vr<|oA rfl<|Vn<|Vs<|Vr<|oJ rfl<|Vn<|Vs<|Vs<|Vr<|oJ rfl<|Vn<|Vb (?_)
 refine Vl [0,1,5,6] (fun x:Nat×Nat=>[.slice a l.length ca,.slice b m.length cb,.int .i64 (x.1:Nat),.int .i64 (x.2:Nat)]) (fun x w'=>x.1≤m.length∧x.2≤l.length∧contF l m=contF (l.drop x.2) (m.drop x.1)∧Ext w w') (fun x=>l.length-x.2) (0,0) rfl ⟨by omega,by omega,rfl,Mod.refl _ _⟩ ?_
 rintro ρ ⟨k,i⟩ w1 ⟨hk,hi,hq,e⟩
 dsimp only at hk hi hq e ⊢
 have hst:=fun h1 h2=>cont_drop (l:=l) (m:=m) (i:=i) (k:=k) h1 h2
 refine Vs<|Vs<|Vr<|oI rfl<|oS rfl<|Vo (R.lenS ru22 rfl)<|oL rfl rfl<|oB rfl<|VL.andP rfl rfl (fun g3_4=>oI rfl<|lT<|oS rfl<|lT<|Vo (R.lenS ru22 rfl)<|lT<|oL rfl rfl<|oP rfl rfl<|Vn<|Vd rfl (fun c16=>Vk<|Vs<|Vb<|Vs<|rQ 9 (qS rfl<|qI rfl<|Vq (fun wq eq=>iX ru22 sz3 rfl rfl ((hS).some (i:=i) (by omega)))<|Vq (fun wq eq=>rla ag3 rfl ((((hS).ext (e.trans eq)).row (i:=i) (by omega)).c0a rfl))<|qS rfl<|qI rfl<|Vq (fun wq eq=>iX ru22 sz3 rfl rfl ((hT).some (i:=k) (by omega)))<|Vq (fun wq eq=>rla ag3 rfl ((((hT).ext (e.trans eq)).row (i:=k) (by omega)).c0a rfl))<|Vq (fun wq eq=>R.eql rfl rfl)<|Vj fun w5q e5q=>Vn<|Vd rfl (fun c27=>?_) (fun c27=>Vk<|Vr<|oI rfl<|oD rfl rfl<|oJ rfl<|Vn (⟨(k,i+1),rfl,⟨by dsimp only;omega,by dsimp only;omega,?_,(e.trans e5q)⟩,by dsimp only;omega⟩)))) (fun c16=>Ve<|Vs (?_))) (fun g3_4=>lF<|lF<|lF<|oQ rfl rfl<|Vn<|V.condF rfl<|Ve<|Vs (?_))
 ·refine Vr<|oI rfl<|oD rfl rfl<|oJ rfl<|Vn<|Vr<|oI rfl<|oD rfl rfl<|oJ rfl<|Vn (⟨(k+1,i+1),rfl,⟨by dsimp only;omega,by dsimp only;omega,?_,(e.trans e5q)⟩,by dsimp only;omega⟩)
  dsimp only
  rw [hq,hst (by omega) (by omega),if_pos c27]
 ·dsimp only
  rw [hq,hst (by omega) (by omega),if_neg c27]
 ·refine Vr<|oI rfl<|oS rfl<|Vo (R.lenS ru22 rfl)<|Vo (R.eql rfl rfl)<|oA rfl<|Vn<|Vt<|tB rfl rfl rfl (⟨?_,e⟩)
  have hkm:k=m.length:=by omega
  rw [hq,hkm,List.drop_length,contF_nil,decide_eq_true (by omega)]
 ·refine Vr<|oI rfl<|oS rfl<|Vo (R.lenS ru22 rfl)<|Vo (R.eql rfl rfl)<|oA rfl<|Vn<|Vt<|tB rfl rfl rfl (⟨?_,e⟩)
  have hil:i=l.length:=by omega
  rw [hq,hil,List.drop_length]
  cases hd:m.drop k with
  | nil =>
   have:=congrArg List.length hd
   rw [List.length_drop] at this
   rw [decide_eq_true (by simp at this;omega)];rfl
  | cons x d =>
   have:=congrArg List.length hd
   rw [List.length_drop] at this
   rw [decide_eq_false (by simp at this;omega)];rfl
theorem in_spec (a:Option Addr) (c:Nat) (l:List Int) (n:Int) (w:World) (hl:l.length≤9223372036854775807) (hS:IntSl w a l) :
  RetsP prog 23 #[.slice a l.length c,.int .i64 n] w (.bool (decide (n∈l))):=by
 refine eN (args:=[_,_]) func23 rfl ntmps23 ?_
 refine Vs<|Vr<|oA rfl<|Vn<|Vs<|Vs<|Vr<|oJ rfl<|Vn<|Vb (?_)
 refine Vl [0,1,5] (fun k:Nat=>[.slice a l.length c,.int .i64 n,.int .i64 (k:Nat)]) (fun k w'=>k≤l.length∧(∀ i,i<k→l.getD i default≠n)∧Ext w w') (fun k=>l.length-k) 0 rfl ⟨by omega,fun i h=>absurd h (Nat.not_lt_zero i),Mod.refl _ _⟩ ?_
 rintro ρ k w1 ⟨hk,hi,e⟩
 refine Vs<|Vs<|Vr<|oI rfl<|oS rfl<|Vo (R.lenS ru22 rfl)<|oL rfl rfl<|Vn<|Vd rfl (fun c9=>Vk<|Vs<|Vb<|Vs<|Vr<|oS rfl<|oI rfl<|Vo (iX ru22 sz3 rfl rfl ((hS).some (i:=k) (by omega)))<|Vo (rla ag3 rfl ((((hS).ext e).row (i:=k) (by omega)).c0a rfl))<|oI rfl<|Vo (R.eql rfl rfl)<|Vn<|Vd rfl (fun c17=>Vs<|Vr<|oA rfl<|Vn<|Vt<|tB rfl rfl rfl (⟨?_,e⟩)) (fun c17=>Vk<|Vr<|oI rfl<|oD rfl rfl<|oJ rfl<|Vn (⟨k+1,rfl,⟨by omega,fun i h=>?_,e⟩,by omega⟩))) (fun c9=>Ve<|Vs<|Vr<|oA rfl<|Vn<|Vt<|tB rfl rfl rfl (⟨?_,e⟩))
 ·rw [decide_eq_true (c17▸gmem (by omega))]
 ·by_cases e2:i=k
  ·subst e2;exact c17
  ·exact hi i (by omega)
 ·rw [decide_eq_false fun h=>?_]
  obtain ⟨i,h1,h2⟩:=List.getElem_of_mem h
  exact hi i (by omega) (by rw [gget h1];exact h2)
theorem free_spec (E:List SlI) (a b:Option Addr) (ca cb:Nat) (s:List Int) (w:World) (hl:E.length≤9223372036854775807) (he:∀ x∈E,x.l.length≤9223372036854775807) (hm:s.length≤9223372036854775807) (hE:LL w a E) (hS:IntSl w b s) :
  RetsP prog 123 #[.slice a E.length ca,.slice b s.length cb] w (.bool (freeF (vals E) s)):=by
 refine eN (args:=[_,_]) func123 rfl ntmps123 ?_
 refine Vs<|Vr<|oA rfl<|Vn<|Vs<|Vs<|Vr<|oJ rfl<|Vn<|Vb (?_)
 refine Vl [0,1,5] (fun k:Nat=>[.slice a E.length ca,.slice b s.length cb,.int .i64 (k:Nat)]) (fun k w'=>k≤E.length∧(∀ i,i<k→(E.getD i default).l=[]∨contF s (E.getD i default).l=false)∧Ext w w') (fun k=>E.length-k) 0 rfl ⟨by omega,fun i h=>absurd h (Nat.not_lt_zero i),Mod.refl _ _⟩ ?_
 rintro ρ k w1 ⟨hk,hi,e⟩
 refine Vs<|Vs<|Vr<|oI rfl<|oS rfl<|Vo (R.lenS ru23 rfl)<|oL rfl rfl<|Vn<|Vd rfl (fun c9=>Vk<|Vs<|Vb<|Vs (?_)) (fun c9=>Ve<|Vs (?_))
 ·have hkl:k<E.length:=by omega
  have hkE:=(hE.ext e).at hkl
  have hel:=he _ (gmem hkl)
  refine Vr<|oS rfl<|oI rfl<|Vo (iX ru23 sz22 rfl rfl ((hE.sl).some (i:=k) (by omega)))<|Vo (rla ag22 rfl ((((hE.sl).ext e).row (i:=k) (by omega)).c0a rfl))<|Vo (R.lenS ru22 rfl)<|Vo (R.gtr rfl rfl)<|oB rfl<|VL.andP rfl rfl (fun g4_6=>oS rfl<|lT<|oS rfl<|lT<|oI rfl<|lT<|Vo (iX ru23 sz22 rfl rfl ((hE.sl).some (i:=k) (by omega)))<|lT<|Vo (rla ag22 rfl ((((hE.sl).ext e).row (i:=k) (by omega)).c0a rfl))<|lT<|Vp call81 rfl (cont_spec b (E.getD k default).a cb (E.getD k default).c s (E.getD k default).l _ hm hel (hS.ext e) (hE.ext e |>.at hkl)) fun w4_12 e4_12=>oP rfl rfl<|Vn<|Vh rfl (fun c25=>Vs<|Vr<|oA rfl<|Vn<|Vt<|tB rfl rfl rfl (⟨?_,(e.trans e4_12)⟩)) (fun c25=>Vk<|Vr<|oI rfl<|oD rfl rfl<|oJ rfl<|Vn (⟨k+1,rfl,⟨by omega,fun i h=>?_,(e.trans e4_12)⟩,by omega⟩))) (fun g4_6=>lF<|lF<|lF<|lF<|lF<|oQ rfl rfl<|Vn<|V.condF rfl<|Vk<|Vr<|oI rfl<|oD rfl rfl<|oJ rfl<|Vn (⟨k+1,rfl,⟨by omega,fun i h=>?_,e⟩,by omega⟩))
  ·cases hf:freeF (vals E) s with
   | false=>rfl
   | true =>
    have:=freeF_iff.1 hf _ (List.mem_map_of_mem (gmem hkl)) fun h=>by rw [h] at g4_6;simp at g4_6
    rw [c25] at this;cases this
  ·by_cases e2:i=k
   ·subst e2;exact .inr c25
   ·exact hi i (by omega)
  ·by_cases e2:i=k
   ·subst e2;exact .inl (List.eq_nil_of_length_eq_zero (by omega))
   ·exact hi i (by omega)
 ·have hkl:k=E.length:=by omega
  subst hkl
  refine Vr<|oA rfl<|Vn<|Vt<|tB rfl rfl rfl (⟨?_,e⟩)
  refine congrArg Value.bool (freeF_iff.2 fun x hx hn=>?_).symm
  obtain ⟨y,hy,rfl⟩:=List.mem_map.1 hx
  obtain ⟨i,hil,rfl⟩:=List.getElem_of_mem hy
  have:=hi i hil
  rw [gget hil] at this
  exact this.resolve_left hn
theorem sets_spec (E F:List SlI) (a b:Option Addr) (ca cb:Nat) (w:World) (hl:E.length≤9223372036854775807) (_hm:F.length≤9223372036854775807) (he:∀ x∈E,x.l.length≤9223372036854775807) (hf:∀ x∈F,x.l.length≤9223372036854775807) (hE:LL w a E) (hF:LL w b F) :
  RetsP prog 17 #[.slice a E.length ca,.slice b F.length cb] w (.bool (decide (vals E=vals F))):=by
 refine eN (args:=[_,_]) func17 rfl ntmps17 ?_
 refine Vs<|Vr<|oA rfl<|Vn<|Vs<|Vs<|Vr<|oS rfl<|Vo (R.lenS ru23 rfl)<|oS rfl<|Vo (R.lenS ru23 rfl)<|Vo (R.neq rfl rfl)<|Vn<|Vd rfl (fun c10=>Vs<|Vr<|oA rfl<|Vn<|Vt<|tB rfl rfl rfl (⟨?_,(Mod.refl _ _)⟩)) (fun c10=>Vk<|Vs<|Vs<|Vr<|oJ rfl<|Vn<|Vb (?_))
 ·rw [decide_eq_false fun h=>?_]
  have:=congrArg List.length h
  rw [List.length_map,List.length_map] at this
  omega
 have hlm:E.length=F.length:=by have:=Classical.not_not.1 c10;omega
 refine Vl [0,1,5] (fun k:Nat=>[.slice a E.length ca,.slice b F.length cb,.int .i64 k]) (fun k w'=>k≤E.length∧(∀ i,i<k→(E.getD i default).l=(F.getD i default).l)∧Ext w w') (fun k=>E.length-k) 0 rfl ⟨by omega,by intro i hi;omega,Mod.refl _ _⟩ ?_
 rintro ρ k w1 ⟨hk,hi,e⟩
 refine Vs<|Vs<|Vr<|oI rfl<|oS rfl<|Vo (R.lenS ru23 rfl)<|oL rfl rfl<|Vn<|Vd rfl (fun c14=>Vk<|Vs<|Vb<|Vs (?_)) (fun c14=>Ve<|Vs<|Vr<|oA rfl<|Vn<|Vt<|tB rfl rfl rfl (⟨?_,e⟩))
 ·have hkl:k<E.length:=by omega
  have h1:=he _ (gmem hkl)
  have h2:=hf _ (gmem (show k<F.length by omega))
  refine V.regionQCut mixed 10 (by kernel_rfl) rfl (fun w'=>Ext _ w') (Ext.drawn _) [17,18,19,20,21,22,23,24,25,26] 26 (.bool (decide ((E.getD k default).l≠(F.getD k default).l))) rfl (qS rfl<|qI rfl<|Vq (fun wq eq=>iX ru23 sz22 rfl rfl ((hE.sl).some (i:=k) (by omega)))<|Vq (fun wq eq=>rla ag22 rfl ((((hE.sl).ext (e.trans eq)).row (i:=k) (by omega)).c0a rfl))<|qS rfl<|qI rfl<|Vq (fun wq eq=>iX ru23 sz22 rfl rfl ((hF.sl).some (i:=k) (by omega)))<|Vq (fun wq eq=>rla ag22 rfl ((((hF.sl).ext (e.trans eq)).row (i:=k) (by omega)).c0a rfl))<|VQ.callP (fun _ _ h k=>Mod.trans h k) call51 rfl (fun wq eq=>ints_spec (E.getD k default).a (F.getD k default).a (E.getD k default).c (F.getD k default).c (E.getD k default).l (F.getD k default).l _ h1 h2 ((hE.ext (e.trans eq)).at hkl) ((hF.ext (e.trans eq)).at (by omega)))<|Vq (fun wq eq=>R.not rfl)<|Vj (cutB rfl ?_)) (fun rg6 w6c e6c=>Vd rfl (fun c26=>Vs<|Vr<|oA rfl<|Vn<|Vt<|tB rfl rfl rfl (⟨?_,(e.trans e6c)⟩)) (fun c26=>Vk<|Vr<|oI rfl<|oD rfl rfl<|oJ rfl<|Vn (⟨k+1,rfl,⟨by omega,fun i h=>?_,(e.trans e6c)⟩,by omega⟩)))
  ·simp
  ·rw [decide_eq_false fun h=>?_]
   have:=congrArg (fun l=>l.getD k default) h
   rw [gmap _ _ _ hkl,gmap _ _ _ (show k<F.length by omega)] at this
   exact c26 this
  ·by_cases e2:i=k
   ·subst e2;exact Classical.not_not.1 c26
   ·exact hi i (by omega)
 ·rw [decide_eq_true]
  refine getD_ext' (by simpa using hlm) fun i h1=>?_
  rw [List.length_map] at h1
  rw [gmap _ _ _ h1,gmap _ _ _ (show i<F.length by omega)]
  exact hi i (by omega)
theorem setF_snoc_in {l:List Int} {i:Nat} (hi:i<l.length) (h:l.getD i default∈setF (l.take i)):setF (l.take (i+1))=setF (l.take i):=by
 refine setF_eq (setF_inc _) fun x=>?_
 rw [List.take_succ_eq_append_getElem hi,List.mem_append,List.mem_singleton,setF_mem]
 rw [gget hi,setF_mem] at h
 exact ⟨fun hx=>.inl hx,fun hx=>hx.elim id fun e=>e▸h⟩
theorem setF_snoc_new {l:List Int} {i p:Nat} (hi:i<l.length) (hp:p≤(setF (l.take i)).length) (h1:∀ j,j<p→(setF (l.take i)).getD j default<l.getD i default) (h2:p<(setF (l.take i)).length→l.getD i default<(setF (l.take i)).getD p default) :
  setF (l.take (i+1))=(setF (l.take i)).take p++[l.getD i default]++(setF (l.take i)).drop p:=by
 obtain ⟨out,hout⟩:∃ out,out=setF (l.take i):=⟨_,rfl⟩
 have hinc:Inc out:=hout▸setF_inc _
 rw [←hout] at hp h1 h2 ⊢
 refine setF_eq ?_ fun x=>?_
 ·have hsplit:=hinc
  rw [←List.take_append_drop p out] at hsplit
  unfold Inc at hsplit ⊢
  rw [List.pairwise_append] at hsplit
  have hlo:∀ y∈out.take p,y<l.getD i default:=fun y hy=>by
   obtain ⟨j,hj,rfl⟩:=List.getElem_of_mem hy
   rw [List.length_take] at hj
   have:=h1 j (by omega)
   rw [gget (by omega)] at this
   simpa using this
  have hhi:∀ y∈out.drop p,l.getD i default<y:=fun y hy=>by
   obtain ⟨j,hj,rfl⟩:=List.getElem_of_mem hy
   rw [List.length_drop] at hj
   have h3:=h2 (by omega)
   rw [List.getElem_drop]
   by_cases e:j=0
   ·subst e;rw [gget (l:=out) (i:=p) (by omega)] at h3;exact h3
   ·have:=inc_at hinc (show p<p+j by omega) (by omega)
    rw [gget (i:=p+j) (by omega)] at this
    omega
  rw [List.pairwise_append,List.pairwise_append]
  refine ⟨⟨hsplit.1,List.pairwise_singleton _ _,fun a ha b hb=>?_⟩,hsplit.2.1,fun a ha b hb=>?_⟩
  ·rw [List.mem_singleton] at hb;subst hb;exact hlo a ha
  ·rcases List.mem_append.1 ha with ha | ha
   ·exact hsplit.2.2 a ha b hb
   ·rw [List.mem_singleton] at ha;subst ha;exact hhi b hb
 ·have hm:x∈out.take p++[l.getD i default]++out.drop p↔x∈out∨x=l.getD i default:=by
   have:x∈out↔x∈out.take p∨x∈out.drop p:=by rw [←List.mem_append,List.take_append_drop]
   rw [List.mem_append,List.mem_append,List.mem_singleton,this]
   constructor
   ·rintro ((h | h) | h)
    ·exact .inl (.inl h)
    ·exact .inr h
    ·exact .inl (.inr h)
   ·rintro ((h | h) | h)
    ·exact .inl (.inl h)
    ·exact .inr h
    ·exact .inl (.inr h)
  rw [hm,List.take_succ_eq_append_getElem hi,List.mem_append,List.mem_singleton,hout,setF_mem,gget hi]
theorem rset_spec (a0:Option Addr) (c0:Nat) (l:List Int) (w:World) (hm:l.length≤1000000) (hS:IntSl w a0 l) :
  RetsX prog 144 #[.slice a0 l.length c0] w (fun x:Option Addr×Nat=>.slice x.1 (setF l).length x.2) (fun x w'=>OwnT encI 1 3 w.heap.size w' x.1 x.2 (setF l)):=by
 refine eN (args:=[_]) func144 rfl ntmps144 ?_
 refine Vs<|Vr<|oT rfl<|Vn<|Vs<|Vr<|oT rfl<|Vn<|Vs<|Vs<|Vr<|oJ rfl<|Vn<|Vb (?_)
 refine Vl [0,3,4] (fun x:Nat×Option Addr×Nat=>[.slice a0 l.length c0,.slice x.2.1 (setF (l.take x.1)).length x.2.2,.int .i64 (x.1:Nat)]) (fun x w'=>x.1≤l.length∧Ext w w'∧OwnT encI 1 3 w.heap.size w' x.2.1 x.2.2 (setF (l.take x.1))) (fun x=>l.length-x.1) (0,none,0) rfl ⟨Nat.zero_le _,Mod.refl _ _,OwnT.nil encI 1 3 _ _⟩ ?_
 rintro ρ ⟨i,b,cb⟩ w1 ⟨hi,e,ho⟩
 dsimp only at hi e ho ⊢
 have hlen:(setF (l.take i)).length≤i:=Nat.le_trans (setF_len _) (by simp;omega)
 refine Vs<|Vs<|Vr<|oI rfl<|oS rfl<|Vo (R.lenS ru22 rfl)<|oL rfl rfl<|Vn<|Vd rfl (fun c10=>Vk<|Vs<|Vb<|Vs (?_)) (fun c10=>Ve<|Vs<|Vr<|oS rfl<|oT rfl<|Vn<|Vt (fret1 (v:=.slice _ _ _) rfl rfl rfl (?_)))
 ·have hil:i<l.length:=by omega
  have hin:=setF_snoc_in hil
  have hnew:=fun p hp h1 h2=>setF_snoc_new (p:=p) hil hp h1 h2
  have hinc:=setF_inc (l.take i)
  obtain ⟨out,hout⟩:∃ out,out=setF (l.take i):=⟨_,rfl⟩
  rw [←hout] at ho hlen hin hnew hinc ⊢
  have hS1:=hS.ext e
  refine Vr<|oJ rfl<|Vn<|Vs<|Vb (?_)
  refine Vl [0,3,4,5] (fun k:Nat=>[.slice a0 l.length c0,.slice b out.length cb,.int .i64 (i:Nat),.int .i64 (k:Nat)]) (fun k w'=>k≤out.length∧(∀ j,j<k→out.getD j default<l.getD i default)∧Ext w1 w') (fun k=>out.length-k) 0 rfl ⟨Nat.zero_le _,fun j h=>absurd h (Nat.not_lt_zero j),Mod.refl _ _⟩ ?_
  rintro ρ2 p w2 ⟨hp,hj,e2⟩
  have ho2:=ho.ext e2
  have hS2:=hS1.ext e2
  refine Vs<|Vs<|V.regionQCut mixed 15 (by kernel_rfl) rfl (fun w'=>Ext _ w') (Ext.drawn _) [13,14,15,16,17,18,19,20,21,22,23,24,25,26,27] 27 (.bool (decide (p<out.length∧out.getD p default<l.getD i default))) rfl (qI rfl<|qS rfl<|Vq (fun wq eq=>R.lenS ru22 rfl)<|Vq (fun wq eq=>R.lss rfl rfl)<|Vq (fun wq eq=>R.mvB rfl)<|VQ.andP rfl rfl (fun g6_4=>qS rfl<|qT<|qI rfl<|qT<|Vq (fun wq eq=>iX ru22 sz3 rfl rfl ((ho2.sl).some (i:=p) (by omega)))<|qT<|Vq (fun wq eq=>rla ag3 rfl ((((ho2.sl).ext eq).row (i:=p) (by omega)).c0a rfl))<|qT<|qS rfl<|qT<|qI rfl<|qT<|Vq (fun wq eq=>iX ru22 sz3 rfl rfl ((hS2).some (i:=i) (by omega)))<|qT<|Vq (fun wq eq=>rla ag3 rfl ((((hS2).ext eq).row (i:=i) (by omega)).c0a rfl))<|qT<|Vq (fun wq eq=>R.lss rfl rfl)<|Vq (fun wq eq=>R.pickTB rfl rfl)<|Vj (cutB rfl ?_)) (fun g6_4=>qF<|qF<|qF<|qF<|qF<|qF<|qF<|qF<|Vq (fun wq eq=>R.pickFB rfl rfl)<|Vj (cutB rfl ?_))) (fun rg6 w6c e6c=>Vd rfl (fun c27=>Vk<|Vb (?_)) (fun c27=>Ve<|Vs<|Vs (?_)))
  ·exact decide_eq_decide.2 (by omega)
  ·exact (decide_eq_false (by omega)).symm
  ·refine Vr<|oI rfl<|oD rfl rfl<|oJ rfl<|Vn (⟨p+1,rfl,⟨by omega,fun j h=>?_,e2.trans e6c⟩,by omega⟩)
   by_cases e3:j=p
   ·subst e3;exact c27.2
   ·exact hj j (by omega)
  have ho3:=ho2.ext e6c
  have hS3:=hS2.ext e6c
  have E3:=e.trans (e2.trans e6c)
  refine V.regionQCut mixed 15 (by kernel_rfl) rfl (fun w'=>Ext _ w') (Ext.drawn _) [30,31,32,33,34,35,36,37,38,39,40,41,42,43,44] 44 (.bool (decide (p<out.length∧out.getD p default=l.getD i default))) rfl (qI rfl<|qS rfl<|Vq (fun wq eq=>R.lenS ru22 rfl)<|Vq (fun wq eq=>R.lss rfl rfl)<|Vq (fun wq eq=>R.mvB rfl)<|VQ.andP rfl rfl (fun g8_4=>qS rfl<|qT<|qI rfl<|qT<|Vq (fun wq eq=>iX ru22 sz3 rfl rfl ((ho3.sl).some (i:=p) (by omega)))<|qT<|Vq (fun wq eq=>rla ag3 rfl ((((ho3.sl).ext eq).row (i:=p) (by omega)).c0a rfl))<|qT<|qS rfl<|qT<|qI rfl<|qT<|Vq (fun wq eq=>iX ru22 sz3 rfl rfl ((hS3).some (i:=i) (by omega)))<|qT<|Vq (fun wq eq=>rla ag3 rfl ((((hS3).ext eq).row (i:=i) (by omega)).c0a rfl))<|qT<|Vq (fun wq eq=>R.eql rfl rfl)<|Vq (fun wq eq=>R.pickTB rfl rfl)<|Vj (cutB rfl ?_)) (fun g8_4=>qF<|qF<|qF<|qF<|qF<|qF<|qF<|qF<|Vq (fun wq eq=>R.pickFB rfl rfl)<|Vj (cutB rfl ?_))) (fun rg8 w8c e8c=>Vd rfl (fun c44=>Ve<|Vr<|oI rfl<|oD rfl rfl<|oJ rfl<|Vn (⟨(i+1,b,cb),?_,⟨by dsimp only;omega,E3.trans e8c,?_⟩,by dsimp only;omega⟩)) (fun c44=>Vk<|Vs (?_)))
  ·exact decide_eq_decide.2 (by omega)
  ·exact (decide_eq_false (by omega)).symm
  ·dsimp only;rw [hin (c44.2▸gmem c44.1)];rfl
  ·dsimp only;rw [hin (c44.2▸gmem c44.1)];exact ho3.ext e8c
  have hnw:=hnew p hp hj fun h=>by
   by_cases h1:out.getD p default<l.getD i default
   ·exact absurd ⟨h,h1⟩ c27
   ·by_cases h2:out.getD p default=l.getD i default
    ·exact absurd ⟨h,h2⟩ c44
    ·omega
  have ho:=ho3.ext e8c
  have hS4:=hS3.ext e8c
  have hcap:=ho.cap
  have hlt:(out.take p).length=p:=by simp;omega
  have hld:(out.drop p).length=out.length-p:=by simp
  have eB:=E3.trans e8c
  refine Vr<|VL.buildSl ru22 sz3 zv3 rfl rfl rfl fun b5 w5 hb5 e5 hX5=>oS rfl<|oI rfl<|Vo (R.slHi ru22 sz3 rfl rfl (by omega) (by omega))<|VL.appendT el22 (fun _=>rfl) rfl (rfl) (OwnT.of0 encI 1 hX5 (Nat.le_of_eq (Eq.symm hb5))) rfl ( (show ((p:Nat):Int).toNat=(out.take p).length from by rw [hlt];simp)) ((ho.ext e5).sl.take p cb) (fun h=>ho.hax (cutA_none h)) (by simp;omega) (by simp [maxLen];omega) (e5).size (show 0+((p:Nat):Int).toNat=(out.take p).length from by rw [hlt];simp) fun a6 c6 w6 ho6 m6 hf6=>oT rfl<|Vn<|Vs (?_)
  have hoA:=(ho.ext e5).mod m6 fun k h1 h2=>by have:=ho.lt k h1;have:=aBlk_some h2;omega
  have E6:Ext w8c w6:=Mod.ownA e5 m6 fun k hk=>by have:=aBlk_some hk;omega
  have ho6:OwnT encI 1 3 w8c.heap.size w6 a6 c6 (out.take p):=ho6
  refine Vr<|oS rfl<|oS rfl<|oI rfl<|Vo (iX ru22 sz3 rfl rfl ((hS4.ext E6).some (i:=i) (by omega)))<|Vo (rla ag3 rfl ((((hS4.ext E6).ext (Mod.refl _ _)).row (i:=i) (by omega)).c0a rfl))<|VL.append1 el22 ru22 sz3 zv3 rfl (l.getD i default) rfl rfl rfl ho6 rfl rfl rfl (by omega) (by unfold maxLen;omega) E6.size fun a7 c7 w7 vt7 ho7 m7 hf7=>oT rfl<|Vn (?_)
  have hoA:=hoA.mod m7 fun k h1 h2=>by have:=ho.lt k h1;have:=ho6.ge k h2;omega
  have E7:Ext w8c w7:=Mod.ownA E6 m7 ho6.ge
  have hl7:(out.take p).length+1=(out.take p++[l.getD i default]).length:=by simp
  have hlf:=setF_len (l.take (i+1))
  refine Vr<|oS rfl<|oS rfl<|oI rfl<|Vo (R.slLo ru22 sz3 rfl rfl (by omega) (by omega))<|VL.appendT el22 (fun _=>rfl) rfl ( hl7) (ho7) rfl ( (show out.length-((p:Nat):Int).toNat=(out.drop p).length from by rw [hld];simp)) (hoA.sl.drop p cb hcap) (fun h=>by rw [hoA.hax (cutA_none h)];simp) (by simp;omega) (by simp [maxLen];omega) E7.size (show (out.take p).length+1+(out.length-((p:Nat):Int).toNat)=(setF (l.take (i+1))).length from by rw [hnw,hlt];simp;omega) fun a8 c8 w8 ho8 m8 hf8=>oT rfl<|Vn<|Vr<|oI rfl<|oD rfl rfl<|oJ rfl<|Vn (⟨(i+1,a8,c8),rfl,⟨by dsimp only;omega,?_,?_⟩,by dsimp only;omega⟩)
  ·exact eB.trans (Mod.ownA E7 m8 ho7.ge)
  ·dsimp only
   rw [hnw]
   exact ho8.weaken eB.size
 ·have hil:i=l.length:=by omega
  subst hil
  rw [List.take_length] at ho ⊢
  exact ⟨(b,cb),rfl,ho,e⟩
theorem cnan_spec (a:Int) (w:World):RetsP prog 120 #[.int .i64 a] w (.bool false):=by
 refine eN (args:=[_]) func120 rfl ntmps120 ?_
 refine Vs<|Vr<|oA rfl<|Vn<|Vs<|Vr<|oI rfl<|oI rfl<|Vo (R.lit (R.neq rfl rfl) (decide_eq_false fun h=>h rfl))<|oA rfl<|Vn<|Vt<|tB rfl rfl rfl (⟨rfl,(Mod.refl _ _)⟩)
theorem snan_spec (a:Int) (w:World):RetsP prog 171 #[.int .i64 a] w (.bool false):=by
 refine eN (args:=[_]) func171 rfl ntmps171 ?_
 refine Vs<|Vr<|oA rfl<|Vn<|Vs<|Vr<|oI rfl<|oI rfl<|Vo (R.lit (R.neq rfl rfl) (decide_eq_false fun h=>h rfl))<|oA rfl<|Vn<|Vt<|tB rfl rfl rfl (⟨rfl,(Mod.refl _ _)⟩)
theorem lessI_spec (a b:Int) (w:World):RetsP prog 115 #[.int .i64 a,.int .i64 b] w (.bool (decide (a<b))):=by
 refine eN (args:=[_,_]) func115 rfl ntmps115 ?_
 refine Vs<|Vr<|oA rfl<|Vn<|Vs<|Vr<|oI rfl<|Vp call120 rfl (cnan_spec a _) fun w1_1 e1_1=>oB rfl<|lF<|lF<|lF<|oQ rfl rfl<|oB rfl<|lT<|oI rfl<|lT<|oI rfl<|lT<|oL rfl rfl<|oQ rfl rfl<|oA rfl<|Vn<|Vt<|tB rfl rfl rfl (⟨rfl,e1_1⟩)
theorem cmpI_spec (a b:Int) (w:World):RetsP prog 89 #[.int .i64 a,.int .i64 b] w (.int .i64 (cmpI a b)):=by
 refine eN (args:=[_,_]) func89 rfl ntmps89 ?_
 refine Vs<|Vr<|oJ rfl<|Vn<|Vs<|Vr<|oI rfl<|Vp call120 rfl (cnan_spec a _) fun w1_1 e1_1=>oA rfl<|Vn<|Vs<|Vr<|oI rfl<|Vp call120 rfl (cnan_spec b _) fun w2_1 e2_1=>oA rfl<|Vn<|Vs<|Vs<|Vr<|oB rfl<|Vn<|V.condF rfl<|Vk<|Vs<|Vs<|Vr<|oB rfl<|Vn<|V.condF rfl<|Vk<|Vs<|Vs<|Vr<|oI rfl<|oI rfl<|oL rfl rfl<|Vn<|Vd rfl (fun c16=>Vs<|Vr<|oJ rfl<|Vn<|Vt (fret1 (v:=.int _ _) rfl rfl rfl (⟨?_,(e1_1.trans e2_1)⟩))) (fun c16=>Vk<|Vs<|Vs<|Vr<|oI rfl<|oI rfl<|Vo (R.gtr rfl rfl)<|Vn<|Vd rfl (fun c19=>Vs<|Vr<|oJ rfl<|Vn<|Vt (fret1 (v:=.int _ _) rfl rfl rfl (⟨?_,(e1_1.trans e2_1)⟩))) (fun c19=>Vk<|Vs<|Vr<|oJ rfl<|Vn<|Vt (fret1 (v:=.int _ _) rfl rfl rfl (⟨?_,(e1_1.trans e2_1)⟩))))
 ·unfold cmpI;rw [if_pos (by assumption)]
 ·unfold cmpI;rw [if_neg (by assumption),if_pos (by assumption)]
 ·unfold cmpI;rw [if_neg (by assumption),if_neg (by assumption)]
def cmpL (l m:List Int):Int:=if lexB l m=true then -1 else if l=m then 0 else 1
theorem cmpL_cons (a b:Int) (l m:List Int):cmpL (a :: l) (b :: m)=if cmpI a b=0 then cmpL l m else cmpI a b:=by
 unfold cmpL cmpI
 rw [lexB]
 by_cases h1:a<b
 ·simp [h1]
 ·by_cases h2:b<a
  ·simp [h1,h2];omega
  ·have:a=b:=by omega
   subst this
   simp
theorem cmpL_drop {l m:List Int} {k:Nat} (h1:k<l.length) (h2:k<m.length):cmpL (l.drop k) (m.drop k)=if cmpI (l.getD k default) (m.getD k default)=0 then cmpL (l.drop (k+1)) (m.drop (k+1)) else cmpI (l.getD k default) (m.getD k default):=by
 rw [List.drop_eq_getElem_cons h1,List.drop_eq_getElem_cons h2,cmpL_cons,gget h1,gget h2]
theorem cmpL_spec (a b:Option Addr) (ca cb:Nat) (l m:List Int) (w:World) (hl:l.length≤9223372036854775807) (hm:m.length≤9223372036854775807) (hS:IntSl w a l) (hT:IntSl w b m) :
  RetsP prog 50 #[.slice a l.length ca,.slice b m.length cb] w (.int .i64 (cmpL l m)):=by
 refine eN (args:=[_,_]) func50 rfl ntmps50 ?_
 refine Vs<|Vr<|oJ rfl<|Vn<|Vs<|Vs<|Vr<|oS rfl<|Vo (R.lenS ru22 rfl)<|oI rfl<|Vn<|Vb (?_)
 refine Vl [0,1,9,10,11] (fun k:Nat=>[.slice a l.length ca,.slice b m.length cb,.slice a l.length ca,.int .i64 (l.length:Nat),.int .i64 k]) (fun k w'=>k≤l.length∧k≤m.length∧cmpL l m=cmpL (l.drop k) (m.drop k)∧Ext w w') (fun k=>l.length-k) 0 rfl ⟨by omega,by omega,rfl,Mod.refl _ _⟩ ?_
 rintro ρ k w1 ⟨hk,hk2,hq,e⟩
 refine Vs<|Vr<|oL rfl rfl<|Vn<|Vs<|Vd rfl (fun c12=>Vk<|Vs<|Vb<|Vs<|Vr<|oI rfl<|Vo (iX ru22 sz3 rfl rfl ((hS).some (i:=k) (by omega)))<|Vo (rla ag3 rfl ((((hS).ext e).row (i:=k) (by omega)).c0a rfl))<|oJ rfl<|oJ rfl<|Vn<|Vs<|Vs<|Vr<|oI rfl<|oS rfl<|Vo (R.lenS ru22 rfl)<|Vo (R.geq rfl rfl)<|Vn<|Vd rfl (fun c19=>Vs<|Vr<|oJ rfl<|Vn<|Vt (fret1 (v:=.int _ _) rfl rfl rfl (⟨?_,e⟩))) (fun c19=>Vk<|Vs<|Vr<|oS rfl<|oI rfl<|Vo (iX ru22 sz3 rfl rfl ((hT).some (i:=k) (by omega)))<|Vo (rla ag3 rfl ((((hT).ext e).row (i:=k) (by omega)).c0a rfl))<|oJ rfl<|Vn<|Vs<|Vr<|oI rfl<|oI rfl<|Vp call89 rfl (cmpI_spec _ _ _) fun w7_2 e7_2=>oJ rfl<|Vn<|Vs<|Vr<|oI rfl<|Vo (R.neq rfl rfl)<|Vn<|Vd rfl (fun c28=>Vs<|Vr<|oI rfl<|oJ rfl<|Vn<|Vt (fret1 (v:=.int _ _) rfl rfl rfl (⟨?_,(e.trans e7_2)⟩))) (fun c28=>Vk<|Vr<|oD rfl rfl<|oI rfl<|Vn (⟨k+1,rfl,⟨by omega,by omega,?_,(e.trans e7_2)⟩,by omega⟩)))) (fun c12=>Ve<|Vs<|Vs<|Vr<|oS rfl<|Vo (R.lenS ru22 rfl)<|oS rfl<|Vo (R.lenS ru22 rfl)<|oL rfl rfl<|Vn<|Vd rfl (fun c35=>Vs (?_)) (fun c35=>Vk<|Vs (?_)))
 ·have hkm:k=m.length:=by omega
  rw [hq,hkm,List.drop_length]
  have hp:0<(l.drop m.length).length:=by rw [List.length_drop];omega
  cases hd:l.drop m.length with
  | nil=>rw [hd] at hp;exact absurd hp (by decide)
  | cons x d=>simp [cmpL,lexB]
 ·rw [hq,cmpL_drop (by omega) (by omega),if_neg c28]
 ·rw [hq,cmpL_drop (by omega) (by omega),if_pos (Classical.not_not.1 c28)]
 ·refine Vr<|oJ rfl<|Vn<|Vt (fret1 (v:=.int _ _) rfl rfl rfl (⟨?_,e⟩))
  have hkl:k=l.length:=by omega
  rw [hq,hkl,List.drop_length]
  have hp:0<(m.drop l.length).length:=by rw [List.length_drop];omega
  cases hd:m.drop l.length with
  | nil=>rw [hd] at hp;exact absurd hp (by decide)
  | cons x d=>simp [cmpL,lexB]
 ·refine Vr<|oJ rfl<|Vn<|Vt (fret1 (v:=.int _ _) rfl rfl rfl (⟨?_,e⟩))
  have hkl:k=l.length:=by omega
  rw [hq,hkl,List.drop_length,List.drop_eq_nil_of_le (by omega)]
  simp [cmpL,lexB]
theorem equal_spec (a b:Option Addr) (ca cb:Nat) (l m:List Int) (w:World) (hl:l.length≤9223372036854775807) (hm:m.length≤9223372036854775807) (hS:IntSl w a l) (hT:IntSl w b m) :
  RetsP prog 99 #[.slice a l.length ca,.slice b m.length cb] w (.bool (decide (l=m))):=by
 refine eN (args:=[_,_]) func99 rfl ntmps99 ?_
 refine Vs<|Vr<|oA rfl<|Vn<|Vs<|Vs<|Vr<|oS rfl<|Vo (R.lenS ru22 rfl)<|oS rfl<|Vo (R.lenS ru22 rfl)<|Vo (R.neq rfl rfl)<|Vn<|Vd rfl (fun c10=>Vs<|Vr<|oA rfl<|Vn<|Vt<|tB rfl rfl rfl (⟨?_,(Mod.refl _ _)⟩)) (fun c10=>Vk<|Vs<|Vs<|Vr<|oS rfl<|Vo (R.lenS ru22 rfl)<|oI rfl<|Vn<|Vb (?_))
 ·have:l≠m:=by rintro rfl;exact c10 rfl
  simp [this]
 have hlm:l.length=m.length:=by have:=Classical.not_not.1 c10;omega
 refine Vl [0,1,12,13] (fun k:Nat=>[.slice a l.length ca,.slice b m.length cb,.int .i64 (l.length:Nat),.int .i64 k]) (fun k w'=>k≤l.length∧(∀ i,i<k→l.getD i default=m.getD i default)∧Ext w w') (fun k=>l.length-k) 0 rfl ⟨by omega,by intro i hi;omega,Mod.refl _ _⟩ ?_
 rintro ρ k w1 ⟨hk,hi,e⟩
 refine Vs<|Vr<|oL rfl rfl<|Vn<|Vs<|Vd rfl (fun c14=>Vk<|Vs<|Vb<|Vs<|Vr<|oI rfl<|oJ rfl<|Vn<|Vs<|rQ 9 (qS rfl<|qI rfl<|Vq (fun wq eq=>iX ru22 sz3 rfl rfl ((hS).some (i:=k) (by omega)))<|Vq (fun wq eq=>rla ag3 rfl ((((hS).ext (e.trans eq)).row (i:=k) (by omega)).c0a rfl))<|qS rfl<|qI rfl<|Vq (fun wq eq=>iX ru22 sz3 rfl rfl ((hT).some (i:=k) (by omega)))<|Vq (fun wq eq=>rla ag3 rfl ((((hT).ext (e.trans eq)).row (i:=k) (by omega)).c0a rfl))<|Vq (fun wq eq=>R.neq rfl rfl)<|Vj fun w6q e6q=>Vn<|Vd rfl (fun c24=>Vs<|Vr<|oA rfl<|Vn<|Vt<|tB rfl rfl rfl (⟨?_,(e.trans e6q)⟩)) (fun c24=>Vk<|Vr<|oD rfl rfl<|oI rfl<|Vn (⟨k+1,rfl,⟨by omega,?_,(e.trans e6q)⟩,by omega⟩)))) (fun c14=>Ve<|Vs<|Vr<|oA rfl<|Vn<|Vt<|tB rfl rfl rfl (⟨?_,e⟩))
 ·have:l≠m:=by rintro rfl;exact c24 rfl
  simp [this]
 ·intro i hik
  by_cases h:i=k
  ·subst h;exact Classical.not_not.1 c24
  ·exact hi i (by omega)
 ·have:l=m:=getD_ext' hlm fun i hik=>hi i (by omega)
  simp [this]
theorem setB_step {l:List Int} {n:Int}:(∀ i,i<l.length→0≤l.getD i default∧l.getD i default<n∧(0<i→l.getD (i-1) default<l.getD i default))→setB l n=true:=fun h=>by
 rw [setB_iff]
 refine ⟨inc_step (k:=l.length) (fun i h1 h2=>(h i h2).2.2 h1) (Nat.le_refl _),fun x hx=>?_⟩
 obtain ⟨i,hi,rfl⟩:=List.getElem_of_mem hx
 rw [←gget hi]
 exact ⟨(h i hi).1,(h i hi).2.1⟩
theorem setB_bad {l:List Int} {n:Int} {i:Nat} (hi:i<l.length) (h:¬(0≤l.getD i default∧l.getD i default<n∧(0<i→l.getD (i-1) default<l.getD i default))):setB l n=false:=by
 cases hs:setB l n with
 | false=>rfl
 | true =>
  obtain ⟨h1,h2⟩:=setB_iff.1 hs
  have:=h2 _ (gmem hi)
  exact absurd ⟨this.1,this.2,fun h0=>inc_at h1 (by omega) hi⟩ h
theorem isSet_spec (a:Option Addr) (c:Nat) (l:List Int) (n:Int) (w:World) (hl:l.length≤9223372036854775807) (hS:IntSl w a l) :
  RetsP prog 58 #[.slice a l.length c,.int .i64 n] w (.bool (setB l n)):=by
 refine eN (args:=[_,_]) func58 rfl ntmps58 ?_
 refine Vs<|Vr<|oA rfl<|Vn<|Vs<|Vs<|Vr<|oS rfl<|Vo (R.lenS ru22 rfl)<|oI rfl<|Vn<|Vb (?_)
 refine Vl [0,1,7,8,9] (fun k:Nat=>[.slice a l.length c,.int .i64 n,.slice a l.length c,.int .i64 (l.length:Nat),.int .i64 k]) (fun k w'=>k≤l.length∧(∀ i,i<k→0≤l.getD i default∧l.getD i default<n∧(0<i→l.getD (i-1) default<l.getD i default))∧Ext w w') (fun k=>l.length-k) 0 rfl ⟨by omega,fun i h=>absurd h (Nat.not_lt_zero i),Mod.refl _ _⟩ ?_
 rintro ρ k w1 ⟨hk,hi,e⟩
 have hk1:((k:Int)-1).toNat=k-1:=by omega
 refine Vs<|Vr<|oL rfl rfl<|Vn<|Vs<|Vd rfl (fun c10=>Vk<|Vs<|Vb<|Vs<|Vr<|oI rfl<|Vo (iX ru22 sz3 rfl rfl ((hS).some (i:=k) (by omega)))<|Vo (rla ag3 rfl ((((hS).ext e).row (i:=k) (by omega)).c0a rfl))<|oJ rfl<|oJ rfl<|Vn<|Vs<|V.regionCut [14,15,16,17,18,19,20,21,22,23,24,25,26,27,28,29,30,31,32,33] 33 (.bool (!decide (0≤l.getD k default∧l.getD k default<n∧(0<k→l.getD (k-1) default<l.getD k default)))) (fun w'=>Ext _ w') rfl (oI rfl<|oL rfl rfl<|oB rfl<|VL.orP rfl rfl (fun g4_2=>oI rfl<|lT<|oI rfl<|lT<|Vo (R.geq rfl rfl)<|oQ rfl rfl<|oB rfl<|VL.orP rfl rfl (fun g4_7=>oI rfl<|lT<|Vo (R.gtr rfl rfl)<|lT<|oB rfl<|VL.andP rfl rfl (fun g4_10=>oI rfl<|lT<|oS rfl<|lT<|oI rfl<|lT<|Vo (R.sub rfl rfl (by omega) (by omega))<|lT<|Vo (iX ru22 sz3 rfl rfl ((hS).some (i:=((k:Int)-1).toNat) (by omega)))<|lT<|Vo (rla ag3 rfl ((((hS).ext e).row (i:=((k:Int)-1).toNat) (by omega)).c0a rfl))<|lT<|Vo (R.leq rfl rfl)<|lT<|oP rfl rfl<|oQ rfl rfl<|VL.nil ⟨rfl,cutB rfl ?_,Mod.refl _ _⟩) (fun g4_10=>lF<|lF<|lF<|lF<|lF<|lF<|lT<|oQ rfl rfl<|oQ rfl rfl<|VL.nil ⟨rfl,cutB rfl ?_,Mod.refl _ _⟩)) (fun g4_7=>lF<|lF<|VL.gU rfl rfl<|VL.gU rfl rfl<|VL.gU rfl rfl<|VL.gU rfl rfl<|VL.gU rfl rfl<|VL.gU rfl rfl<|VL.gU rfl rfl<|lF<|oP rfl rfl<|VL.nil ⟨rfl,cutB rfl ?_,Mod.refl _ _⟩)) (fun g4_2=>lF<|lF<|oP rfl rfl<|oB rfl<|lF<|lF<|lF<|VL.gU rfl rfl<|VL.gU rfl rfl<|VL.gU rfl rfl<|VL.gU rfl rfl<|VL.gU rfl rfl<|VL.gU rfl rfl<|VL.gU rfl rfl<|lF<|oP rfl rfl<|VL.nil ⟨rfl,cutB rfl ?_,Mod.refl _ _⟩)) (fun rg4 w4c e4c=>Vh rfl (fun c33=>Vs<|Vr<|oA rfl<|Vn<|Vt<|tB rfl rfl rfl (⟨?_,(e.trans e4c)⟩)) (fun c33=>Vk<|Vr<|oD rfl rfl<|oI rfl<|Vn (⟨k+1,rfl,⟨by omega,fun i h=>?_,(e.trans e4c)⟩,by omega⟩)))) (fun c10=>Ve<|Vs<|Vr<|oA rfl<|Vn<|Vt<|tB rfl rfl rfl (⟨?_,e⟩))
 ·rw [hk1,←decide_not];exact decide_eq_decide.2 (by omega)
 ·rw [decide_eq_true (by omega)];rfl
 ·rw [decide_eq_false (by omega)];rfl
 ·rw [decide_eq_false (by omega)];rfl
 ·rw [setB_bad (i:=k) (by omega) (by rw [Bool.not_eq_true'] at c33;exact of_decide_eq_false c33)]
 ·by_cases e2:i=k
  ·subst e2;simpa using c33
  ·exact hi i (by omega)
 ·rw [setB_step fun i h=>hi i (by omega)]
theorem findI_at {α:Type} [Inhabited α] (f:α→Bool) (l:List α) (k:Nat) (hk:k<l.length) (_h0:∀ i,i<k→f (l.getD i default)=false) (h1:f (l.getD k default)=true):l.any f=true:=List.any_eq_true.2 ⟨_,gmem hk,h1⟩
theorem findI_none {α:Type} [Inhabited α] (f:α→Bool) (l:List α) (h0:∀ i,i<l.length→f (l.getD i default)=false):l.any f=false:=by
 rw [List.any_eq_false]
 intro x hx
 obtain ⟨i,hi,rfl⟩:=List.getElem_of_mem hx
 rw [←gget hi,h0 i hi];decide
theorem indexI_spec (g:FuncId) (Fv Cv:List Value) (f:Int→Bool) (S:World→Prop) (a:Option Addr) (c:Nat) (l:List Int) (w:World) (hfn:IsFn prog g) (hdo:∀ w x,S w→RetsP prog g (Fv++[Value.int .i64 x]++Cv).toArray w (.bool (f x)))
  (hSe:∀ w w',S w→Ext w w'→S w') (h0:S w) (hL:IntSl w a l) (hm:l.length≤1000000) :
  RetsX prog 102 #[.slice a l.length c,.func (.func g) Fv.toArray Cv.toArray] w (fun i:Int=>.int .i64 i) (fun i _=>decide (0≤i)=l.any f):=by
 refine eN (args:=[_,_]) func102 rfl ntmps102 ?_
 refine Vs<|Vr<|oJ rfl<|Vn<|Vs<|Vs<|Vr<|oS rfl<|Vo (R.lenS ru22 rfl)<|oI rfl<|Vn<|Vb (?_)
 refine Vl [0,1,7,8] (fun k:Nat=>[.slice a l.length c,.func (.func g) Fv.toArray Cv.toArray,.int .i64 l.length,.int .i64 (k:Nat)])
  (fun k w'=>k≤l.length∧Ext w w'∧∀ i,i<k→f (l.getD i default)=false) (fun k=>l.length-k) 0 rfl ⟨Nat.zero_le _,Mod.refl _ _,fun i h=>absurd h (Nat.not_lt_zero i)⟩ ?_
 rintro ρ k w2 ⟨hk,e,hf⟩
 have hL2:=hL.ext e
 refine Vs<|Vr<|oL rfl rfl<|Vn<|Vs<|Vd rfl (fun c9=>Vk<|Vs<|Vb<|Vs<|Vr<|oI rfl<|oJ rfl<|Vn<|Vs (?_)) (fun c9=>Ve<|Vs (?_))
 ·have hkn:k<l.length:=by omega
  refine Vr<|Vo (R.mvF rfl)<|oS rfl<|oI rfl<|Vo (iX ru22 sz3 rfl rfl (hL2.some (i:=k) hkn))<|Vo (rla ag3 rfl ((hL2.row (i:=k) hkn).c0a rfl))<|VL.callCP rfl (hfn) rfl (hdo w2 (l.getD k default) (hSe _ _ h0 e)) fun w4_5 e4_5=>Vn<|Vh rfl (fun c16=>Vs<|Vr<|oI rfl<|oJ rfl<|Vn<|Vt (fret1 (v:=.int _ _) rfl rfl rfl (?_))) (fun c16=>Vk<|Vr<|oD rfl rfl<|oI rfl<|Vn (?_))
  ·exact ⟨(k:Int),rfl,by rw [findI_at f l k hkn hf (by assumption)];exact decide_eq_true (by omega),e.trans e4_5⟩
  ·refine ⟨k+1,rfl,⟨by omega,e.trans e4_5,fun i hi=>?_⟩,by omega⟩
   by_cases h:i=k
   ·subst h;assumption
   ·exact hf i (by omega)
 ·have hkn:k=l.length:=by omega
  subst hkn
  refine Vr<|oJ rfl<|Vn<|Vt (fret1 (v:=.int _ _) rfl rfl rfl (?_))
  exact ⟨-1,rfl,by rw [findI_none f l hf];rfl,e⟩
theorem containsI_spec (g:FuncId) (Fv Cv:List Value) (f:Int→Bool) (S:World→Prop) (a:Option Addr) (c:Nat) (l:List Int) (w:World) (hfn:IsFn prog g) (hdo:∀ w x,S w→RetsP prog g (Fv++[Value.int .i64 x]++Cv).toArray w (.bool (f x)))
  (hSe:∀ w w',S w→Ext w w'→S w') (h0:S w) (hL:IntSl w a l) (hm:l.length≤1000000) :
  RetsP prog 64 #[.slice a l.length c,.func (.func g) Fv.toArray Cv.toArray] w (.bool (l.any f)):=by
 refine eN (args:=[_,_]) func64 rfl ntmps64 ?_
 refine Vs<|Vr<|oA rfl<|Vn<|Vs<|Vr<|oS rfl<|Vo (R.mvF rfl)<|VL.callX call102 rfl (indexI_spec g Fv Cv f S a c l _ hfn hdo hSe h0 hL hm) fun i w1 h1 e1=>Vo (R.geq rfl rfl)<|oA rfl<|Vn<|Vt<|tB rfl rfl rfl (⟨by rw [←h1],e1⟩)
theorem wght_spec (x:Int) (w:World):RetsP prog 128 #[.int .i64 x] w (.bool (decide (x<0)||decide (1000000000<x))):=by
 refine eN (args:=[_]) func128 rfl ntmps128 ?_
 refine Vs<|Vr<|oA rfl<|Vn<|Vs<|Vr<|oI rfl<|oL rfl rfl<|oB rfl<|VL.orP rfl rfl (fun g1_2=>oI rfl<|lT<|Vo (R.gtr rfl rfl)<|oQ rfl rfl<|oA rfl<|Vn<|Vt<|tB rfl rfl rfl (⟨?_,(Mod.refl _ _)⟩)) (fun g1_2=>lF<|oP rfl rfl<|oA rfl<|Vn<|Vt<|tB rfl rfl rfl (⟨?_,(Mod.refl _ _)⟩))
 ·rw [decide_eq_false g1_2];rfl
 ·rw [decide_eq_true g1_2];rfl
theorem weighed_spec (n:Int) (a:Option Addr) (c:Nat) (l:List Int) (w:World) (hL:IntSl w a l) (_hl:l.length≤9223372036854775807) :
  RetsP prog 96 #[.int .i64 n,.slice a l.length c] w (.bool (costB n l)):=by
 have hall:(!l.any fun x=>decide (x<0)||decide (1000000000<x))=l.all fun c=>decide (0≤c)&&decide (c≤1000000000):=by
  rw [List.not_any_eq_all_not]
  congr 1;funext x
  by_cases h1:x<0
  ·simp [h1] <;> omega
  ·by_cases h2:1000000000<x
   ·simp [h2] <;> omega
   ·simp [h1,h2] <;> omega
 refine eN (args:=[_,_]) func96 rfl ntmps96 ?_
 have hcs:∀ w',Ext w w'→l.length≤1000000→RetsP prog 64 #[.slice a l.length c,.func (.func 128) #[] #[]] w' (.bool (l.any fun x=>decide (x<0)||decide (1000000000<x))):=fun w' e hm =>
  containsI_spec 128 [] [] _ (fun _=>True) a c l w' call128 (fun w x _=>wght_spec x w) (fun _ _ _ _=>trivial) trivial (hL.ext e) hm
 refine Vs<|Vr<|oA rfl<|Vn<|Vs<|Vr<|oI rfl<|Vo (R.geq rfl rfl)<|oB rfl<|VL.andP rfl rfl (fun g1_2=>oI rfl<|lT<|Vo (R.leq rfl rfl)<|oP rfl rfl<|oB rfl<|VL.andP rfl rfl (fun g1_6=>oS rfl<|lT<|Vo (R.lenS ru22 rfl)<|lT<|oI rfl<|lT<|Vo (R.eql rfl rfl)<|oP rfl rfl<|oB rfl<|VL.andP rfl rfl (fun g1_12=>oS rfl<|lT<|Vp call64 rfl (hcs _ (Mod.refl _ _) (by omega)) fun w1_14 e1_14=>lT<|Vo (R.not rfl)<|oP rfl rfl<|oA rfl<|Vn<|Vt<|tB rfl rfl rfl (⟨?_,e1_14⟩)) (fun g1_12=>lF<|lF<|oQ rfl rfl<|oA rfl<|Vn<|Vt<|tB rfl rfl rfl (⟨?_,(Mod.refl _ _)⟩))) (fun g1_6=>lF<|lF<|lF<|oQ rfl rfl<|oB rfl<|lF<|lF<|lF<|oQ rfl rfl<|oA rfl<|Vn<|Vt<|tB rfl rfl rfl (⟨?_,(Mod.refl _ _)⟩))) (fun g1_2=>lF<|oQ rfl rfl<|oB rfl<|lF<|lF<|lF<|lF<|oQ rfl rfl<|oB rfl<|lF<|lF<|lF<|oQ rfl rfl<|oA rfl<|Vn<|Vt<|tB rfl rfl rfl (⟨?_,(Mod.refl _ _)⟩))
 ·rw [hall]
  unfold costB
  rw [decide_eq_true g1_2,decide_eq_true g1_6,decide_eq_true g1_12]
  simp only [Bool.true_and]
 all_goals
  cases hc:costB n l with
  | false=>rfl
  | true =>
   exfalso
   have:=costB_iff.1 hc
   omega
theorem equalF_spec (E F:List SlI) (a b:Option Addr) (ca cb:Nat) (w:World) (hl:E.length≤9223372036854775807) (_hm:F.length≤9223372036854775807) (he:∀ x∈E,x.l.length≤9223372036854775807) (hf:∀ x∈F,x.l.length≤9223372036854775807) (hE:LL w a E) (hF:LL w b F) :
  RetsP prog 97 #[.slice a E.length ca,.slice b F.length cb,.func (.func 99) #[] #[]] w (.bool (decide (vals E=vals F))):=by
 refine eN (args:=[_,_,_]) func97 rfl ntmps97 ?_
 refine Vs<|Vr<|oA rfl<|Vn<|Vs<|Vs<|Vr<|oS rfl<|Vo (R.lenS ru23 rfl)<|oS rfl<|Vo (R.lenS ru23 rfl)<|Vo (R.neq rfl rfl)<|Vn<|Vd rfl (fun c14=>Vs<|Vr<|oA rfl<|Vn<|Vt<|tB rfl rfl rfl (⟨?_,(Mod.refl _ _)⟩)) (fun c14=>Vk<|Vs<|Vs<|Vr<|oS rfl<|Vo (R.lenS ru23 rfl)<|oI rfl<|Vn<|Vb (?_))
 ·rw [decide_eq_false fun h=>?_]
  have:=congrArg List.length h
  rw [List.length_map,List.length_map] at this
  omega
 have hlm:E.length=F.length:=by have:=Classical.not_not.1 c14;omega
 refine Vl [0,1,2,15,16,17] (fun k:Nat=>[.slice a E.length ca,.slice b F.length cb,.func (.func 99) #[] #[],.slice a E.length ca,.int .i64 (E.length:Nat),.int .i64 k]) (fun k w'=>k≤E.length∧(∀ i,i<k→(E.getD i default).l=(F.getD i default).l)∧Ext w w') (fun k=>E.length-k) 0 rfl ⟨by omega,by intro i hi;omega,Mod.refl _ _⟩ ?_
 rintro ρ k w1 ⟨hk,hi,e⟩
 refine Vs<|Vr<|oL rfl rfl<|Vn<|Vs<|Vd rfl (fun c18=>Vk<|Vs<|Vb<|Vs (?_)) (fun c18=>Ve<|Vs<|Vr<|oA rfl<|Vn<|Vt<|tB rfl rfl rfl (⟨?_,e⟩))
 ·have hkl:k<E.length:=by omega
  have h1:=he _ (gmem hkl)
  have h2:=hf _ (gmem (show k<F.length by omega))
  refine Vr<|oI rfl<|Vo (iX ru23 sz22 rfl rfl ((hE.sl).some (i:=k) (by omega)))<|Vo (rla ag22 rfl ((((hE.sl).ext e).row (i:=k) (by omega)).c0a rfl))<|oJ rfl<|oT rfl<|Vn<|Vs<|Vr<|oS rfl<|oI rfl<|Vo (iX ru23 sz22 rfl rfl ((hF.sl).some (i:=k) (by omega)))<|Vo (rla ag22 rfl ((((hF.sl).ext e).row (i:=k) (by omega)).c0a rfl))<|oT rfl<|Vn<|Vs<|Vr<|Vo (R.mvF rfl)<|oS rfl<|oS rfl<|VL.callCP rfl (call99) rfl (equal_spec (E.getD k default).a (F.getD k default).a (E.getD k default).c (F.getD k default).c (E.getD k default).l (F.getD k default).l _ h1 h2 ((hE.ext e).at hkl) ((hF.ext e).at (by omega))) fun w7_3 e7_3=>Vo (R.not rfl)<|Vn<|Vh rfl (fun c30=>Vs<|Vr<|oA rfl<|Vn<|Vt<|tB rfl rfl rfl (⟨?_,(e.trans e7_3)⟩)) (fun c30=>Vk<|Vr<|oD rfl rfl<|oI rfl<|Vn (⟨k+1,rfl,⟨by omega,fun i h=>?_,(e.trans e7_3)⟩,by omega⟩))
  ·rw [decide_eq_false fun h=>?_]
   have:=congrArg (fun l=>l.getD k default) h
   rw [gmap _ _ _ hkl,gmap _ _ _ (show k<F.length by omega)] at this
   simp at c30
   exact c30 this
  ·by_cases e2:i=k
   ·subst e2;simpa using c30
   ·exact hi i (by omega)
 ·rw [decide_eq_true]
  refine getD_ext' (by simpa using hlm) fun i h1=>?_
  rw [List.length_map] at h1
  rw [gmap _ _ _ h1,gmap _ _ _ (show i<F.length by omega)]
  exact hi i (by omega)
structure BinJ (l:List Int) (x:Int) (i:Nat):Prop where
 le:i≤l.length
 lo:∀ q,q<i→l.getD q default<x
 hi:∀ q,i≤q→q<l.length→x≤l.getD q default
theorem BinJ.mem {l:List Int} {x:Int} {i:Nat} (h:BinJ l x i) (hI:Inc l):x∈l↔i<l.length∧l.getD i default=x:=by
 constructor
 ·intro hx
  obtain ⟨q,hq,e⟩:=List.getElem_of_mem hx
  rw [←gget hq] at e
  have h1:i≤q:=by
   by_cases h2:q<i
   ·have:=h.lo q h2;omega
   ·omega
  refine ⟨by omega,?_⟩
  have:=h.hi i (Nat.le_refl _) (by omega)
  by_cases e2:i=q
  ·rw [e2];exact e
  ·have:=inc_at hI (show i<q by omega) hq
   omega
 ·rintro ⟨h1,rfl⟩;exact gmem h1
theorem bin_spec (a:Option Addr) (c:Nat) (l:List Int) (x:Int) (w:World) (hm:l.length≤1000000) (hi:Inc l) (hL:IntSl w a l) :
  RetsX prog 159 #[.slice a l.length c,.int .i64 x] w (fun i:Nat=>.tuple #[.int .i64 (i:Nat),.bool (decide (i<l.length∧l.getD i default=x))]) (fun i _=>BinJ l x i):=by
 refine eN (args:=[_,_]) func159 rfl ntmps159 ?_
 refine Vs<|Vr<|oJ rfl<|oA rfl<|Vn<|Vs<|Vr<|oS rfl<|Vo (R.lenS ru22 rfl)<|oJ rfl<|Vn<|Vs<|Vr<|oI rfl<|oJ rfl<|oJ rfl<|Vn<|Vs<|Vb (?_)
 refine Vl [0,1,6,7,8] (fun z:Nat×Nat=>[.slice a l.length c,.int .i64 x,.int .i64 (l.length:Nat),.int .i64 (z.1:Nat),.int .i64 (z.2:Nat)])
  (fun z w'=>z.1≤z.2∧z.2≤l.length∧(∀ q,q<z.1→l.getD q default<x)∧(∀ q,z.2≤q→q<l.length→x≤l.getD q default)∧Ext w w') (fun z=>z.2-z.1) (0,l.length) rfl ⟨by omega,Nat.le_refl _,fun q h=>absurd h (Nat.not_lt_zero q),fun q h1 h2=>by omega,Mod.refl _ _⟩ ?_
 rintro ρ ⟨i,j⟩ w1 ⟨hij,hjn,hlo,hhi,e⟩
 dsimp only at hij hjn hlo hhi e ⊢
 have hL1:=hL.ext e
 have hmono:∀ p q,p≤q→q<l.length→l.getD p default≤l.getD q default:=fun p q h1 h2=>by
  by_cases e2:p=q
  ·subst e2;omega
  ·have:=inc_at hi (show p<q by omega) h2;omega
 refine Vs<|Vs<|Vr<|oI rfl<|oI rfl<|oL rfl rfl<|Vn<|Vd rfl (fun c15=>Vk<|Vb<|Vs<|Vr<|oI rfl<|oI rfl<|oD rfl rfl<|Vo (R.conv ru3 ru108 rfl (wrap_u64 (by omega) (by omega)))<|Vo (R.half (a:=(i+j)) rfl rfl)<|Vo (R.conv ru108 ru3 rfl (wrap_i64 (by omega) (by omega)))<|oJ rfl<|Vn<|Vs (?_)) (fun c15=>Ve<|Vs (?_))
 ·have hq:=hmono
  refine Vr<|oS rfl<|oI rfl<|Vo (iX ru22 sz3 rfl rfl ((hL1).some (i:=((i+j) / 2)) (by omega)))<|Vo (rla ag3 rfl ((((hL1).ext (Mod.refl _ _)).row (i:=((i+j) / 2)) (by omega)).c0a rfl))<|oI rfl<|Vp call115 rfl (lessI_spec (l.getD ((i+j) / 2) default) x _) fun w5_5 e5_5=>Vn<|Vh rfl (fun c27=>?_) (fun c27=>?_)
  ·refine Vr<|oI rfl<|oD rfl rfl<|oJ rfl<|Vn (⟨((i+j) / 2+1,j),rfl,⟨by dsimp only;omega,by dsimp only;omega,fun q h=>?_,hhi,e.trans e5_5⟩,by dsimp only;omega⟩)
   have:=hmono q ((i+j) / 2) (by dsimp only at h;omega) (by omega)
   have c27:l.getD ((i+j) / 2) default<x:=by simpa using c27
   omega
  ·refine Vr<|oI rfl<|oJ rfl<|Vn (⟨(i,(i+j) / 2),rfl,⟨by dsimp only;omega,by dsimp only;omega,hlo,fun q h1 h2=>?_,e.trans e5_5⟩,by dsimp only;omega⟩)
   have:=hmono ((i+j) / 2) q (by dsimp only at h1;omega) h2
   have c27:¬l.getD ((i+j) / 2) default<x:=by simpa using c27
   omega
 ·have hj:i=j:=by omega
  subst hj
  refine Vr<|oI rfl<|oI rfl<|oI rfl<|oL rfl rfl<|oB rfl<|VL.andP rfl rfl (fun g8_4=>oS rfl<|lT<|oI rfl<|lT<|Vo (iX ru22 sz3 rfl rfl ((hL1).some (i:=i) (by omega)))<|lT<|Vo (rla ag3 rfl ((((hL1).ext (Mod.refl _ _)).row (i:=i) (by omega)).c0a rfl))<|lT<|oI rfl<|lT<|Vo (R.eql rfl rfl)<|lT<|oB rfl<|VL.orP rfl rfl (fun g8_11=>oS rfl<|lT<|oI rfl<|lT<|Vo (iX ru22 sz3 rfl rfl ((hL1).some (i:=i) (by omega)))<|lT<|Vo (rla ag3 rfl ((((hL1).ext (Mod.refl _ _)).row (i:=i) (by omega)).c0a rfl))<|lT<|Vp call171 rfl (snan_spec (l.getD i default) _) fun w8_16 e8_16=>lT<|oB rfl<|lF<|lF<|lT<|oQ rfl rfl<|lT<|oQ rfl rfl<|oP rfl rfl<|oJ rfl<|oA rfl<|Vn<|Vt (fret2 (v:=.int _ _) (x:=.bool _) rfl rfl rfl rfl rfl (⟨i,?_,⟨by omega,hlo,hhi⟩,e.trans e8_16⟩))) (fun g8_11=>lF<|lF<|lF<|lF<|lF<|VL.gU rfl rfl<|VL.gU rfl rfl<|lF<|lT<|oP rfl rfl<|oP rfl rfl<|oJ rfl<|oA rfl<|Vn<|Vt (fret2 (v:=.int _ _) (x:=.bool _) rfl rfl rfl rfl rfl (⟨i,?_,⟨by omega,hlo,hhi⟩,e.trans (Mod.refl _ _)⟩)))) (fun g8_4=>lF<|lF<|lF<|lF<|lF<|lF<|VL.gU rfl rfl<|VL.gU rfl rfl<|VL.gU rfl rfl<|VL.gU rfl rfl<|VL.gU rfl rfl<|VL.gU rfl rfl<|VL.gU rfl rfl<|VL.gU rfl rfl<|VL.gU rfl rfl<|lF<|oQ rfl rfl<|oJ rfl<|oA rfl<|Vn<|Vt (fret2 (v:=.int _ _) (x:=.bool _) rfl rfl rfl rfl rfl (⟨i,?_,⟨by omega,hlo,hhi⟩,e.trans (Mod.refl _ _)⟩)))
  ·rw [decide_eq_false fun h=>g8_11 h.2]
  ·rw [decide_eq_true ⟨by omega,g8_11⟩]
  ·rw [decide_eq_false fun h=>g8_4 (by omega)]
theorem drop_mem {l:List Int} (hi:Inc l) {i:Nat} {y:Int} (hl:i<l.length) (hy:l.getD i default<y):y∈l↔y∈l.drop (i+1):=by
 constructor
 ·intro h
  obtain ⟨q,hq,rfl⟩:=List.getElem_of_mem h
  have:i<q:=by
   rcases Nat.lt_trichotomy q i with h1 | h1 | h1
   ·have:=inc_at hi h1 hl;rw [gget hq] at this;omega
   ·subst h1;rw [gget hq] at hy;omega
   ·exact h1
  refine List.mem_iff_getElem.2 ⟨q-(i+1),by rw [List.length_drop];omega,?_⟩
  rw [List.getElem_drop]
  congr 1;omega
 ·exact List.mem_of_mem_drop
theorem contains_spec (a b:Option Addr) (ca cb:Nat) (l m:List Int) (w:World) (hl:l.length≤1000000) (hm:m.length≤1000000) (hil:Inc l) (him:Inc m) (hc:l.length≤ca) (hL:IntSl w a l) (hM:IntSl w b m) :
  RetsP prog 150 #[.slice a l.length ca,.slice b m.length cb] w (.bool (subB m l)):=by
 refine eN (args:=[_,_]) func150 rfl ntmps150 ?_
 refine Vs<|Vr<|oA rfl<|Vn<|Vs<|Vs<|Vr<|oS rfl<|Vo (R.lenS ru22 rfl)<|oI rfl<|Vn<|Vb (?_)
 refine Vl [0,9,10,11] (fun z:Nat×Option Addr×Nat×Nat=>[.slice z.2.1 (l.drop z.2.2.2).length z.2.2.1,.slice b m.length cb,.int .i64 (m.length:Nat),.int .i64 (z.1:Nat)])
  (fun z w'=>z.1≤m.length∧z.2.2.2≤l.length∧(l.drop z.2.2.2).length≤z.2.2.1∧IntSl w z.2.1 (l.drop z.2.2.2)∧(∀ i,i<z.1→m.getD i default∈l)∧(∀ i,z.1≤i→i<m.length→(m.getD i default∈l↔m.getD i default∈l.drop z.2.2.2))∧Ext w w') (fun z=>m.length-z.1) (0,a,ca,0) rfl ⟨Nat.zero_le _,Nat.zero_le _,hc,hL,fun i h=>absurd h (Nat.not_lt_zero i),fun i _ _=>Iff.rfl,Mod.refl _ _⟩ ?_
 rintro ρ ⟨k,a',c',d⟩ w1 ⟨hk,hd,hc',hA,hin,hrest,e⟩
 dsimp only at hk hd hc' hA hin hrest e ⊢
 have hA1:=hA.ext e
 have hM1:=hM.ext e
 have hid:Inc (l.drop d):=List.Pairwise.sublist (List.drop_sublist d l) hil
 have hdl:(l.drop d).length=l.length-d:=List.length_drop ..
 refine Vs<|Vr<|oL rfl rfl<|Vn<|Vs<|Vd rfl (fun c12=>Vk<|Vs<|Vb<|Vs (?_)) (fun c12=>Ve<|Vs<|Vr<|oA rfl<|Vn<|Vt<|tB rfl rfl rfl (⟨?_,e.trans (Mod.refl _ _)⟩))
 ·have hkl:k<m.length:=by omega
  refine Vr<|Vo (iX ru22 sz3 rfl rfl ((hM1).some (i:=k) (by omega)))<|Vo (rla ag3 rfl ((((hM1).ext (Mod.refl _ _)).row (i:=k) (by omega)).c0a rfl))<|oJ rfl<|Vn<|Vs<|Vr<|oS rfl<|oI rfl<|VL.callX call159 rfl (bin_spec a' c' (l.drop d) (m.getD k default) _ (by omega) hid (hA1.ext (Mod.refl _ _))) fun i w2 hB e2=>Vo (R.mvT rfl)<|Vo (R.extr rfl rfl)<|Vo (R.extr rfl rfl)<|oJ rfl<|oA rfl<|Vn<|Vs<|Vs (?_)
  have hmk:=hB.mem hid
  have hmr:=hrest k (Nat.le_refl _) hkl
  refine Vr<|oB rfl<|Vo (R.notD rfl)<|Vn<|Vd rfl (fun c22=>Vs<|Vr<|oA rfl<|Vn<|Vt<|tB rfl rfl rfl (⟨?_,e.trans e2⟩)) (fun c22=>Vk (?_))
  ·cases hs:subB m l with
   | false=>rfl
   | true=>exact absurd (hmk.1 (hmr.1 (subB_iff.1 hs _ (gmem hkl)))) (by simpa using c22)
  ·have hb:i<(l.drop d).length∧(l.drop d).getD i default=m.getD k default:=by simpa using c22
   refine Vr<|oS rfl<|oI rfl<|oD rfl rfl<|Vo (R.slLo ru22 sz3 rfl rfl (by omega) (by omega))<|oT rfl<|Vn<|Vr<|oD rfl rfl<|oI rfl<|Vn (?_)
   have hdd:(l.drop d).drop (i+1)=l.drop (d+(i+1)):=by rw [List.drop_drop]
   have hT:=hA.drop (i+1) c' hc'
   rw [hdd] at hT
   have hln:(l.drop (d+(i+1))).length=(l.drop d).length-(i+1):=by rw [List.length_drop,List.length_drop];omega
   refine ⟨(k+1,cutA a' 1 (i+1) c',c' - (i+1),d+(i+1)),?_,⟨by dsimp only;omega,by dsimp only;omega,by dsimp only;omega,hT,fun q hq=>?_,fun q h1 h2=>?_,e.trans e2⟩,by dsimp only;omega⟩
   ·dsimp only;rw [hln];rfl
   ·by_cases e3:q=k
    ·subst e3;exact hmr.2 (hmk.2 hb)
    ·exact hin q (by dsimp only at hq;omega)
   ·dsimp only at h1 ⊢
    rw [hrest q (by omega) h2,←hdd]
    refine drop_mem hid hb.1 ?_
    rw [hb.2]
    exact inc_at him (by omega) h2
 ·cases hs:subB m l with
  | true=>rfl
  | false =>
   exfalso
   have:subB m l=true:=subB_iff.2 fun x hx=>by
    obtain ⟨i,hi,rfl⟩:=List.getElem_of_mem hx
    rw [←gget hi];exact hin i (by omega)
   rw [hs] at this;cases this
end Go.Proofs.YtdkhcipjenfcnaaGreatDoor
