/- Bound: ways as they lie; closures that turn memory; lists that are formed. -/
import Derived.Test.YtdkhcipjenfcnaaGreatDoorXH22a
import Derived.Test.YtdkhcipjenfcnaaGreatDoorXVcBlk
namespace Go.Proofs.YtdkhcipjenfcnaaGreatDoor
set_option maxRecDepth 100000
set_option maxHeartbeats 16000000
open Go.Vc Go.Proofs.Tryz
structure WyI where
 p:SlI
 n:SlI
instance:Inhabited WyI:=⟨⟨default,default⟩⟩
theorem range_any {n k:Nat} {f:Nat→Bool} (hk:k<n) (h:f k=true):(List.range n).any f=true:=List.any_eq_true.2 ⟨k,List.mem_range.2 hk,h⟩
theorem range_none {n:Nat} {f:Nat→Bool} (h:∀ i,i<n→f i=false):(List.range n).any f=false:=by
 rw [List.any_eq_false];intro x hx;rw [h x (List.mem_range.1 hx)];decide
theorem indexK (g:FuncId) (Fv Cv:List Value) (f:Nat→Bool) (I:Nat→World→Prop) (a:Option Addr) (c:Nat) (l:List Int) (w:World) (hfn:IsFn prog g)
  (hdo:∀ k w',k<l.length→I k w'→RetsY prog g (Fv++[Value.int .i64 (l.getD k default)]++Cv).toArray w' (fun _:Unit=>.bool (f k)) (fun _ w2=>I (k+1) w2))
  (hL:∀ k w',I k w'→IntSl w' a l) (h0:I 0 w) (hm:l.length≤1000000) :
  RetsY prog 102 #[.slice a l.length c,.func (.func g) Fv.toArray Cv.toArray] w (fun i:Int=>.int .i64 i) (fun i w'=>decide (0≤i)=(List.range l.length).any f∧∃ k,I k w'):=by
 refine eN (args:=[_,_]) func102 rfl ntmps102 ?_
 refine Vs<|Vr<|oJ rfl<|Vn<|Vs<|Vs<|Vr<|oS rfl<|Vo (R.lenS ru22 rfl)<|oI rfl<|Vn<|Vb (?_)
 refine Vl [0,1,7,8] (fun k:Nat=>[.slice a l.length c,.func (.func g) Fv.toArray Cv.toArray,.int .i64 l.length,.int .i64 (k:Nat)])
  (fun k w'=>k≤l.length∧I k w'∧∀ i,i<k→f i=false) (fun k=>l.length-k) 0 rfl ⟨Nat.zero_le _,h0,fun i h=>absurd h (Nat.not_lt_zero i)⟩ ?_
 rintro ρ k w2 ⟨hk,hI,hf⟩
 have hL2:=hL k w2 hI
 refine Vs<|Vr<|oL rfl rfl<|Vn<|Vs<|Vd rfl (fun c9=>Vk<|Vs<|Vb<|Vs<|Vr<|oI rfl<|oJ rfl<|Vn<|Vs (?_)) (fun c9=>Ve<|Vs (?_))
 ·have hkn:k<l.length:=by omega
  refine Vr<|Vo (R.mvF rfl)<|oS rfl<|oI rfl<|Vo (iX ru22 sz3 rfl rfl (hL2.some (i:=k) hkn))<|Vo (rla ag3 rfl ((hL2.row (i:=k) hkn).c0a rfl))<|VL.callCY rfl (hfn) rfl (hdo k w2 hkn hI) fun i4 w4 hI4=>Vn<|Vh rfl (fun c16=>Vs<|Vr<|oI rfl<|oJ rfl<|Vn<|Vt (fret1 (v:=.int _ _) rfl rfl rfl (?_))) (fun c16=>Vk<|Vr<|oD rfl rfl<|oI rfl<|Vn (?_))
  ·exact ⟨(k:Int),rfl,by rw [range_any hkn (by assumption)];exact decide_eq_true (by omega),_,hI4⟩
  ·refine ⟨k+1,rfl,⟨by omega,hI4,fun i hi=>?_⟩,by omega⟩
   by_cases h:i=k
   ·subst h;assumption
   ·exact hf i (by omega)
 ·have hkn:k=l.length:=by omega
  subst hkn
  refine Vr<|oJ rfl<|Vn<|Vt (fret1 (v:=.int _ _) rfl rfl rfl (?_))
  exact ⟨-1,rfl,by rw [range_none hf];rfl,_,hI⟩
theorem containsK (g:FuncId) (Fv Cv:List Value) (f:Nat→Bool) (I:Nat→World→Prop) (a:Option Addr) (c:Nat) (l:List Int) (w:World) (hfn:IsFn prog g)
  (hdo:∀ k w',k<l.length→I k w'→RetsY prog g (Fv++[Value.int .i64 (l.getD k default)]++Cv).toArray w' (fun _:Unit=>.bool (f k)) (fun _ w2=>I (k+1) w2))
  (hL:∀ k w',I k w'→IntSl w' a l) (h0:I 0 w) (hm:l.length≤1000000) :
  RetsY prog 64 #[.slice a l.length c,.func (.func g) Fv.toArray Cv.toArray] w (fun _:Unit=>.bool ((List.range l.length).any f)) (fun _ w'=>∃ k,I k w'):=by
 refine eN (args:=[_,_]) func64 rfl ntmps64 ?_
 refine Vs<|Vr<|oA rfl<|Vn<|Vs<|Vr<|oS rfl<|Vo (R.mvF rfl)<|VL.callY call102 rfl (indexK g Fv Cv f I a c l _ hfn hdo hL h0 hm) fun i1 w1 h1=>Vo (R.geq rfl rfl)<|oA rfl<|Vn<|Vt<|tB rfl rfl rfl (⟨(),by rw [←h1.1],h1.2⟩)
def lastI (l:List Int) (k:Nat):Int:=if k=0 then -1 else l.getD (k-1) default
theorem formed_eq (l:List Int) (n:Int):((List.range l.length).all fun k=>decide (lastI l k<l.getD k default)&&decide (l.getD k default<n))=setB l n:=by
 rw [Bool.eq_iff_iff,List.all_eq_true]
 constructor
 ·intro h
  have hk:∀ i,i<l.length→lastI l i<l.getD i default∧l.getD i default<n:=fun i hi=>by simpa using h i (List.mem_range.2 hi)
  have h0:∀ i,i<l.length→0≤l.getD i default:=by
   intro i
   induction i with
   | zero=>intro hi;have:=(hk 0 hi).1;unfold lastI at this;rw [if_pos rfl] at this;omega
   | succ i ih =>
    intro hi
    have h1:=ih (by omega)
    have h2:=(hk _ hi).1
    unfold lastI at h2
    rw [if_neg (by omega),Nat.add_sub_cancel] at h2
    omega
  refine setB_step fun i hi=>⟨h0 i hi,(hk i hi).2,fun hp=>?_⟩
  have:=(hk i hi).1
  unfold lastI at this
  rwa [if_neg (by omega)] at this
 ·intro h k hk
  rw [List.mem_range] at hk
  obtain ⟨h1,h2⟩:=setB_iff.1 h
  have h3:=h2 _ (gmem hk)
  rw [Bool.and_eq_true,decide_eq_true_eq,decide_eq_true_eq]
  refine ⟨?_,h3.2⟩
  unfold lastI
  split
  ·omega
  ·exact inc_at h1 (by omega) hk
end Go.Proofs.YtdkhcipjenfcnaaGreatDoor
