/- Own library: regions of open order whose results are told by relations that may speak of the results of ancestors (printed by mkdep.py). -/
import Derived.Test.YtdkhcipjenfcnaaGreatDoorXVcGuard
set_option linter.unusedSectionVars false
namespace Go.Vc
set_option maxRecDepth 100000
set_option maxHeartbeats 16000000
abbrev DRel:=(Nat→Value)→Value→World→Prop
def DepS (L:List Oper) (i:Nat) (S:DRel):Prop:=∀ us us' u w,(∀ x,((ancs L []).getD i 0).testBit x=true→us x=us' x)→S us u w→S us' u w
theorem DepS.const {L:List Oper} {i:Nat} (S:Rel):DepS L i (fun _=>S):=fun _ _ _ _ _ h=>h
def factD (Sl:List (Option DRel)) (us:Nat→Value) (x:Nat) (w:World):Prop:=match Sl[x]? with
 | some (some S)=>S us (us x) w
 | _=>True
def relD (Sl:List (Option DRel)) (vl:List Value) (us:Nat→Value) (x:Nat) (u:Value) (w:World):Prop:=match Sl[x]? with
 | some (some S)=>S us u w
 | _=>u=vl.getD x undef
def valsD (Sl:List (Option DRel)) (vl:List Value) (us:Nat→Value) (x:Nat):Value:=match Sl[x]? with
 | some (some _)=>us x
 | _=>vl.getD x undef
section
variable {T:World→World→Prop} [Turn T] {P:Program} {N:Nat} {L:List Oper} {Q:Exit→Env→World→Prop} {ρ:Env} {k:Nat}
def VMd (T:World→World→Prop) (P:Program) (A:List Nat) (L:List Oper) (R:(Nat→Value)→Nat→Value→World→Prop) (w0:World) (vals:Nat→Value) (K:Env→Prop):(j i:Nat)→List Oper→Env→Prop
 | 0,_,_,ρ=>K ρ
 | _+1,_,[],_=>False
 | j+1,i,o :: l,ρ =>
  (∀ w',T w0 w'→(∀ x,(A.getD i 0).testBit x=true→R vals x (vals x) w') →
   (wantedE L ρ o=true→yieldsR P ρ o w' fun u w''=>R vals i u w''∧T w' w'')∧(wantedE L ρ o=false→R vals i undef w')) ∧
  VMd T P A L R w0 vals K j (i+1) l (put ρ o.dst (vals i))
theorem VMd_spec {A:List Nat} {R:(Nat→Value)→Nat→Value→World→Prop} {w0:World} {vals:Nat→Value} {K:Env→Prop}:∀ (j i:Nat) (l:List Oper),l=L.drop i→VMd T P A L R w0 vals K j i l (envL L vals ρ i)→i+j≤L.length →
  (∀ x o,x<j→L[i+x]?=some o→∀ w',T w0 w'→(∀ y,(A.getD (i+x) 0).testBit y=true→R vals y (vals y) w') →
   (wantedE L (envL L vals ρ (i+x)) o=true→yieldsR P (envL L vals ρ (i+x)) o w' fun u w''=>R vals (i+x) u w''∧T w' w'')∧(wantedE L (envL L vals ρ (i+x)) o=false→R vals (i+x) undef w'))∧K (envL L vals ρ (i+j)):=by
 intro j
 induction j with
 | zero=>intro i l hl h hj;exact ⟨fun x o hx=>by omega,h⟩
 | succ j ih =>
  intro i l hl h hj
  have hi:i<L.length:=by omega
  rw [List.drop_eq_getElem_cons hi] at hl
  subst hl
  obtain ⟨h1,h2⟩:=h
  have ho:L[i]?=some L[i]:=List.getElem?_eq_getElem hi
  rw [←envL_succ ho] at h2
  obtain ⟨h3,h4⟩:=ih (i+1) _ rfl h2 (by omega)
  refine ⟨fun x o hx ho2=>?_,by rw [show i+(j+1)=i+1+j by omega];exact h4⟩
  cases x with
  | zero =>
   rw [Nat.add_zero] at ho2 ⊢
   rw [ho] at ho2
   injection ho2 with ho2
   subst ho2
   exact h1
  | succ x =>
   rw [show i+(x+1)=i+1+x by omega] at ho2 ⊢
   exact h3 x o (by omega) ho2
theorem V.regionMD {id:Nat} {w:World} (hm:P.follows .mixedOrders=true) (k:Nat) (hr:regOk L k=true) (hk:Nat.ble k L.length=true) (R:(Nat→Value)→Nat→Value→World→Prop)
  (mono:∀ vals i u w1 w2,T w w1→R vals i u w1→T w1 w2→R vals i u w2) (dep:∀ v v' i u w1,(∀ x,((ancs L []).getD i 0).testBit x=true→v x=v' x)→R v i u w1→R v' i u w1)
  (h:∀ vals,VMd T P (ancs L []) L R w vals (fun ρ'=>∀ w',T w w'→(∀ j,j<k→R vals j (vals j) w')→VL P N L Q (L.drop k) ρ' w') k 0 L ρ) :
  V P N (.region id L.toArray true) Q ρ w:=by
 refine ⟨fun ok=>?_⟩
 have okL:okOps N L=true:=by simpa [okCode] using ok
 have RO:=regOk_spec hr
 have hkl:=Nat.le_of_ble_eq_true hk
 refine wp_region_any hm ?_
 have hv:=fun vals=>VMd_spec (P:=P) (ρ:=ρ) k 0 L rfl (by rw [envL_zero];exact h vals) (by omega)
 let C:(Nat→Bool)→(Nat→Value)→World→Prop:=fun D vals w'=>T w w'∧∀ j,j<k→D j=true→R vals j (vals j) w'
 have start:=wpAny_any2 (P:=P) (N:=N) (ρ:=ρ) (C:=C) (QQ:=lift N Q) RO okL hkl ?_ ?_ k L.toArray.size (Array.replicate L.toArray.size false) (fun _=>undef) { w with drawn:=w.drawn+1 } (by simp) ?_ ?_ ?_ (by simp;omega) ?_
 ·have e:lst (Array.replicate L.toArray.size false)=fun _=>false:=by
   funext j;unfold lst;simp [Array.getElem?_replicate];split <;> rfl
  rw [e,envD_none] at start
  exact start
 ·intro i o ho hik D vals hcl hDi hdeps hsuf w' hC
  obtain ⟨h1,_⟩:=hv vals
  have h1:=h1 i o hik (by rw [Nat.zero_add];exact ho) w' hC.1 fun y hy=>by
   rw [Nat.zero_add] at hy
   have hil:i<L.length:=(List.getElem?_eq_some_iff.1 ho).1
   have hyi:=anc_lt RO hil hy
   exact hC.2 y (by omega) (anc_done RO hcl ho hdeps hy)
  rw [Nat.zero_add] at h1
  have keep:∀ u w'',R vals i u w''→T w' w''→C (setD D i) (updV vals i u) w'':=fun u w'' hR he=>by
   refine ⟨Turn.trans hC.1 he,fun j hj hD=>?_⟩
   have hil:i<L.length:=(List.getElem?_eq_some_iff.1 ho).1
   by_cases hji:j=i
   ·subst hji;rw [updV_self]
    exact dep vals _ j u w'' (fun x hx=>(updV_ne _ _ (by have:=anc_lt RO hil hx;omega)).symm) hR
   ·rw [updV_ne _ _ hji]
    have hDj:D j=true:=by simpa [setD,nbeq_ne hji] using hD
    have hjl:j<L.length:=by omega
    exact dep vals _ j _ w'' (fun x hx=>(updV_ne _ _ (fun e=>by have:=anc_closed hcl hjl hx hDj;rw [e,hDi] at this;cases this)).symm) (mono vals j _ _ _ hC.1 (hC.2 j hj hDj) he)
  refine ⟨fun hw=>?_,fun hw=>keep _ _ (h1.2 hw) (Turn.refl _)⟩
  have h2:=h1.1 hw
  unfold yieldsR at h2 ⊢
  revert h2
  generalize (execOp (tm (envL L vals ρ i)) o).run P w'=r
  intro h2
  cases r with
  | ok n w'' =>
   cases n with
   | value u=>exact keep _ _ h2.1 h2.2
   | skip=>exact keep _ _ h2.1 h2.2
   | enter f args=>exact h2.mono fun u w3 h3=>keep _ _ h3.1 h3.2
   | _=>exact h2
  | halt=>exact h2
 ·intro vals w' hC
  obtain ⟨_,h2⟩:=hv vals
  rw [Nat.zero_add] at h2
  have hvl:=h2 w' hC.1 fun j hj=>hC.2 j hj (nblt.2 hj)
  have hdrop:okOps N (L.drop k)=true:=by
   unfold okOps at *
   rw [List.all_eq_true] at *
   exact fun o ho=>okL o (List.mem_of_mem_drop ho)
  have:=wpList_mono (lift_mono fun _ _ _ h=>h.1) _ _ _ (hvl.go okL hdrop)
  rw [←wpOps_eq_wpList (L.drop k) k (by intro j;simp)] at this
  simpa using this
 ·intro i o _ hi
  unfold lst at hi
  simp [Array.getElem?_replicate] at hi
  split at hi <;> cases hi
 ·intro j _;unfold lst;simp [Array.getElem?_replicate];split <;> rfl
 ·have:((List.range k).filter fun j=>!lst (Array.replicate L.toArray.size false) j)=List.range k:=by
   rw [List.filter_eq_self]
   intro j _;unfold lst;simp [Array.getElem?_replicate];split <;> rfl
  rw [this,List.length_range]
 ·refine ⟨(Turn.ext (Ext.drawn _)),fun j _ hj=>?_⟩
  unfold lst at hj
  simp [Array.getElem?_replicate] at hj
  split at hj <;> cases hj
end
section
variable {T:World→World→Prop} [Turn T] {P:Program} {N:Nat} {L:List Oper} {Q:Exit→Env→World→Prop} {ρ:Env}
theorem VMd_of {A:List Nat} {R:(Nat→Value)→Nat→Value→World→Prop} {w0:World} {vals:Nat→Value} {K:Env→Prop}:∀ (j i:Nat),i+j≤L.length →
  (∀ x o,i≤x→x<i+j→L[x]?=some o→∀ w',T w0 w'→(∀ y,(A.getD x 0).testBit y=true→R vals y (vals y) w') →
   (wantedE L (envL L vals ρ x) o=true→yieldsR P (envL L vals ρ x) o w' fun u w''=>R vals x u w''∧T w' w'')∧(wantedE L (envL L vals ρ x) o=false→R vals x undef w')) →
  K (envL L vals ρ (i+j))→VMd T P A L R w0 vals K j i (L.drop i) (envL L vals ρ i):=by
 intro j
 induction j with
 | zero=>intro i _ _ hK;exact hK
 | succ j ih =>
  intro i hij h hK
  have hi:i<L.length:=by omega
  have ho:L[i]?=some L[i]:=List.getElem?_eq_getElem hi
  rw [List.drop_eq_getElem_cons hi]
  refine ⟨h i L[i] (Nat.le_refl _) (by omega) ho,?_⟩
  rw [←envL_succ ho]
  exact ih (i+1) (by omega) (fun x o h1 h2=>h x o (by omega) (by omega)) (by rw [show i+1+j=i+(j+1) by omega];exact hK)
end
def VDs (T:World→World→Prop) (P:Program) (L:List Oper) (w0:World) (us:Nat→Value) (F:Nat→World→Prop):(j i:Nat)→List (Option DRel)→List Value→List Oper→Env→(Env→Prop)→Prop
 | 0,_,Sl,vl,_,ρ,K=>Sl=[]∧vl=[]∧K ρ
 | j+1,i,none :: Sl,v :: vl,o :: l,ρ,K =>
  (wantedE L ρ o=true→∀ w',T w0 w'→(∀ x,((ancs L []).getD i 0).testBit x=true→F x w')→yieldsTo P ρ o w' v (T w'))∧(wantedE L ρ o=false→v=undef) ∧
   VDs T P L w0 us F j (i+1) Sl vl l (put ρ o.dst v) K
 | j+1,i,some S :: Sl,_ :: vl,o :: l,ρ,K =>
  MonoT T w0 (S us)∧DepS L i S∧(∀ w',T w0 w'→(∀ x,((ancs L []).getD i 0).testBit x=true→F x w')→wantedE L ρ o=true)∧(∀ w',T w0 w'→(∀ x,((ancs L []).getD i 0).testBit x=true→F x w')→yieldsR P ρ o w' fun u w''=>S us u w''∧T w' w'') ∧
   VDs T P L w0 us F j (i+1) Sl vl l (put ρ o.dst (us i)) K
 | _,_,_,_,_,_,_=>False
structure VD (T:World→World→Prop) (P:Program) (L:List Oper) (w0:World) (us:Nat→Value) (F:Nat→World→Prop) (j i:Nat) (Sl:List (Option DRel)) (vl:List Value) (l:List Oper) (ρ:Env) (K:Env→Prop):Prop where
 go:VDs T P L w0 us F j i Sl vl l ρ K
section
variable {T:World→World→Prop} [Turn T] {P:Program} {N:Nat} {L:List Oper} {Q:Exit→Env→World→Prop} {ρ:Env}
theorem VDs_spec {w0:World} {us:Nat→Value} {F:Nat→World→Prop} {K:Env→Prop} {Sl0:List (Option DRel)} {vl0:List Value}:∀ (j i:Nat),i+j≤L.length→VDs T P L w0 us F j i (Sl0.drop i) (vl0.drop i) (L.drop i) (envL L (valsD Sl0 vl0 us) ρ i) K →
  (∀ x o,i≤x→x<i+j→L[x]?=some o→∀ w',T w0 w'→(∀ y,((ancs L []).getD x 0).testBit y=true→F y w') →
   (wantedE L (envL L (valsD Sl0 vl0 us) ρ x) o=true→yieldsR P (envL L (valsD Sl0 vl0 us) ρ x) o w' fun u w''=>relD Sl0 vl0 us x u w''∧T w' w'')∧(wantedE L (envL L (valsD Sl0 vl0 us) ρ x) o=false→relD Sl0 vl0 us x undef w')) ∧
  (∀ x S,i≤x→x<i+j→Sl0[x]?=some (some S)→MonoT T w0 (S us)∧DepS L x S)∧K (envL L (valsD Sl0 vl0 us) ρ (i+j)):=by
 intro j
 induction j with
 | zero =>
  intro i _ h
  exact ⟨fun x o h1 h2=>by omega,fun x S h1 h2=>by omega,h.2.2⟩
 | succ j ih =>
  intro i hij h
  have hi:i<L.length:=by omega
  have ho:L[i]?=some L[i]:=List.getElem?_eq_getElem hi
  rw [List.drop_eq_getElem_cons hi] at h
  cases hS:Sl0.drop i with
  | nil=>rw [hS] at h;exact h.elim
  | cons s Sl =>
   cases hv:vl0.drop i with
   | nil=>rw [hS,hv] at h;cases s <;> exact h.elim
   | cons v vl =>
    rw [hS,hv] at h
    have hS1:Sl0.drop (i+1)=Sl:=by rw [←List.drop_drop,hS];rfl
    have hv1:vl0.drop (i+1)=vl:=by rw [←List.drop_drop,hv];rfl
    have hSi:Sl0[i]?=some s:=by
     have:=List.getElem?_drop (xs:=Sl0) (i:=i) (j:=0)
     rw [hS] at this;simpa using this.symm
    have hvi:vl0.getD i undef=v:=by
     have:=List.getElem?_drop (xs:=vl0) (i:=i) (j:=0)
     rw [hv] at this
     simp only [List.getElem?_cons_zero,Nat.add_zero] at this
     simp [List.getD,←this]
    cases s with
    | none =>
     have hval:valsD Sl0 vl0 us i=v:=by unfold valsD;rw [hSi];exact hvi
     obtain ⟨h1,h2,h3⟩:=h
     rw [←hval,←envL_succ ho,←hS1,←hv1] at h3
     obtain ⟨k1,k2,k3⟩:=ih (i+1) (by omega) h3
     refine ⟨fun x o hx1 hx2 hxo w' e hF=>?_,fun x S hx1 hx2 hx3=>?_,by rw [show i+(j+1)=i+1+j by omega];exact k3⟩
     ·by_cases hxi:x=i
      ·subst hxi
       rw [ho] at hxo
       injection hxo with hxo
       subst hxo
       have hr:∀ u w,u=v→relD Sl0 vl0 us x u w:=fun u w hu=>by unfold relD;rw [hSi];exact hu.trans hvi.symm
       exact ⟨fun hw=>yieldsR_mono (yieldsR_of_to (h1 hw w' e hF)) fun u w'' hu=>⟨hr _ _ hu.1,hu.2⟩,fun hw=>hr _ _ (h2 hw).symm⟩
      ·exact k1 x o (by omega) (by omega) hxo w' e hF
     ·by_cases hxi:x=i
      ·subst hxi;rw [hSi] at hx3;cases hx3
      ·exact k2 x S (by omega) (by omega) hx3
    | some S =>
     have hval:valsD Sl0 vl0 us i=us i:=by unfold valsD;rw [hSi]
     obtain ⟨h0,hd,h1,h2,h3⟩:=h
     rw [←hval,←envL_succ ho,←hS1,←hv1] at h3
     obtain ⟨k1,k2,k3⟩:=ih (i+1) (by omega) h3
     refine ⟨fun x o hx1 hx2 hxo w' e hF=>?_,fun x S' hx1 hx2 hx3=>?_,by rw [show i+(j+1)=i+1+j by omega];exact k3⟩
     ·by_cases hxi:x=i
      ·subst hxi
       rw [ho] at hxo
       injection hxo with hxo
       subst hxo
       refine ⟨fun hw=>yieldsR_mono (h2 w' e hF) fun u w'' hu=>⟨?_,hu.2⟩,fun hw=>by rw [h1 w' e hF] at hw;cases hw⟩
       unfold relD;rw [hSi];exact hu.1
      ·exact k1 x o (by omega) (by omega) hxo w' e hF
     ·by_cases hxi:x=i
      ·subst hxi;rw [hSi] at hx3;injection hx3 with hx3;injection hx3 with hx3;subst hx3;exact ⟨h0,hd⟩
      ·exact k2 x S' (by omega) (by omega) hx3
theorem V.regionD {id:Nat} {w:World} (hm:P.follows .mixedOrders=true) (k:Nat) (hr:regOk L k=true) (hk:Nat.ble k L.length=true) {Sl:List (Option DRel)} {vl:List Value}
  (h:∀ us,VD T P L w us (factD Sl us) k 0 Sl vl L ρ fun ρ'=>∀ w',T w w'→(∀ x,factD Sl us x w')→VL P N L Q (L.drop k) ρ' w') (hl:Nat.ble Sl.length k=true) :
  V P N (.region id L.toArray true) Q ρ w:=by
 refine ⟨fun ok=>?_⟩
 have okL:okOps N L=true:=by simpa [okCode] using ok
 have RO:=regOk_spec hr
 have hkl:=Nat.le_of_ble_eq_true hk
 have sp:=fun us=>VDs_spec (P:=P) (L:=L) (ρ:=ρ) (Sl0:=Sl) (vl0:=vl) (us:=us) k 0 (by omega) (by rw [envL_zero];exact (h us).go)
 refine (V.regionMD (T:=T) (Q:=Q) (ρ:=ρ) (id:=id) (w:=w) hm k hr hk (relD Sl vl) (fun vals i u w1 w2 h1 h2 h3=>?_) (fun v v' i u w1 h1 h2=>?_) (N:=N) fun vals=>?_).go ok
 ·unfold relD at h2 ⊢
  cases hS:Sl[i]? with
  | none=>rw [hS] at h2;exact h2
  | some s =>
   cases s with
   | none=>rw [hS] at h2;exact h2
   | some S =>
    rw [hS] at h2
    have hik:i<k:=by have:=(List.getElem?_eq_some_iff.1 hS).1;have:=Nat.le_of_ble_eq_true hl;omega
    exact ((sp vals).2.1 i S (Nat.zero_le _) (by omega) hS).1 u w1 w2 h1 h2 h3
 ·unfold relD at h2 ⊢
  cases hS:Sl[i]? with
  | none=>rw [hS] at h2;exact h2
  | some s =>
   cases s with
   | none=>rw [hS] at h2;exact h2
   | some S =>
    rw [hS] at h2
    have hik:i<k:=by have:=(List.getElem?_eq_some_iff.1 hS).1;have:=Nat.le_of_ble_eq_true hl;omega
    exact ((sp v).2.1 i S (Nat.zero_le _) (by omega) hS).2 v v' u w1 h1 h2
 ·obtain ⟨s1,s2,s3⟩:=sp vals
  have hrel:∀ y w',relD Sl vl vals y (vals y) w'→vals y=valsD Sl vl vals y∧factD Sl vals y w':=fun y w' hy=>by
   unfold relD at hy
   unfold valsD factD
   split
   ·rename_i S hS
    rw [hS] at hy
    exact ⟨rfl,hy⟩
   ·rename_i hn
    refine ⟨?_,trivial⟩
    split at hy
    ·rename_i S hS;exact (hn S hS).elim
    ·exact hy
  have hVM:=VMd_of (T:=T) (P:=P) (A:=ancs L []) (L:=L) (ρ:=ρ) (R:=relD Sl vl) (w0:=w) (vals:=vals)
   (K:=fun ρ'=>∀ w',T w w'→(∀ j,j<k→relD Sl vl vals j (vals j) w')→VL P N L Q (L.drop k) ρ' w') k 0 (by omega) ?_ ?_
  ·rw [envL_zero] at hVM;exact hVM
  ·intro x ox hx0 hx hox w' e hanc
   have hxl:=(List.getElem?_eq_some_iff.1 hox).1
   have hsame:∀ t∈names L ox,envL L (valsD Sl vl vals) ρ x t=envL L vals ρ x t:=fun t ht=>by
    refine envL_vals x (by omega) fun j hj hd=>?_
    exact (hrel j w' (hanc j (names_anc RO hox ht hj hd))).1.symm
   have hokx:okOp N ox=true:=List.all_eq_true.1 okL ox (List.mem_of_getElem? hox)
   obtain ⟨o1,o2⟩:=s1 x ox hx0 hx hox w' e fun y hy=>(hrel y w' (hanc y hy)).2
   rw [←wanted_same hsame]
   exact ⟨fun hw=>yieldsR_same (tm_same hsame hokx) (o1 hw),o2⟩
  ·rw [Nat.zero_add] at s3 ⊢
   intro w' e hR
   have hE:envL L vals ρ k=envL L (valsD Sl vl vals) ρ k:=by
    funext t
    exact envL_vals k hkl fun j hj _=>(hrel j w' (hR j hj)).1
   rw [hE]
   refine s3 w' e fun x=>?_
   by_cases hx:x<k
   ·exact (hrel x w' (hR x hx)).2
   ·unfold factD
    have:Sl[x]?=none:=List.getElem?_eq_none (by have:=Nat.le_of_ble_eq_true hl;omega)
    rw [this];trivial
section
variable {T:World→World→Prop} [Turn T] {w0:World} {us:Nat→Value} {F:Nat→World→Prop} {K:Env→Prop} {j i:Nat} {Sl:List (Option DRel)} {vl:List Value} {l:List Oper} {d:Nat} {q:Op} {ty:TypeId} {p:String} {af:Array Edge} {v:Value}
theorem VD.nil (h:K ρ):VD T P L w0 us F 0 i [] [] l ρ K:=⟨rfl,rfl,h⟩
theorem VD.op (hr:∀ w,T w0 w→run1 P ρ q ty w=.ok (.value v) w) (h:VD T P L w0 us F j (i+1) Sl vl l (upd ρ d v) K) :
  VD T P L w0 us F (j+1) i (none :: Sl) (v :: vl) ({ dst:=some d,op:=q,type:=ty,pos:=p,after:=af,guard:=none } :: l) ρ K :=
 ⟨⟨fun _ w e _=>by unfold yieldsTo;rw [run1_eq,hr w e];exact ⟨rfl,Turn.refl _⟩,fun hw=>by simp [wantedE,Region.wanted] at hw,h.go⟩⟩
theorem VD.callX {f:FuncId} {l':List Operand} {vs:List Value} {ts:Array TypeId} (S:DRel) (dep:DepS L i S) (mono:MonoT T w0 (S us)) (hc:IsFn P f) (ha:l'.map (tm ρ)=vs)
  (hf:∀ w,T w0 w→(∀ x,((ancs L []).getD i 0).testBit x=true→F x w)→Rets P f vs.toArray w fun u w'=>S us u w'∧Ext w w')
  (h:VD T P L w0 us F j (i+1) Sl vl l (upd ρ d (us i)) K) :
  VD T P L w0 us F (j+1) i (some S :: Sl) (undef :: vl) ({ dst:=some d,op:=.call { callee:=.value (.func f),args:=l'.toArray,argTypes:=ts },type:=ty,pos:=p,after:=af,guard:=none } :: l) ρ K :=
 ⟨⟨mono,dep,fun _ _ _=>rfl,fun w e hF=>by unfold yieldsR;rw [run1_eq,R.call hc ha];exact Rets.mono (hf w e hF) fun u w' h=>⟨h.1,Turn.ext h.2⟩,h.go⟩⟩
theorem VD.spec {o:Oper} (S:DRel) (dep:DepS L i S) (mono:MonoT T w0 (S us)) (hw:wantedE L ρ o=true) (hf:∀ w,T w0 w→(∀ x,((ancs L []).getD i 0).testBit x=true→F x w)→yieldsR P ρ o w fun u w'=>S us u w'∧T w w')
  (h:VD T P L w0 us F j (i+1) Sl vl l (put ρ o.dst (us i)) K) :
  VD T P L w0 us F (j+1) i (some S :: Sl) (undef :: vl) (o :: l) ρ K:=⟨⟨mono,dep,fun _ _ _=>hw,fun w e hF=>hf w e hF,h.go⟩⟩
theorem VD.gT {i0 dj:Nat} {want:Bool} {dst:Option Tmp} (hd:dstAt L i0=some dj) (ht:tm ρ (.tmp dj)=.bool want)
  (h:VD T P L w0 us F (j+1) i Sl vl ({ dst:=dst,op:=q,type:=ty,pos:=p,after:=af,guard:=none } :: l) ρ K) :
  VD T P L w0 us F (j+1) i Sl vl ({ dst:=dst,op:=q,type:=ty,pos:=p,after:=af,guard:=some (i0,want) } :: l) ρ K:=by
 have hy:yl L ρ i0=some want:=by
  unfold yl;rw [hd]
  have ht:ρ dj=.bool want:=ht
  simp only [ht]
 have hw:wantedE L ρ { dst:=dst,op:=q,type:=ty,pos:=p,after:=af,guard:=some (i0,want) }=true:=by simp [wantedE,Region.wanted,hy]
 obtain ⟨h⟩:=h
 refine ⟨?_⟩
 match Sl,vl with
 | none :: Sl,v :: vl=>exact ⟨fun _=>h.1 (by simp [wantedE,Region.wanted]),fun hn=>(by rw [hw] at hn;cases hn),h.2.2⟩
 | some S :: Sl,v :: vl=>exact ⟨h.1,h.2.1,fun _ _ _=>hw,h.2.2.2.1,h.2.2.2.2⟩
 | [],_=>exact h.elim
 | _ :: _,[]=>cases ‹Option DRel› <;> exact h.elim
theorem VD.specG {o:Oper} (S:DRel) (dep:DepS L i S) (mono:MonoT T w0 (S us)) (hw:∀ w,T w0 w→(∀ x,((ancs L []).getD i 0).testBit x=true→F x w)→wantedE L ρ o=true) (hf:∀ w,T w0 w→(∀ x,((ancs L []).getD i 0).testBit x=true→F x w)→yieldsR P ρ o w fun u w'=>S us u w'∧T w w')
  (h:VD T P L w0 us F j (i+1) Sl vl l (put ρ o.dst (us i)) K) :
  VD T P L w0 us F (j+1) i (some S :: Sl) (undef :: vl) (o :: l) ρ K:=⟨⟨mono,dep,hw,fun w e hF=>hf w e hF,h.go⟩⟩
theorem wanted_of {i0 dj:Nat} {want:Bool} {dst:Option Tmp} (hd:dstAt L i0=some dj) (ht:tm ρ (.tmp dj)=.bool want):wantedE L ρ { dst:=dst,op:=q,type:=ty,pos:=p,after:=af,guard:=some (i0,want) }=true:=by
 have ht:ρ dj=.bool want:=ht
 have hy:yl L ρ i0=some want:=by
  unfold yl;rw [hd]
  show (match ρ dj with | .bool b=>some b | _=>none)=some want
  rw [ht]
 show Region.wanted _ (yl L ρ)=true
 unfold Region.wanted
 simp [hy]
theorem yieldsR_call {w:World} {f:FuncId} {l':List Operand} {vs:List Value} {ts:Array TypeId} {dst:Option Tmp} {gg:Option (Nat×Bool)} {Kw:Value→World→Prop} (hc:IsFn P f) (ha:l'.map (tm ρ)=vs) (h:Rets P f vs.toArray w Kw) :
  yieldsR P ρ { dst:=dst,op:=.call { callee:=.value (.func f),args:=l'.toArray,argTypes:=ts },type:=ty,pos:=p,after:=af,guard:=gg } w Kw:=by
 unfold yieldsR;rw [run1_eq,R.call hc ha];exact h
end
end
instance:Turn Ext where
 refl _a:=Mod.refl _ _
 trans h k:=Mod.trans h k
 ext e:=e
section
variable {P:Program} {ρ:Env} {w:World} {ty t:TypeId} {x y:Operand} {p:String} {af:Array Edge} {g:Option (Nat×Bool)} {d:Option Tmp}
theorem R.app1 {α:Type} {enc:α→List Value} {B e s bytes:Nat} {z:Value} (E:ElT P t e s bytes z) {a:Option Addr} {cap b:Nat} {l:List α} {u:α}
  (hone:∀ u,allOne (enc u)=true) (hx:tm ρ x=.slice a l.length cap) (hown:OwnT enc s e B w a cap l) (hy:tm ρ y=.slice (some ⟨b,0,none⟩) 1 1) (hs:TSl enc s w (some ⟨b,0,none⟩) [u])
  (hbytes:(l.length+1)*bytes≤140737488355328) (h63:l.length+1≤maxLen) (hB:B≤w.heap.size) :
  ∃ a' cap' w',run1 P ρ (.call { callee:=.builtin .append,args:=#[x,y],argTypes:=#[t,t] }) ty w=.ok (.value (.slice a' (l.length+1) cap')) w'∧OwnT enc s e B w' a' cap' (l++[u])∧Mod (aBlk a) w w'∧(∀ k,aBlk a' k→aBlk a k∨w.heap.size≤k)∧((a'=a∧cap'=cap)∨(Ext w w'∧∀ k,aBlk a' k→w.heap.size≤k)):=by
 have lift:∀ a' n cap' w',(Builtin.append_ #[t,t] ty #[.slice a l.length cap,.slice (some ⟨b,0,none⟩) 1 1]).run P w=.ok (.slice a' n cap') w'→run1 P ρ (.call { callee:=.builtin .append,args:=#[x,y],argTypes:=#[t,t] }) ty w=.ok (.value (.slice a' n cap')) w':=fun a' n cap' w' hr=>by
  simp only [run1,execOp,resolve,invoke,builtin,Sem.run_bind,Sem.run_pure,Result.andThen_ok,List.map_toArray,List.map_cons,List.map_nil,hx,hy,hr]
 have hone':∀ r∈[enc u],∀ v∈r,v.oneCell'=true:=by
  intro r hr v hv
  rw [List.mem_singleton] at hr
  rw [hr] at hv
  exact (allOne_iff _).1 (hone u) v hv
 obtain ⟨a',cap',w',hr,ho,hm,hf⟩:=run_append_any (P:=P) (ty:=ty) (rows:=l.map enc) (news:=[enc u]) E hown hs (fun h=>by cases h) hone' (by simpa using hbytes) (by simpa using h63) hB
 simp only [List.length_map,List.length_singleton] at hr
 refine ⟨a',cap',w',lift _ _ _ _ hr,by unfold OwnT;rw [List.map_append];exact ho,hm,hf,?_⟩
 clear ho hf hm
 obtain ⟨i,hi,hz,hsz,hby⟩:=E.hi
 subst hsz;subst hby
 have hl:(enc u).length=1*i.size:=by rw [Nat.one_mul];exact hs.1 (enc u) (by simp)
 have hadds:SlV w i.size (some ⟨b,0,none⟩) [enc u]:=hs
 have hsmall:l.length+1≤9223372036854775807:=by simp only [maxLen] at h63;omega
 rcases hown.own.2 with ⟨h,h0⟩ | ⟨g,cap0,cur,hv,hbg,hgg,hnc,hcm,hcs,htake⟩
 ·rw [List.length_map] at h0
  injection h with ha _ hc
  subst ha;subst hc
  have hrun:=run_append_nil (P:=P) w t ty e i z E.ht hi hz ⟨b,0,none⟩ 1 1 [enc u].flatten (by simpa using hl) hadds.adds (by omega) (by omega) (by rw [h0] at hbytes;omega)
  rw [h0] at hr
  simp only [Nat.zero_add] at hr
  rw [hrun] at hr
  injection hr with hr hw
  injection hr with hr _ _
  rw [←hw]
  exact .inr ⟨(Ext.drawn w).trans (Ext.alloc _ _),by rintro k ⟨x,rfl,rfl⟩;injection hr with hr;subst hr;exact Nat.le_refl _⟩
 ·injection hv with ha hn hc
  subst ha;subst hc
  rw [List.length_map] at hnc
  have hown':=hown.own
  simp only [List.length_map] at hown'
  by_cases hroom:l.length+1≤cap
  ·have hfit:l.length*i.size+[enc u].flatten.length≤cur.size:=by
    simp only [List.flatten_cons,List.flatten_nil,List.append_nil]
    rw [hl,hcs,←Nat.add_mul];exact Nat.mul_le_mul_right _ hroom
   have hrun:=run_append_room (P:=P) w t ty e i E.ht hi g l.length cap cur hgg ⟨b,0,none⟩ 1 1 [enc u].flatten (by simpa using hl) hadds.adds (by intro v hv;obtain ⟨r,hr,hv⟩:=List.mem_flatten.1 hv;exact hone' r hr v hv) hroom hfit
   rw [hrun] at hr
   injection hr with hr hw
   injection hr with hr _ hr2
   exact .inl ⟨hr.symm,hr2.symm⟩
  ·have hrun:=run_append_grow (P:=P) w t ty e i z E.ht hi hz ⟨g,0,none⟩ l.length cap (l.map enc).flatten (by rw [hown'.1]) (hown'.cells (g:=g) rfl) ⟨b,0,none⟩ 1 1 [enc u].flatten (by simpa using hl) hadds.adds (by omega) (by omega) (growslice_fits (by omega) hbytes)
   rw [hrun] at hr
   injection hr with hr hw
   injection hr with hr _ _
   rw [←hw]
   exact .inr ⟨(Ext.drawn w).trans (Ext.alloc _ _),by rintro k ⟨x,rfl,rfl⟩;injection hr with hr;subst hr;exact Nat.le_refl _⟩
end
theorem OwnT.prefix_ {α:Type} {enc:α→List Value} {s e B:Nat} {w:World} {a:Option Addr} {cap:Nat} {l m:List α} (h:OwnT enc s e B w a cap (l++m)):OwnT enc s e B w a cap l:=by
 have hl:∀ r∈(l++m).map enc,r.length=s:=h.len
 have hl1:∀ r∈l.map enc,r.length=s:=fun r hr=>hl r (by rw [List.map_append];exact List.mem_append.2 (.inl hr))
 have hf1:(l.map enc).flatten.length=l.length*s:=by rw [flatten_len _ s hl1,List.length_map]
 refine ⟨hl1,by rw [hf1,List.length_map],?_⟩
 rcases h.own.2 with ⟨hv,h0⟩ | ⟨g,cap',cur,hv,hB,hg,hn,hcm,hc,ht⟩
 ·rw [List.length_map,List.length_append] at h0
  have h1:l=[]:=List.eq_nil_of_length_eq_zero (by omega)
  have h2:m=[]:=List.eq_nil_of_length_eq_zero (by omega)
  subst h1;subst h2
  exact .inl ⟨hv,rfl⟩
 ·injection hv with ha hn' hcap
  simp only [List.length_map,List.length_append] at hn ht
  refine .inr ⟨g,cap',cur,by rw [ha,hcap],hB,hg,by rw [List.length_map];omega,hcm,hc,?_⟩
  rw [List.length_map]
  have h3:=congrArg (List.take (l.length*s)) ht
  rw [List.take_take,Nat.min_eq_left (Nat.mul_le_mul_right _ (by omega)),List.map_append,List.flatten_append,List.take_left' hf1] at h3
  exact h3
structure TA {α:Type} (enc:α→List Value) (s e B:Nat) (a:Option Addr) (cap:Nat) (l:List α) (u:α) (w w':World):Prop where
 m:Mod (aBlk a) w w'
 s1:OwnT enc s e B w a cap l→OwnT enc s e B w' a cap l
 s2:OwnT enc s e B w a cap (l++[u])→OwnT enc s e B w' a cap (l++[u])
instance {α:Type} (enc:α→List Value) (s e B:Nat) (a:Option Addr) (cap:Nat) (l:List α) (u:α):Turn (TA enc s e B a cap l u) where
 refl _w:=⟨Mod.refl _ _,fun h=>h,fun h=>h⟩
 trans h k:=⟨h.m.trans k.m,fun x=>k.s1 (h.s1 x),fun x=>k.s2 (h.s2 x)⟩
 ext e:=⟨e.mod,fun h=>h.ext e,fun h=>h.ext e⟩
def SA {α:Type} (enc:α→List Value) (s e B n0:Nat) (a:Option Addr) (cap:Nat) (l:List α) (u:α):Rel:=fun v w=>∃ a' c',v=.slice a' (l.length+1) c'∧OwnT enc s e B w a' c' (l++[u])∧((a'=a∧c'=cap)∨∀ q,aBlk a' q→n0≤q)
theorem SA.mono {α:Type} {enc:α→List Value} {s e B:Nat} {a:Option Addr} {cap:Nat} {l:List α} {u:α} {w0:World} (h0:OwnT enc s e B w0 a cap l):MonoT (TA enc s e B a cap l u) w0 (SA enc s e B w0.heap.size a cap l u):=fun v x y _ ⟨a',c',h1,h2,h3⟩ t=>by
 refine ⟨a',c',h1,?_,h3⟩
 rcases h3 with ⟨e1,e2⟩ | h3
 ·subst e1;subst e2;exact t.s2 h2
 ·exact h2.mod t.m fun q hq hs=>by have:=h3 q hq;have:=h0.lt q hs;omega
theorem yieldsR_app1 {P:Program} {ρ:Env} {w0 w:World} {ty t:TypeId} {x y:Operand} {p:String} {af:Array Edge} {g:Option (Nat×Bool)} {d:Option Tmp} {α:Type} {enc:α→List Value} {B e s bytes:Nat} {z:Value} (E:ElT P t e s bytes z) {a:Option Addr} {cap b:Nat} {l:List α} {u:α}
  (hone:∀ u,allOne (enc u)=true) (h0:OwnT enc s e B w0 a cap l) (ht:TA enc s e B a cap l u w0 w) (hx:tm ρ x=.slice a l.length cap) (hy:tm ρ y=.slice (some ⟨b,0,none⟩) 1 1) (hs:TSl enc s w (some ⟨b,0,none⟩) [u])
  (hbytes:(l.length+1)*bytes≤140737488355328) (h63:l.length+1≤maxLen) (hB:B≤w0.heap.size) :
  yieldsR P ρ { dst:=d,op:=.call { callee:=.builtin .append,args:=#[x,y],argTypes:=#[t,t] },type:=ty,pos:=p,after:=af,guard:=g } w fun v w'=>SA enc s e B w0.heap.size a cap l u v w'∧TA enc s e B a cap l u w w':=by
 have hown:=ht.s1 h0
 have hsz:=ht.m.size
 obtain ⟨a',c',w',hr,ho,hm,hf,hd⟩:=R.app1 (P:=P) (ρ:=ρ) (ty:=ty) E hone hx hown hy hs hbytes h63 (Nat.le_trans hB hsz)
 refine yieldsR_op hr ⟨⟨a',c',rfl,ho,?_⟩,hm,fun h=>?_,fun h=>?_⟩
 ·rcases hd with h | ⟨_,h⟩
  ·exact .inl h
  ·exact .inr fun q hq=>Nat.le_trans hsz (h q hq)
 ·rcases hd with ⟨e1,e2⟩ | ⟨h1,_⟩
  ·subst e1;subst e2;exact ho.prefix_
  ·exact h.ext h1
 ·rcases hd with ⟨e1,e2⟩ | ⟨h1,_⟩
  ·subst e1;subst e2;exact ho
  ·exact h.ext h1
end Go.Vc
