/- Regions whose order is open and in which several operations make blocks: each result is told by a relation of its own, which later blocks keep. -/
import Derived.Test.YtdkhcipjenfcnaaGreatDoorXVcClear
namespace Go.Vc
set_option maxRecDepth 100000
set_option maxHeartbeats 16000000
def updV (vs:Nat→Value) (i:Nat) (u:Value):Nat→Value:=fun j=>bif Nat.beq j i then u else vs j
def yieldsR (P:Program) (ρ:Env) (o:Oper) (w:World) (K:Value→World→Prop):Prop :=
 match (execOp (tm ρ) o).run P w with
 | .ok (.value u) w'=>K u w'
 | .ok .skip w'=>K undef w'
 | .ok (.enter f args) w'=>Rets P f args w' K
 | _=>False
section
variable {P:Program} {N:Nat} {L:List Oper} {Q:Exit→Env→World→Prop} {ρ:Env} {k:Nat}
theorem wpOp_of_yieldsR {i:Nat} {o:Oper} (hL:okOps N L=true) (ho:L[i]?=some o) {ρi:Env} {w:World} {Kw:Value→World→Prop} {K:Act→World→Prop} {QQ:Exit→Act→World→Prop}
  (hw:wantedE L ρi o=true→yieldsR P ρi o w Kw) (hn:wantedE L ρi o=false→Kw undef w)
  (hK:∀ u w',Kw u w'→K (act N (put ρi o.dst u)) w'):wpOp P L.toArray QQ i K (act N ρi) w:=by
 unfold wpOp
 have ho':L.toArray[i]?=some o:=by simpa using ho
 rw [ho']
 simp only
 have hok:okOp N o=true:=List.all_eq_true.1 hL o (List.mem_of_getElem? ho)
 have e:(fun j=>yielded L.toArray (act N ρi).tmps j)=yl L ρi:=funext fun j=>yl_act hL j
 have e':Region.wanted o (yielded L.toArray (act N ρi).tmps)=wantedE L ρi o:=by
  show Region.wanted o (fun j=>yielded L.toArray (act N ρi).tmps j)=_
  rw [e];rfl
 rw [e']
 cases hwant:wantedE L ρi o with
 | true =>
  simp only [if_true]
  left
  have h:=hw hwant
  unfold yieldsR at h
  unfold Oper.wp
  rw [exec_act hok]
  revert h
  generalize (execOp (tm ρi) o).run P w=r
  intro h
  cases r with
  | ok n w' =>
   cases n <;> simp only at h <;> simp only [Oper.upon]
   case value u=>rw [act_put];exact hK _ _ h
   case skip=>rw [act_put];exact hK _ _ h
   case enter f args =>
    refine Calls.mono h ?_
    rintro e w'' ⟨v,rfl,hk⟩
    simp only
    rw [act_put];exact hK _ _ hk
  | halt x w'=>exact h.elim
 | false =>
  simp only [Bool.false_eq_true,if_false]
  rw [act_put];exact hK _ _ (hn hwant)
theorem envD_vals {vals vals':Nat→Value} {D:Nat→Bool} (h:∀ j,D j=true→vals j=vals' j):envD L vals D ρ=envD L vals' D ρ:=by
 funext t
 unfold envD
 refine foldl_range_congr _ _ _ _ fun a j _=>?_
 cases hD:D j with
 | false=>rfl
 | true=>rw [h j hD]
theorem updV_self (vs:Nat→Value) (i:Nat) (u:Value):updV vs i u i=u:=by unfold updV;rw [Nat.beq_refl];rfl
theorem updV_ne (vs:Nat→Value) {i j:Nat} (u:Value) (h:j≠i):updV vs i u j=vs j:=by unfold updV;rw [nbeq_ne h];rfl
def Asked2 (P:Program) (L:List Oper) (ρ:Env) (C:(Nat→Bool)→(Nat→Value)→World→Prop) (k i:Nat) (o:Oper):Prop :=
 ∀ D vals,closedD L D→D i=false→(∀ e∈o.after,binds e=true→D e.on=true)→(∀ j,k≤j→D j=false)→∀ w,C D vals w →
  (wantedE L (envL L vals ρ i) o=true→yieldsR P (envL L vals ρ i) o w fun u w'=>C (setD D i) (updV vals i u) w')∧(wantedE L (envL L vals ρ i) o=false→C (setD D i) (updV vals i undef) w)
theorem wpAny_any2 (R:RegOk L k) (hL:okOps N L=true) (hkl:k≤L.length) {C:(Nat→Bool)→(Nat→Value)→World→Prop} {QQ:Exit→Act→World→Prop}
  (hask:∀ i o,L[i]?=some o→i<k→Asked2 P L ρ C k i o)
  (hend:∀ vals w,C (lexD k) vals w→wpOps P L.toArray QQ (List.range' k (L.length-k)) (act N (envL L vals ρ k)) w) :
  ∀ (n fuel:Nat) (listed:Array Bool) (vals:Nat→Value) (w:World),listed.size=L.length→closedD L (lst listed)→(∀ j,k≤j→lst listed j=false) →
   n=((List.range k).filter fun j=>!lst listed j).length→n+(L.length-k)≤fuel→C (lst listed) vals w →
   wpAny P .any L.toArray QQ fuel listed (act N (envD L vals (lst listed) ρ)) w:=by
 intro n
 induction n with
 | zero =>
  intro fuel listed vals w hs hcl hsuf hn hf hC
  have hall:∀ j,j<k→lst listed j=true:=by
   intro j hj
   have h0:=List.eq_nil_of_length_eq_zero hn.symm
   rw [List.filter_eq_nil_iff] at h0
   simpa using h0 j (List.mem_range.2 hj)
  have he:lst listed=lexD k:=by
   funext j
   by_cases hj:j<k
   ·rw [hall j hj];exact (nblt.2 hj).symm
   ·rw [hsuf j (by omega)];exact (nblt_no hj).symm
  rw [he] at hC ⊢
  exact wpAny_serial R _ k fuel listed _ w rfl (Nat.le_refl _) hkl hs he (by omega) (hend vals w hC)
 | succ n ih =>
  intro fuel listed vals w hs hcl hsuf hn hf hC
  obtain ⟨fuel,rfl⟩:∃ f,fuel=f+1:=⟨fuel-1,by omega⟩
  have hex:∃ j,j<k∧lst listed j=false∧∀ i,i<j→lst listed i=true:=by
   have h0:∃ j,j<k∧lst listed j=false:=by
    have:((List.range k).filter fun j=>!lst listed j)≠[]:=by
     intro h;rw [h] at hn;cases hn
    obtain ⟨j,hj⟩:=List.exists_mem_of_ne_nil _ this
    rw [List.mem_filter,List.mem_range] at hj
    exact ⟨j,hj.1,by simpa using hj.2⟩
   obtain ⟨j,hjk,hj⟩:=h0
   have key:∀ j,lst listed j=false→∃ m,m≤j∧lst listed m=false∧∀ i,i<m→lst listed i=true:=by
    intro j
    induction j using Nat.strongRecOn with
    | _ j ihj =>
     intro hj
     by_cases hx:∀ i,i<j→lst listed i=true
     ·exact ⟨j,Nat.le_refl _,hj,hx⟩
     ·obtain ⟨i,hi⟩:=Classical.not_forall.1 hx
      obtain ⟨hij,hi'⟩:=Classical.not_imp.1 hi
      obtain ⟨m,h1,h2,h3⟩:=ihj i hij (by simpa using hi')
      exact ⟨m,by omega,h2,h3⟩
   obtain ⟨m,h1,h2,h3⟩:=key j hj
   exact ⟨m,by omega,h2,h3⟩
  obtain ⟨m,hmk,hmn,hmall⟩:=hex
  have hml:m<L.length:=by omega
  have hmem:m∈Region.ready .any L.toArray listed:=by
   refine mem_ready.2 ⟨lst_no' (by omega) hmn,L[m],by simp [hml],fun e he hb=>?_⟩
   exact hmall e.on (R.back m L[m] (by simp [hml]) e he hb)
  refine ⟨fun h0=>(by rw [h0] at hmem;cases hmem),fun i hi=>?_⟩
  obtain ⟨h0,o,ho,hdeps⟩:=mem_ready.1 hi
  have ho':L[i]?=some o:=by simpa using ho
  have hil:i<L.length:=(List.getElem?_eq_some_iff.1 ho').1
  have hDi:lst listed i=false:=lst_no (by omega) h0
  have hik:i<k:=by
   rcases Nat.lt_or_ge i k with h | h
   ·exact h
   ·have:=anc_done R hcl ho' (fun e he hb=>hdeps e he hb) (R.serial i hil h m (by omega))
    rw [this] at hmn;cases hmn
  have hok:okOp N o=true:=List.all_eq_true.1 hL o (List.mem_of_getElem? ho')
  have hsame:∀ t∈names L o,envD L vals (lst listed) ρ t=envL L vals ρ i t:=fun t ht=>env_same R hcl ho' hDi (fun e he hb=>hdeps e he hb) ht
  have hA:=hask i o ho' hik (lst listed) vals hcl hDi (fun e he hb=>hdeps e he hb) hsuf w hC
  rw [←wanted_same hsame] at hA
  have hlater:∀ d,o.dst=some d→∀ j,i<j→dstAt L j=some d→lst listed j=false:=by
   intro d hd j hij hdj
   have hjl:=dstAt_lt hdj
   have hoj:L[j]?=some L[j]:=List.getElem?_eq_getElem hjl
   have hdj':L[j].dst=some d:=by rw [dstAt_eq,hoj] at hdj;exact hdj
   have hc:clash L o L[j]=true:=clash_of hdj' (by unfold names;simp [hd])
   rcases R.apart i o j L[j] ho' hoj (by omega) hc with ⟨hlt,_⟩ | ⟨_,hb⟩
   ·omega
   ·cases hDj:lst listed j with
    | false=>rfl
    | true=>rw [anc_closed hcl hjl hb hDj] at hDi;cases hDi
  refine wpOp_of_yieldsR (Kw:=fun u w'=>C (setD (lst listed) i) (updV vals i u) w') hL ho' (fun hw=>?_) (fun hw=>hA.2 hw) (fun u w' hC'=>?_)
  ·have h1:=hA.1 hw
   unfold yieldsR at h1 ⊢
   rw [tm_same hsame hok]
   exact h1
  ·have ee:put (envD L vals (lst listed) ρ) o.dst u=envD L (updV vals i u) (setD (lst listed) i) ρ:=by
    rw [envD_set ho' hlater,updV_self]
    congr 1
    exact envD_vals fun j hj=>(updV_ne vals u fun e=>by rw [e,hDi] at hj;cases hj).symm
   rw [ee,←lst_set (by omega)]
   refine ih fuel _ (updV vals i u) w' (by simpa using hs) (by rw [lst_set (by omega)];exact closed_set hcl ho' (fun e he hb=>hdeps e he hb)) ?_ ?_ (by omega) (by rw [lst_set (by omega)];exact hC')
   ·intro j hj
    rw [lst_set (by omega)]
    have:j≠i:=by omega
    simp [setD,nbeq_ne this,hsuf j hj]
   ·rw [lst_set (by omega)]
    have key:∀ k,i<k→((List.range k).filter fun j=>!lst listed j).length=((List.range k).filter fun j=>!setD (lst listed) i j).length+1:=by
     intro k
     induction k with
     | zero=>intro h;omega
     | succ k ihk =>
      intro h
      rw [List.range_succ,List.filter_append,List.filter_append,List.length_append,List.length_append]
      by_cases hik:i=k
      ·subst hik
       have e1:((List.range i).filter fun j=>!setD (lst listed) i j)=(List.range i).filter fun j=>!lst listed j:=by
        refine List.filter_congr fun j hj=>?_
        have:j≠i:=by have:=List.mem_range.1 hj;omega
        simp [setD,nbeq_ne this]
       rw [e1]
       simp [hDi,setD]
      ·rw [ihk (by omega)]
       have:k≠i:=fun e=>hik e.symm
       have e2:([k].filter fun j=>!setD (lst listed) i j)=[k].filter fun j=>!lst listed j:=by
        refine List.filter_congr fun j hj=>?_
        have:j≠i:=by have:=List.mem_singleton.1 hj;omega
        simp [setD,nbeq_ne this]
       rw [e2]
       omega
    have:=key k hik
    omega
def VMs (P:Program) (A:List Nat) (L:List Oper) (R:Nat→Value→World→Prop) (w0:World) (vals:Nat→Value) (K:Env→Prop):(j i:Nat)→List Oper→Env→Prop
 | 0,_,_,ρ=>K ρ
 | _+1,_,[],_=>False
 | j+1,i,o :: l,ρ =>
  (∀ w',Ext w0 w'→(∀ x,(A.getD i 0).testBit x=true→R x (vals x) w') →
   (wantedE L ρ o=true→yieldsR P ρ o w' fun u w''=>R i u w''∧Ext w' w'')∧(wantedE L ρ o=false→R i undef w')) ∧
  VMs P A L R w0 vals K j (i+1) l (put ρ o.dst (vals i))
theorem VMs_spec {A:List Nat} {R:Nat→Value→World→Prop} {w0:World} {vals:Nat→Value} {K:Env→Prop}:∀ (j i:Nat) (l:List Oper),l=L.drop i→VMs P A L R w0 vals K j i l (envL L vals ρ i)→i+j≤L.length →
  (∀ x o,x<j→L[i+x]?=some o→∀ w',Ext w0 w'→(∀ y,(A.getD (i+x) 0).testBit y=true→R y (vals y) w') →
   (wantedE L (envL L vals ρ (i+x)) o=true→yieldsR P (envL L vals ρ (i+x)) o w' fun u w''=>R (i+x) u w''∧Ext w' w'')∧(wantedE L (envL L vals ρ (i+x)) o=false→R (i+x) undef w'))∧K (envL L vals ρ (i+j)):=by
 intro j
 induction j with
 | zero=>intro i l hl h hj;exact ⟨fun x o hx=>by omega,h⟩
 | succ j ih =>
  intro i l hl h hj
  have hi:i<L.length:=by omega
  rw [List.drop_eq_getElem_cons hi] at hl
  subst hl
  obtain ⟨h1,h2⟩:=h
  have ho:L[i]?=some L[i]:=List.getElem?_eq_getElem hi
  rw [←envL_succ ho] at h2
  obtain ⟨h3,h4⟩:=ih (i+1) _ rfl h2 (by omega)
  refine ⟨fun x o hx ho2=>?_,by rw [show i+(j+1)=i+1+j by omega];exact h4⟩
  cases x with
  | zero =>
   rw [Nat.add_zero] at ho2 ⊢
   rw [ho] at ho2
   injection ho2 with ho2
   subst ho2
   exact h1
  | succ x =>
   rw [show i+(x+1)=i+1+x by omega] at ho2 ⊢
   exact h3 x o (by omega) ho2
theorem V.regionM {id:Nat} {w:World} (hm:P.follows .mixedOrders=true) (k:Nat) (hr:regOk L k=true) (hk:Nat.ble k L.length=true) (R:Nat→Value→World→Prop)
  (mono:∀ i u w1 w2,Ext w w1→R i u w1→Ext w1 w2→R i u w2)
  (h:∀ vals,VMs P (ancs L []) L R w vals (fun ρ'=>∀ w',Ext w w'→(∀ j,j<k→R j (vals j) w')→VL P N L Q (L.drop k) ρ' w') k 0 L ρ) :
  V P N (.region id L.toArray true) Q ρ w:=by
 refine ⟨fun ok=>?_⟩
 have okL:okOps N L=true:=by simpa [okCode] using ok
 have RO:=regOk_spec hr
 have hkl:=Nat.le_of_ble_eq_true hk
 refine wp_region_any hm ?_
 have hv:=fun vals=>VMs_spec (P:=P) (ρ:=ρ) k 0 L rfl (by rw [envL_zero];exact h vals) (by omega)
 let C:(Nat→Bool)→(Nat→Value)→World→Prop:=fun D vals w'=>Ext w w'∧∀ j,j<k→D j=true→R j (vals j) w'
 have start:=wpAny_any2 (P:=P) (N:=N) (ρ:=ρ) (C:=C) (QQ:=lift N Q) RO okL hkl ?_ ?_ k L.toArray.size (Array.replicate L.toArray.size false) (fun _=>undef) { w with drawn:=w.drawn+1 } (by simp) ?_ ?_ ?_ (by simp;omega) ?_
 ·have e:lst (Array.replicate L.toArray.size false)=fun _=>false:=by
   funext j;unfold lst;simp [Array.getElem?_replicate];split <;> rfl
  rw [e,envD_none] at start
  exact start
 ·intro i o ho hik D vals hcl hDi hdeps hsuf w' hC
  obtain ⟨h1,_⟩:=hv vals
  have h1:=h1 i o hik (by rw [Nat.zero_add];exact ho) w' hC.1 fun y hy=>by
   rw [Nat.zero_add] at hy
   have hil:i<L.length:=(List.getElem?_eq_some_iff.1 ho).1
   have hyi:=anc_lt RO hil hy
   exact hC.2 y (by omega) (anc_done RO hcl ho hdeps hy)
  rw [Nat.zero_add] at h1
  have keep:∀ u w'',R i u w''→Ext w' w''→C (setD D i) (updV vals i u) w'':=fun u w'' hR he=>by
   refine ⟨hC.1.trans he,fun j hj hD=>?_⟩
   by_cases hji:j=i
   ·subst hji;rw [updV_self];exact hR
   ·rw [updV_ne _ _ hji]
    have:D j=true:=by simpa [setD,nbeq_ne hji] using hD
    exact mono j _ _ _ hC.1 (hC.2 j hj this) he
  refine ⟨fun hw=>?_,fun hw=>keep _ _ (h1.2 hw) (Mod.refl _ _)⟩
  have h2:=h1.1 hw
  unfold yieldsR at h2 ⊢
  revert h2
  generalize (execOp (tm (envL L vals ρ i)) o).run P w'=r
  intro h2
  cases r with
  | ok n w'' =>
   cases n with
   | value u=>exact keep _ _ h2.1 h2.2
   | skip=>exact keep _ _ h2.1 h2.2
   | enter f args=>exact h2.mono fun u w3 h3=>keep _ _ h3.1 h3.2
   | _=>exact h2
  | halt=>exact h2
 ·intro vals w' hC
  obtain ⟨_,h2⟩:=hv vals
  rw [Nat.zero_add] at h2
  have hvl:=h2 w' hC.1 fun j hj=>hC.2 j hj (nblt.2 hj)
  have hdrop:okOps N (L.drop k)=true:=by
   unfold okOps at *
   rw [List.all_eq_true] at *
   exact fun o ho=>okL o (List.mem_of_mem_drop ho)
  have:=wpList_mono (lift_mono fun _ _ _ h=>h.1) _ _ _ (hvl.go okL hdrop)
  rw [←wpOps_eq_wpList (L.drop k) k (by intro j;simp)] at this
  simpa using this
 ·intro i o _ hi
  unfold lst at hi
  simp [Array.getElem?_replicate] at hi
  split at hi <;> cases hi
 ·intro j _;unfold lst;simp [Array.getElem?_replicate];split <;> rfl
 ·have:((List.range k).filter fun j=>!lst (Array.replicate L.toArray.size false) j)=List.range k:=by
   rw [List.filter_eq_self]
   intro j _;unfold lst;simp [Array.getElem?_replicate];split <;> rfl
  rw [this,List.length_range]
 ·refine ⟨Ext.drawn _,fun j _ hj=>?_⟩
  unfold lst at hj
  simp [Array.getElem?_replicate] at hj
  split at hj <;> cases hj
end
section
variable {P:Program} {ρ:Env} {w:World} {d:Option Tmp} {q:Op} {ty:TypeId} {p:String} {af:Array Edge} {g:Option (Nat×Bool)}
theorem yieldsR_op {v:Value} {w':World} {K:Value→World→Prop} (h:run1 P ρ q ty w=.ok (.value v) w') (hK:K v w'):yieldsR P ρ { dst:=d,op:=q,type:=ty,pos:=p,after:=af,guard:=g } w K:=by
 unfold yieldsR
 have:(execOp (tm ρ) { dst:=d,op:=q,type:=ty,pos:=p,after:=af,guard:=g }).run P w=.ok (.value v) w':=h
 rw [this];exact hK
end
section
variable {P:Program} {ρ:Env} {w:World} {d:Nat} {ty t:TypeId} {x y:Operand}
theorem yieldsR_build1 {α:Type} {enc:α→List Value} {B e s:Nat} {z v:Value} {d:Option Tmp} {p:String} {af:Array Edge} {g:Option (Nat×Bool)} {x1:Operand} {K:Value→World→Prop}
  (hu:∀ w,(underlying t).run P w=.ok (.slice e) w) (hs:∀ w,(sizeOf e).run P w=.ok s w) (hz:∀ w,(zeroValue e).run P w=.ok z w) (hzs:z.cells.size=s) (hs0:Nat.blt 0 s=true) (hn:Nat.ble s 16777216=true)
  (u:α) (hx:tm ρ x1=v) (hv:v.cells.toList=enc u) (hus:(enc u).length=s) (hB:B≤w.heap.size)
  (hK:∀ b w',OwnT enc s e B w' (some ⟨b,0,none⟩) 1 [u]→Ext w w'→K (.slice (some ⟨b,0,none⟩) 1 1) w') :
  yieldsR P ρ { dst:=d,op:=.buildSlice t 1 [(0,x1)].toArray,type:=ty,pos:=p,after:=af,guard:=g } w K:=by
 have hcs:v.cells.size=s:=by rw [←hus,←hv];simp
 have hcells:bld (fun i=>some (i*s,s)) (zrep z.cells.toList 1) ([(0,x1)].map fun p=>(p.1,tm ρ p.2))=enc u:=by
  simp only [List.map_cons,List.map_nil,bld,Nat.zero_mul,zrep,List.append_nil,hx]
  rw [ovr_eq _ _ _ (by simp [hcs,hzs])]
  simp only [List.take_zero,List.nil_append,Nat.zero_add]
  rw [List.drop_eq_nil_of_le (by simp [hcs,hzs]),List.append_nil,hv]
 refine yieldsR_op (R.buildSl (n:=1) hu hs hz ?_ (by rw [Nat.one_mul];exact hn) rfl ?_) (hK _ _ (OwnT.of1 enc s u (Blk.alloc _ _) hB ?_ hus) (Ext.alloc _ _))
 ·rw [Bool.and_eq_true];exact ⟨by rw [hzs];exact Nat.beq_refl _,hs0⟩
 ·simp only [List.map_cons,List.map_nil,bldOk,Bool.and_true,Bool.and_eq_true,Nat.zero_mul,Nat.one_mul,Nat.zero_add,hx]
  exact ⟨by rw [hcs];exact Nat.beq_refl _,by rw [hcs];exact Nat.ble_self_eq_true _⟩
 ·rw [hcells]
end
structure C0B (w0 w':World):Prop where
 e:Ext w0 w'
 sz:w'.heap.size=w0.heap.size
theorem C0B.drawn (w:World):C0B w { w with drawn:=w.drawn+1 }:=⟨Ext.drawn w,rfl⟩
structure C1B {α:Type} (w0:World) (enc:α→List Value) (s t:Nat) (u:α) (w':World):Prop where
 e:Ext w0 w'
 o:OwnT enc s t w0.heap.size w' (some ⟨w0.heap.size,0,none⟩) 1 [u]
section
variable {P:Program} {L:List Oper} {ρ:Env} {m i j:Nat} {l:List Oper} {K:Env→Prop} {d:Nat} {ty t:TypeId} {p:String} {af:Array Edge}
theorem VW.build1 {α:Type} {enc:α→List Value} {w0:World} {e s:Nat} {z v:Value} {x1:Operand}
  (hu:∀ w,(underlying t).run P w=.ok (.slice e) w) (hs:∀ w,(sizeOf e).run P w=.ok s w) (hz:∀ w,(zeroValue e).run P w=.ok z w) (hzs:z.cells.size=s) (hs0:Nat.blt 0 s=true) (hn:Nat.ble s 16777216=true)
  (u:α) (hx:tm ρ x1=v) (hv:v.cells.toList=enc u) (hus:(enc u).length=s)
  (h:VW P L (C0B w0) (C1B w0 enc s e u) m j (i+1) l (upd ρ d (.slice (some ⟨w0.heap.size,0,none⟩) 1 1)) K) (hi:Nat.beq i m=true:=by rfl) :
  VW P L (C0B w0) (C1B w0 enc s e u) m (j+1) i ({ dst:=some d,op:=.buildSlice t 1 [(0,x1)].toArray,type:=ty,pos:=p,after:=af,guard:=none } :: l) ρ K:=by
 refine VW.wr (fun w hw=>⟨w.alloc (.cells (enc u).toArray e (0,0)),?_,hw.e.trans (Ext.alloc _ _),?_⟩) h hi
 ·have hcs:v.cells.size=s:=by rw [←hus,←hv];simp
  have hcells:bld (fun i=>some (i*s,s)) (zrep z.cells.toList 1) ([(0,x1)].map fun p=>(p.1,tm ρ p.2))=enc u:=by
   simp only [List.map_cons,List.map_nil,bld,Nat.zero_mul,zrep,List.append_nil,hx]
   rw [ovr_eq _ _ _ (by simp [hcs,hzs])]
   simp only [List.take_zero,List.nil_append,Nat.zero_add]
   rw [List.drop_eq_nil_of_le (by simp [hcs,hzs]),List.append_nil,hv]
  have hr:=R.buildSl (P:=P) (ρ:=ρ) (ty:=ty) (w:=w) (n:=1) (parts:=[(0,x1)]) hu hs hz (by rw [Bool.and_eq_true];exact ⟨by rw [hzs];exact Nat.beq_refl _,hs0⟩) (by rw [Nat.one_mul];exact hn) rfl (by
   simp only [List.map_cons,List.map_nil,bldOk,Bool.and_true,Bool.and_eq_true,Nat.zero_mul,Nat.one_mul,Nat.zero_add,hx]
   exact ⟨by rw [hcs];exact Nat.beq_refl _,by rw [hcs];exact Nat.ble_self_eq_true _⟩)
  rw [hcells,hw.sz] at hr
  exact hr
 ·refine OwnT.of1 enc s u (b:=w0.heap.size) (cs:=(enc u).toArray) ?_ (Nat.le_refl _) (by simp) hus
  have:=Blk.alloc w (.cells (enc u).toArray e (0,0))
  rw [hw.sz] at this
  exact this
end
section
variable {P:Program} {N:Nat} {L:List Oper} {Q:Exit→Env→World→Prop} {ρ:Env}
theorem envL_vals {vals vals':Nat→Value} {t:Nat}:∀ (n:Nat),n≤L.length→(∀ j,j<n→dstAt L j=some t→vals j=vals' j)→envL L vals ρ n t=envL L vals' ρ n t:=by
 intro n
 induction n with
 | zero=>intro _ _;rw [envL_zero,envL_zero]
 | succ n ih =>
  intro hn h
  have ho:L[n]?=some L[n]:=List.getElem?_eq_getElem (by omega)
  rw [envL_succ ho,envL_succ ho]
  have ih:=ih (by omega) fun j hj=>h j (by omega)
  cases hd:L[n].dst with
  | none=>exact ih
  | some d =>
   show upd _ d _ t=upd _ d _ t
   unfold upd
   cases hb:Nat.beq t d with
   | false=>exact ih
   | true =>
    have htd:=Nat.eq_of_beq_eq_true hb
    have:=h n (by omega) (by rw [dstAt_eq,ho];simp [hd,htd])
    simp only [cond_true];exact this
theorem names_anc {k:Nat} (R:RegOk L k) {i:Nat} {o:Oper} (ho:L[i]?=some o) {t j:Nat} (ht:t∈names L o) (hj:j<i) (hd:dstAt L j=some t):((ancs L []).getD i 0).testBit j=true:=by
 have hil:=(List.getElem?_eq_some_iff.1 ho).1
 obtain ⟨o',ho'⟩:∃ o',L[j]?=some o':=⟨L[j],List.getElem?_eq_getElem (by omega)⟩
 have hd':o'.dst=some t:=by rw [dstAt_eq,ho'] at hd;exact hd
 rcases R.apart i o j o' ho ho' (by omega) (clash_of hd' ht) with ⟨_,hb⟩ | ⟨hlt,_⟩
 ·exact hb
 ·omega
theorem VMs_of {A:List Nat} {R:Nat→Value→World→Prop} {w0:World} {vals:Nat→Value} {K:Env→Prop}:∀ (j i:Nat),i+j≤L.length →
  (∀ x o,i≤x→x<i+j→L[x]?=some o→∀ w',Ext w0 w'→(∀ y,(A.getD x 0).testBit y=true→R y (vals y) w') →
   (wantedE L (envL L vals ρ x) o=true→yieldsR P (envL L vals ρ x) o w' fun u w''=>R x u w''∧Ext w' w'')∧(wantedE L (envL L vals ρ x) o=false→R x undef w')) →
  K (envL L vals ρ (i+j))→VMs P A L R w0 vals K j i (L.drop i) (envL L vals ρ i):=by
 intro j
 induction j with
 | zero=>intro i _ _ hK;exact hK
 | succ j ih =>
  intro i hij h hK
  have hi:i<L.length:=by omega
  have ho:L[i]?=some L[i]:=List.getElem?_eq_getElem hi
  rw [List.drop_eq_getElem_cons hi]
  refine ⟨h i L[i] (Nat.le_refl _) (by omega) ho,?_⟩
  rw [←envL_succ ho]
  exact ih (i+1) (by omega) (fun x o h1 h2=>h x o (by omega) (by omega)) (by rw [show i+1+j=i+(j+1) by omega];exact hK)
theorem yieldsR_mono {ρ:Env} {o:Oper} {w:World} {K K':Value→World→Prop} (h:yieldsR P ρ o w K) (hk:∀ u w',K u w'→K' u w'):yieldsR P ρ o w K':=by
 unfold yieldsR at h ⊢
 revert h
 generalize (execOp (tm ρ) o).run P w=r
 intro h
 cases r with
 | ok n w' =>
  cases n with
  | value u=>exact hk _ _ h
  | skip=>exact hk _ _ h
  | enter f args=>exact h.mono hk
  | _=>exact h
 | halt=>exact h
theorem yieldsR_of_to {ρ:Env} {o:Oper} {w:World} {v:Value} {K:World→Prop} (h:yieldsTo P ρ o w v K):yieldsR P ρ o w fun u w'=>u=v∧K w':=by
 unfold yieldsTo at h
 unfold yieldsR
 revert h
 generalize (execOp (tm ρ) o).run P w=r
 intro h
 cases r with
 | ok n w' =>
  cases n with
  | value u=>exact h
  | skip=>exact ⟨h.1.symm,h.2⟩
  | enter f args=>exact Calls.mono h fun e w'' ⟨u,he,h1,h2⟩=>⟨u,he,h1,h2⟩
  | _=>exact h
 | halt=>exact h
theorem yieldsR_same {ρ ρ':Env} {o:Oper} {w:World} {K:Value→World→Prop} (hs:execOp (tm ρ) o=execOp (tm ρ') o) (h:yieldsR P ρ o w K):yieldsR P ρ' o w K:=by
 unfold yieldsR at h ⊢
 rw [←hs];exact h
def SB1 {α:Type} (enc:α→List Value) (s e B:Nat) (x:α) (u:Value) (w:World):Prop:=∃ b,u=.slice (some ⟨b,0,none⟩) 1 1∧OwnT enc s e B w (some ⟨b,0,none⟩) 1 [x]
end
section
variable {P:Program} {N:Nat} {ρ:Env} {w:World} {t:TypeId}
theorem fretCT {fn:Func} {R:Value→World→Prop} {a u s:Nat} {ad:Addr} {cs:List Value} {v:Value} (hr:fn.results=#[.cell a t,.tmp u]) (ha:Nat.blt a N=true) (hu:Nat.blt u N=true) (hx:tm ρ (.tmp a)=.pointer (some ad)) (hv:tm ρ (.tmp u)=v) (hg:∀ w,(isAgg t).run P w=.ok true w) (hs:∀ w,(sizeOf t).run P w=.ok s w)
  (hsp:ad.spot=none) (hrow:RowAt w ad.block ad.off cs) (hl:cs.length=s) (h:R (.tuple #[.agg cs.toArray,v]) w):fpost P N fn R .ret ρ w:=by
 subst hl
 refine ⟨⟨.tuple #[.agg cs.toArray,v],?_,h⟩⟩
 have hx:ρ a=.pointer (some ad):=hx
 have hv:ρ u=v:=hv
 have e:=tmps_getD (ρ:=ρ) ha
 have e2:=tmps_getD (ρ:=ρ) hu
 rw [hx] at e
 rw [hv] at e2
 have hl:=loadVar_agg (P:=P) hg hs hsp hrow
 simp only [results,hr]
 simp at e e2
 simp [e,e2,asAddr,hl,Result.andThen_ok]
end
section
variable {P:Program} {ρ:Env} {w:World} {ty t ty2:TypeId} {x y:Operand} {e:TypeId}
theorem R.eqlNil {a:Option Addr} {n c:Nat} (hu:∀ w,(underlying t).run P w=.ok (.slice e) w) (hx:tm ρ x=.slice a n c) (hy:tm ρ y=.slice none 0 0):run1 P ρ (.binOp .eql t x y ty2) ty w=.ok (.value (.bool (decide (a=none)))) w:=by
 have hp:(eqGuard .eql t x y (.slice a n c) (.slice none 0 0)).run P w=.ok () w:=by
  simp [eqGuard,go_sem]
 have h:(Op.equal t (.slice a n c) (.slice none 0 0)).run P w=.ok (decide (a=none)) w:=by
  show (Op.equalIn (9999+1) t _ _).run P w=_
  unfold Op.equalIn
  cases a <;> simp [go_sem,hu]
 simp only [run1,execOp,hx,hy,Sem.run_bind,hp,Result.andThen_ok,binOp,h,Sem.run_pure]
end
abbrev Rel:=Value→World→Prop
def factS (Sl:List (Option Rel)) (us:Nat→Value) (x:Nat) (w:World):Prop:=match Sl[x]? with
 | some (some S)=>S (us x) w
 | _=>True
def relS (Sl:List (Option Rel)) (vl:List Value) (x:Nat) (u:Value) (w:World):Prop:=match Sl[x]? with
 | some (some S)=>S u w
 | _=>u=vl.getD x undef
def MonoS (w0:World) (S:Rel):Prop:=∀ u a b,Ext w0 a→S u a→Ext a b→S u b
def VSs (P:Program) (L:List Oper) (w0:World) (us:Nat→Value) (F:Nat→World→Prop):(j i:Nat)→List (Option Rel)→List Value→List Oper→Env→(Env→Prop)→Prop
 | 0,_,Sl,vl,_,ρ,K=>Sl=[]∧vl=[]∧K ρ
 | j+1,i,none :: Sl,v :: vl,o :: l,ρ,K =>
  (wantedE L ρ o=true→∀ w',Ext w0 w'→(∀ x,((ancs L []).getD i 0).testBit x=true→F x w')→yieldsTo P ρ o w' v (Ext w'))∧(wantedE L ρ o=false→v=undef) ∧
   VSs P L w0 us F j (i+1) Sl vl l (put ρ o.dst v) K
 | j+1,i,some S :: Sl,_ :: vl,o :: l,ρ,K =>
  MonoS w0 S∧wantedE L ρ o=true∧(∀ w',Ext w0 w'→(∀ x,((ancs L []).getD i 0).testBit x=true→F x w')→yieldsR P ρ o w' fun u w''=>S u w''∧Ext w' w'') ∧
   VSs P L w0 us F j (i+1) Sl vl l (put ρ o.dst (us i)) K
 | _,_,_,_,_,_,_=>False
structure VS (P:Program) (L:List Oper) (w0:World) (us:Nat→Value) (F:Nat→World→Prop) (j i:Nat) (Sl:List (Option Rel)) (vl:List Value) (l:List Oper) (ρ:Env) (K:Env→Prop):Prop where
 go:VSs P L w0 us F j i Sl vl l ρ K
section
variable {P:Program} {N:Nat} {L:List Oper} {Q:Exit→Env→World→Prop} {ρ:Env}
def valsS (Sl:List (Option Rel)) (vl:List Value) (us:Nat→Value) (x:Nat):Value:=match Sl[x]? with
 | some (some _)=>us x
 | _=>vl.getD x undef
theorem VSs_spec {w0:World} {us:Nat→Value} {F:Nat→World→Prop} {K:Env→Prop} {Sl0:List (Option Rel)} {vl0:List Value}:∀ (j i:Nat),i+j≤L.length→VSs P L w0 us F j i (Sl0.drop i) (vl0.drop i) (L.drop i) (envL L (valsS Sl0 vl0 us) ρ i) K →
  (∀ x o,i≤x→x<i+j→L[x]?=some o→∀ w',Ext w0 w'→(∀ y,((ancs L []).getD x 0).testBit y=true→F y w') →
   (wantedE L (envL L (valsS Sl0 vl0 us) ρ x) o=true→yieldsR P (envL L (valsS Sl0 vl0 us) ρ x) o w' fun u w''=>relS Sl0 vl0 x u w''∧Ext w' w'')∧(wantedE L (envL L (valsS Sl0 vl0 us) ρ x) o=false→relS Sl0 vl0 x undef w')) ∧
  (∀ x S,i≤x→x<i+j→Sl0[x]?=some (some S)→MonoS w0 S)∧K (envL L (valsS Sl0 vl0 us) ρ (i+j)):=by
 intro j
 induction j with
 | zero =>
  intro i _ h
  exact ⟨fun x o h1 h2=>by omega,fun x S h1 h2=>by omega,h.2.2⟩
 | succ j ih =>
  intro i hij h
  have hi:i<L.length:=by omega
  have ho:L[i]?=some L[i]:=List.getElem?_eq_getElem hi
  rw [List.drop_eq_getElem_cons hi] at h
  cases hS:Sl0.drop i with
  | nil=>rw [hS] at h;exact h.elim
  | cons s Sl =>
   cases hv:vl0.drop i with
   | nil=>rw [hS,hv] at h;cases s <;> exact h.elim
   | cons v vl =>
    rw [hS,hv] at h
    have hS1:Sl0.drop (i+1)=Sl:=by rw [←List.drop_drop,hS];rfl
    have hv1:vl0.drop (i+1)=vl:=by rw [←List.drop_drop,hv];rfl
    have hSi:Sl0[i]?=some s:=by
     have:=List.getElem?_drop (xs:=Sl0) (i:=i) (j:=0)
     rw [hS] at this;simpa using this.symm
    have hvi:vl0.getD i undef=v:=by
     have:=List.getElem?_drop (xs:=vl0) (i:=i) (j:=0)
     rw [hv] at this
     simp only [List.getElem?_cons_zero,Nat.add_zero] at this
     simp [List.getD,←this]
    cases s with
    | none =>
     have hval:valsS Sl0 vl0 us i=v:=by unfold valsS;rw [hSi];exact hvi
     obtain ⟨h1,h2,h3⟩:=h
     rw [←hval,←envL_succ ho,←hS1,←hv1] at h3
     obtain ⟨k1,k2,k3⟩:=ih (i+1) (by omega) h3
     refine ⟨fun x o hx1 hx2 hxo w' e hF=>?_,fun x S hx1 hx2 hx3=>?_,by rw [show i+(j+1)=i+1+j by omega];exact k3⟩
     ·by_cases hxi:x=i
      ·subst hxi
       rw [ho] at hxo
       injection hxo with hxo
       subst hxo
       have hr:∀ u w,u=v→relS Sl0 vl0 x u w:=fun u w hu=>by unfold relS;rw [hSi];exact hu.trans hvi.symm
       exact ⟨fun hw=>yieldsR_mono (yieldsR_of_to (h1 hw w' e hF)) fun u w'' hu=>⟨hr _ _ hu.1,hu.2⟩,fun hw=>hr _ _ (h2 hw).symm⟩
      ·exact k1 x o (by omega) (by omega) hxo w' e hF
     ·by_cases hxi:x=i
      ·subst hxi;rw [hSi] at hx3;cases hx3
      ·exact k2 x S (by omega) (by omega) hx3
    | some S =>
     have hval:valsS Sl0 vl0 us i=us i:=by unfold valsS;rw [hSi]
     obtain ⟨h0,h1,h2,h3⟩:=h
     rw [←hval,←envL_succ ho,←hS1,←hv1] at h3
     obtain ⟨k1,k2,k3⟩:=ih (i+1) (by omega) h3
     refine ⟨fun x o hx1 hx2 hxo w' e hF=>?_,fun x S' hx1 hx2 hx3=>?_,by rw [show i+(j+1)=i+1+j by omega];exact k3⟩
     ·by_cases hxi:x=i
      ·subst hxi
       rw [ho] at hxo
       injection hxo with hxo
       subst hxo
       refine ⟨fun hw=>yieldsR_mono (h2 w' e hF) fun u w'' hu=>⟨?_,hu.2⟩,fun hw=>by rw [h1] at hw;cases hw⟩
       unfold relS;rw [hSi];exact hu.1
      ·exact k1 x o (by omega) (by omega) hxo w' e hF
     ·by_cases hxi:x=i
      ·subst hxi;rw [hSi] at hx3;injection hx3 with hx3;injection hx3 with hx3;subst hx3;exact h0
      ·exact k2 x S' (by omega) (by omega) hx3
theorem V.regionS {id:Nat} {w:World} (hm:P.follows .mixedOrders=true) (k:Nat) (hr:regOk L k=true) (hk:Nat.ble k L.length=true) {Sl:List (Option Rel)} {vl:List Value}
  (h:∀ us,VS P L w us (factS Sl us) k 0 Sl vl L ρ fun ρ'=>∀ w',Ext w w'→(∀ x,factS Sl us x w')→VL P N L Q (L.drop k) ρ' w') (hl:Nat.ble Sl.length k=true) :
  V P N (.region id L.toArray true) Q ρ w:=by
 refine ⟨fun ok=>?_⟩
 have okL:okOps N L=true:=by simpa [okCode] using ok
 have RO:=regOk_spec hr
 have hkl:=Nat.le_of_ble_eq_true hk
 have sp:=fun us=>VSs_spec (P:=P) (L:=L) (ρ:=ρ) (Sl0:=Sl) (vl0:=vl) (us:=us) k 0 (by omega) (by rw [envL_zero];exact (h us).go)
 refine (V.regionM (Q:=Q) (ρ:=ρ) (id:=id) (w:=w) hm k hr hk (relS Sl vl) (fun i u w1 w2 h1 h2 h3=>?_) (N:=N) fun vals=>?_).go ok
 ·unfold relS at h2 ⊢
  cases hS:Sl[i]? with
  | none=>rw [hS] at h2;exact h2
  | some s =>
   cases s with
   | none=>rw [hS] at h2;exact h2
   | some S =>
    rw [hS] at h2
    have hik:i<k:=by have:=(List.getElem?_eq_some_iff.1 hS).1;have:=Nat.le_of_ble_eq_true hl;omega
    exact (sp (fun _=>undef)).2.1 i S (Nat.zero_le _) (by omega) hS u w1 w2 h1 h2 h3
 ·obtain ⟨s1,s2,s3⟩:=sp vals
  have hrel:∀ y w',relS Sl vl y (vals y) w'→vals y=valsS Sl vl vals y∧factS Sl vals y w':=fun y w' hy=>by
   unfold relS at hy
   unfold valsS factS
   split
   ·rename_i S hS
    rw [hS] at hy
    exact ⟨rfl,hy⟩
   ·rename_i hn
    refine ⟨?_,trivial⟩
    split at hy
    ·rename_i S hS;exact (hn S hS).elim
    ·exact hy
  have hVM:=VMs_of (P:=P) (A:=ancs L []) (L:=L) (ρ:=ρ) (R:=relS Sl vl) (w0:=w) (vals:=vals)
   (K:=fun ρ'=>∀ w',Ext w w'→(∀ j,j<k→relS Sl vl j (vals j) w')→VL P N L Q (L.drop k) ρ' w') k 0 (by omega) ?_ ?_
  ·rw [envL_zero] at hVM;exact hVM
  ·intro x ox hx0 hx hox w' e hanc
   have hxl:=(List.getElem?_eq_some_iff.1 hox).1
   have hsame:∀ t∈names L ox,envL L (valsS Sl vl vals) ρ x t=envL L vals ρ x t:=fun t ht=>by
    refine envL_vals x (by omega) fun j hj hd=>?_
    exact (hrel j w' (hanc j (names_anc RO hox ht hj hd))).1.symm
   have hokx:okOp N ox=true:=List.all_eq_true.1 okL ox (List.mem_of_getElem? hox)
   obtain ⟨o1,o2⟩:=s1 x ox hx0 hx hox w' e fun y hy=>(hrel y w' (hanc y hy)).2
   rw [←wanted_same hsame]
   exact ⟨fun hw=>yieldsR_same (tm_same hsame hokx) (o1 hw),o2⟩
  ·rw [Nat.zero_add] at s3 ⊢
   intro w' e hR
   have hE:envL L vals ρ k=envL L (valsS Sl vl vals) ρ k:=by
    funext t
    exact envL_vals k hkl fun j hj _=>(hrel j w' (hR j hj)).1
   rw [hE]
   refine s3 w' e fun x=>?_
   by_cases hx:x<k
   ·exact (hrel x w' (hR x hx)).2
   ·unfold factS
    have:Sl[x]?=none:=List.getElem?_eq_none (by have:=Nat.le_of_ble_eq_true hl;omega)
    rw [this];trivial
section
variable {w0:World} {us:Nat→Value} {F:Nat→World→Prop} {K:Env→Prop} {j i:Nat} {Sl:List (Option Rel)} {vl:List Value} {l:List Oper} {d:Nat} {q:Op} {ty:TypeId} {p:String} {af:Array Edge} {v:Value}
theorem VS.nil (h:K ρ):VS P L w0 us F 0 i [] [] l ρ K:=⟨rfl,rfl,h⟩
theorem VS.op (hr:∀ w,Ext w0 w→run1 P ρ q ty w=.ok (.value v) w) (h:VS P L w0 us F j (i+1) Sl vl l (upd ρ d v) K) :
  VS P L w0 us F (j+1) i (none :: Sl) (v :: vl) ({ dst:=some d,op:=q,type:=ty,pos:=p,after:=af,guard:=none } :: l) ρ K :=
 ⟨⟨fun _ w e _=>by unfold yieldsTo;rw [run1_eq,hr w e];exact ⟨rfl,Mod.refl _ _⟩,fun hw=>by simp [wantedE,Region.wanted] at hw,h.go⟩⟩
theorem VS.callX {f:FuncId} {l':List Operand} {vs:List Value} {ts:Array TypeId} (S:Rel) (mono:MonoS w0 S) (hc:IsFn P f) (ha:l'.map (tm ρ)=vs)
  (hf:∀ w,Ext w0 w→(∀ x,((ancs L []).getD i 0).testBit x=true→F x w)→Rets P f vs.toArray w fun u w'=>S u w'∧Ext w w')
  (h:VS P L w0 us F j (i+1) Sl vl l (upd ρ d (us i)) K) :
  VS P L w0 us F (j+1) i (some S :: Sl) (undef :: vl) ({ dst:=some d,op:=.call { callee:=.value (.func f),args:=l'.toArray,argTypes:=ts },type:=ty,pos:=p,after:=af,guard:=none } :: l) ρ K :=
 ⟨⟨mono,rfl,fun w e hF=>by unfold yieldsR;rw [run1_eq,R.call hc ha];exact hf w e hF,h.go⟩⟩
theorem VS.spec {o:Oper} (S:Rel) (mono:MonoS w0 S) (hw:wantedE L ρ o=true) (hf:∀ w,Ext w0 w→(∀ x,((ancs L []).getD i 0).testBit x=true→F x w)→yieldsR P ρ o w fun u w'=>S u w'∧Ext w w')
  (h:VS P L w0 us F j (i+1) Sl vl l (put ρ o.dst (us i)) K) :
  VS P L w0 us F (j+1) i (some S :: Sl) (undef :: vl) (o :: l) ρ K:=⟨⟨mono,hw,fun w e hF=>hf w e hF,h.go⟩⟩
end
end
end Go.Vc
/- Own library: regions of open order in which the blocks T may turn (printed by mkturn.py). -/
set_option linter.unusedSectionVars false
namespace Go.Vc
set_option maxRecDepth 100000
set_option maxHeartbeats 16000000
class Turn (T:World→World→Prop):Prop where
 refl:∀ a,T a a
 trans:∀ {a b c},T a b→T b c→T a c
 ext:∀ {a b},Ext a b→T a b
section
variable {T:World→World→Prop} [Turn T] {P:Program} {N:Nat} {L:List Oper} {Q:Exit→Env→World→Prop} {ρ:Env} {k:Nat}
def VMt (T:World→World→Prop) (P:Program) (A:List Nat) (L:List Oper) (R:Nat→Value→World→Prop) (w0:World) (vals:Nat→Value) (K:Env→Prop):(j i:Nat)→List Oper→Env→Prop
 | 0,_,_,ρ=>K ρ
 | _+1,_,[],_=>False
 | j+1,i,o :: l,ρ =>
  (∀ w',T w0 w'→(∀ x,(A.getD i 0).testBit x=true→R x (vals x) w') →
   (wantedE L ρ o=true→yieldsR P ρ o w' fun u w''=>R i u w''∧T w' w'')∧(wantedE L ρ o=false→R i undef w')) ∧
  VMt T P A L R w0 vals K j (i+1) l (put ρ o.dst (vals i))
theorem VMt_spec {A:List Nat} {R:Nat→Value→World→Prop} {w0:World} {vals:Nat→Value} {K:Env→Prop}:∀ (j i:Nat) (l:List Oper),l=L.drop i→VMt T P A L R w0 vals K j i l (envL L vals ρ i)→i+j≤L.length →
  (∀ x o,x<j→L[i+x]?=some o→∀ w',T w0 w'→(∀ y,(A.getD (i+x) 0).testBit y=true→R y (vals y) w') →
   (wantedE L (envL L vals ρ (i+x)) o=true→yieldsR P (envL L vals ρ (i+x)) o w' fun u w''=>R (i+x) u w''∧T w' w'')∧(wantedE L (envL L vals ρ (i+x)) o=false→R (i+x) undef w'))∧K (envL L vals ρ (i+j)):=by
 intro j
 induction j with
 | zero=>intro i l hl h hj;exact ⟨fun x o hx=>by omega,h⟩
 | succ j ih =>
  intro i l hl h hj
  have hi:i<L.length:=by omega
  rw [List.drop_eq_getElem_cons hi] at hl
  subst hl
  obtain ⟨h1,h2⟩:=h
  have ho:L[i]?=some L[i]:=List.getElem?_eq_getElem hi
  rw [←envL_succ ho] at h2
  obtain ⟨h3,h4⟩:=ih (i+1) _ rfl h2 (by omega)
  refine ⟨fun x o hx ho2=>?_,by rw [show i+(j+1)=i+1+j by omega];exact h4⟩
  cases x with
  | zero =>
   rw [Nat.add_zero] at ho2 ⊢
   rw [ho] at ho2
   injection ho2 with ho2
   subst ho2
   exact h1
  | succ x =>
   rw [show i+(x+1)=i+1+x by omega] at ho2 ⊢
   exact h3 x o (by omega) ho2
theorem V.regionMT {id:Nat} {w:World} (hm:P.follows .mixedOrders=true) (k:Nat) (hr:regOk L k=true) (hk:Nat.ble k L.length=true) (R:Nat→Value→World→Prop)
  (mono:∀ i u w1 w2,T w w1→R i u w1→T w1 w2→R i u w2)
  (h:∀ vals,VMt T P (ancs L []) L R w vals (fun ρ'=>∀ w',T w w'→(∀ j,j<k→R j (vals j) w')→VL P N L Q (L.drop k) ρ' w') k 0 L ρ) :
  V P N (.region id L.toArray true) Q ρ w:=by
 refine ⟨fun ok=>?_⟩
 have okL:okOps N L=true:=by simpa [okCode] using ok
 have RO:=regOk_spec hr
 have hkl:=Nat.le_of_ble_eq_true hk
 refine wp_region_any hm ?_
 have hv:=fun vals=>VMt_spec (P:=P) (ρ:=ρ) k 0 L rfl (by rw [envL_zero];exact h vals) (by omega)
 let C:(Nat→Bool)→(Nat→Value)→World→Prop:=fun D vals w'=>T w w'∧∀ j,j<k→D j=true→R j (vals j) w'
 have start:=wpAny_any2 (P:=P) (N:=N) (ρ:=ρ) (C:=C) (QQ:=lift N Q) RO okL hkl ?_ ?_ k L.toArray.size (Array.replicate L.toArray.size false) (fun _=>undef) { w with drawn:=w.drawn+1 } (by simp) ?_ ?_ ?_ (by simp;omega) ?_
 ·have e:lst (Array.replicate L.toArray.size false)=fun _=>false:=by
   funext j;unfold lst;simp [Array.getElem?_replicate];split <;> rfl
  rw [e,envD_none] at start
  exact start
 ·intro i o ho hik D vals hcl hDi hdeps hsuf w' hC
  obtain ⟨h1,_⟩:=hv vals
  have h1:=h1 i o hik (by rw [Nat.zero_add];exact ho) w' hC.1 fun y hy=>by
   rw [Nat.zero_add] at hy
   have hil:i<L.length:=(List.getElem?_eq_some_iff.1 ho).1
   have hyi:=anc_lt RO hil hy
   exact hC.2 y (by omega) (anc_done RO hcl ho hdeps hy)
  rw [Nat.zero_add] at h1
  have keep:∀ u w'',R i u w''→T w' w''→C (setD D i) (updV vals i u) w'':=fun u w'' hR he=>by
   refine ⟨Turn.trans hC.1 he,fun j hj hD=>?_⟩
   by_cases hji:j=i
   ·subst hji;rw [updV_self];exact hR
   ·rw [updV_ne _ _ hji]
    have:D j=true:=by simpa [setD,nbeq_ne hji] using hD
    exact mono j _ _ _ hC.1 (hC.2 j hj this) he
  refine ⟨fun hw=>?_,fun hw=>keep _ _ (h1.2 hw) (Turn.refl _)⟩
  have h2:=h1.1 hw
  unfold yieldsR at h2 ⊢
  revert h2
  generalize (execOp (tm (envL L vals ρ i)) o).run P w'=r
  intro h2
  cases r with
  | ok n w'' =>
   cases n with
   | value u=>exact keep _ _ h2.1 h2.2
   | skip=>exact keep _ _ h2.1 h2.2
   | enter f args=>exact h2.mono fun u w3 h3=>keep _ _ h3.1 h3.2
   | _=>exact h2
  | halt=>exact h2
 ·intro vals w' hC
  obtain ⟨_,h2⟩:=hv vals
  rw [Nat.zero_add] at h2
  have hvl:=h2 w' hC.1 fun j hj=>hC.2 j hj (nblt.2 hj)
  have hdrop:okOps N (L.drop k)=true:=by
   unfold okOps at *
   rw [List.all_eq_true] at *
   exact fun o ho=>okL o (List.mem_of_mem_drop ho)
  have:=wpList_mono (lift_mono fun _ _ _ h=>h.1) _ _ _ (hvl.go okL hdrop)
  rw [←wpOps_eq_wpList (L.drop k) k (by intro j;simp)] at this
  simpa using this
 ·intro i o _ hi
  unfold lst at hi
  simp [Array.getElem?_replicate] at hi
  split at hi <;> cases hi
 ·intro j _;unfold lst;simp [Array.getElem?_replicate];split <;> rfl
 ·have:((List.range k).filter fun j=>!lst (Array.replicate L.toArray.size false) j)=List.range k:=by
   rw [List.filter_eq_self]
   intro j _;unfold lst;simp [Array.getElem?_replicate];split <;> rfl
  rw [this,List.length_range]
 ·refine ⟨(Turn.ext (Ext.drawn _)),fun j _ hj=>?_⟩
  unfold lst at hj
  simp [Array.getElem?_replicate] at hj
  split at hj <;> cases hj
end
section
variable {T:World→World→Prop} [Turn T] {P:Program} {N:Nat} {L:List Oper} {Q:Exit→Env→World→Prop} {ρ:Env}
theorem VMt_of {A:List Nat} {R:Nat→Value→World→Prop} {w0:World} {vals:Nat→Value} {K:Env→Prop}:∀ (j i:Nat),i+j≤L.length →
  (∀ x o,i≤x→x<i+j→L[x]?=some o→∀ w',T w0 w'→(∀ y,(A.getD x 0).testBit y=true→R y (vals y) w') →
   (wantedE L (envL L vals ρ x) o=true→yieldsR P (envL L vals ρ x) o w' fun u w''=>R x u w''∧T w' w'')∧(wantedE L (envL L vals ρ x) o=false→R x undef w')) →
  K (envL L vals ρ (i+j))→VMt T P A L R w0 vals K j i (L.drop i) (envL L vals ρ i):=by
 intro j
 induction j with
 | zero=>intro i _ _ hK;exact hK
 | succ j ih =>
  intro i hij h hK
  have hi:i<L.length:=by omega
  have ho:L[i]?=some L[i]:=List.getElem?_eq_getElem hi
  rw [List.drop_eq_getElem_cons hi]
  refine ⟨h i L[i] (Nat.le_refl _) (by omega) ho,?_⟩
  rw [←envL_succ ho]
  exact ih (i+1) (by omega) (fun x o h1 h2=>h x o (by omega) (by omega)) (by rw [show i+1+j=i+(j+1) by omega];exact hK)
end
def MonoT (T:World→World→Prop) (w0:World) (S:Rel):Prop:=∀ u a b,T w0 a→S u a→T a b→S u b
def VTs (T:World→World→Prop) (P:Program) (L:List Oper) (w0:World) (us:Nat→Value) (F:Nat→World→Prop):(j i:Nat)→List (Option Rel)→List Value→List Oper→Env→(Env→Prop)→Prop
 | 0,_,Sl,vl,_,ρ,K=>Sl=[]∧vl=[]∧K ρ
 | j+1,i,none :: Sl,v :: vl,o :: l,ρ,K =>
  (wantedE L ρ o=true→∀ w',T w0 w'→(∀ x,((ancs L []).getD i 0).testBit x=true→F x w')→yieldsTo P ρ o w' v (T w'))∧(wantedE L ρ o=false→v=undef) ∧
   VTs T P L w0 us F j (i+1) Sl vl l (put ρ o.dst v) K
 | j+1,i,some S :: Sl,_ :: vl,o :: l,ρ,K =>
  MonoT T w0 S∧wantedE L ρ o=true∧(∀ w',T w0 w'→(∀ x,((ancs L []).getD i 0).testBit x=true→F x w')→yieldsR P ρ o w' fun u w''=>S u w''∧T w' w'') ∧
   VTs T P L w0 us F j (i+1) Sl vl l (put ρ o.dst (us i)) K
 | _,_,_,_,_,_,_=>False
structure VT (T:World→World→Prop) (P:Program) (L:List Oper) (w0:World) (us:Nat→Value) (F:Nat→World→Prop) (j i:Nat) (Sl:List (Option Rel)) (vl:List Value) (l:List Oper) (ρ:Env) (K:Env→Prop):Prop where
 go:VTs T P L w0 us F j i Sl vl l ρ K
section
variable {T:World→World→Prop} [Turn T] {P:Program} {N:Nat} {L:List Oper} {Q:Exit→Env→World→Prop} {ρ:Env}
theorem VTs_spec {w0:World} {us:Nat→Value} {F:Nat→World→Prop} {K:Env→Prop} {Sl0:List (Option Rel)} {vl0:List Value}:∀ (j i:Nat),i+j≤L.length→VTs T P L w0 us F j i (Sl0.drop i) (vl0.drop i) (L.drop i) (envL L (valsS Sl0 vl0 us) ρ i) K →
  (∀ x o,i≤x→x<i+j→L[x]?=some o→∀ w',T w0 w'→(∀ y,((ancs L []).getD x 0).testBit y=true→F y w') →
   (wantedE L (envL L (valsS Sl0 vl0 us) ρ x) o=true→yieldsR P (envL L (valsS Sl0 vl0 us) ρ x) o w' fun u w''=>relS Sl0 vl0 x u w''∧T w' w'')∧(wantedE L (envL L (valsS Sl0 vl0 us) ρ x) o=false→relS Sl0 vl0 x undef w')) ∧
  (∀ x S,i≤x→x<i+j→Sl0[x]?=some (some S)→MonoT T w0 S)∧K (envL L (valsS Sl0 vl0 us) ρ (i+j)):=by
 intro j
 induction j with
 | zero =>
  intro i _ h
  exact ⟨fun x o h1 h2=>by omega,fun x S h1 h2=>by omega,h.2.2⟩
 | succ j ih =>
  intro i hij h
  have hi:i<L.length:=by omega
  have ho:L[i]?=some L[i]:=List.getElem?_eq_getElem hi
  rw [List.drop_eq_getElem_cons hi] at h
  cases hS:Sl0.drop i with
  | nil=>rw [hS] at h;exact h.elim
  | cons s Sl =>
   cases hv:vl0.drop i with
   | nil=>rw [hS,hv] at h;cases s <;> exact h.elim
   | cons v vl =>
    rw [hS,hv] at h
    have hS1:Sl0.drop (i+1)=Sl:=by rw [←List.drop_drop,hS];rfl
    have hv1:vl0.drop (i+1)=vl:=by rw [←List.drop_drop,hv];rfl
    have hSi:Sl0[i]?=some s:=by
     have:=List.getElem?_drop (xs:=Sl0) (i:=i) (j:=0)
     rw [hS] at this;simpa using this.symm
    have hvi:vl0.getD i undef=v:=by
     have:=List.getElem?_drop (xs:=vl0) (i:=i) (j:=0)
     rw [hv] at this
     simp only [List.getElem?_cons_zero,Nat.add_zero] at this
     simp [List.getD,←this]
    cases s with
    | none =>
     have hval:valsS Sl0 vl0 us i=v:=by unfold valsS;rw [hSi];exact hvi
     obtain ⟨h1,h2,h3⟩:=h
     rw [←hval,←envL_succ ho,←hS1,←hv1] at h3
     obtain ⟨k1,k2,k3⟩:=ih (i+1) (by omega) h3
     refine ⟨fun x o hx1 hx2 hxo w' e hF=>?_,fun x S hx1 hx2 hx3=>?_,by rw [show i+(j+1)=i+1+j by omega];exact k3⟩
     ·by_cases hxi:x=i
      ·subst hxi
       rw [ho] at hxo
       injection hxo with hxo
       subst hxo
       have hr:∀ u w,u=v→relS Sl0 vl0 x u w:=fun u w hu=>by unfold relS;rw [hSi];exact hu.trans hvi.symm
       exact ⟨fun hw=>yieldsR_mono (yieldsR_of_to (h1 hw w' e hF)) fun u w'' hu=>⟨hr _ _ hu.1,hu.2⟩,fun hw=>hr _ _ (h2 hw).symm⟩
      ·exact k1 x o (by omega) (by omega) hxo w' e hF
     ·by_cases hxi:x=i
      ·subst hxi;rw [hSi] at hx3;cases hx3
      ·exact k2 x S (by omega) (by omega) hx3
    | some S =>
     have hval:valsS Sl0 vl0 us i=us i:=by unfold valsS;rw [hSi]
     obtain ⟨h0,h1,h2,h3⟩:=h
     rw [←hval,←envL_succ ho,←hS1,←hv1] at h3
     obtain ⟨k1,k2,k3⟩:=ih (i+1) (by omega) h3
     refine ⟨fun x o hx1 hx2 hxo w' e hF=>?_,fun x S' hx1 hx2 hx3=>?_,by rw [show i+(j+1)=i+1+j by omega];exact k3⟩
     ·by_cases hxi:x=i
      ·subst hxi
       rw [ho] at hxo
       injection hxo with hxo
       subst hxo
       refine ⟨fun hw=>yieldsR_mono (h2 w' e hF) fun u w'' hu=>⟨?_,hu.2⟩,fun hw=>by rw [h1] at hw;cases hw⟩
       unfold relS;rw [hSi];exact hu.1
      ·exact k1 x o (by omega) (by omega) hxo w' e hF
     ·by_cases hxi:x=i
      ·subst hxi;rw [hSi] at hx3;injection hx3 with hx3;injection hx3 with hx3;subst hx3;exact h0
      ·exact k2 x S' (by omega) (by omega) hx3
theorem V.regionT {id:Nat} {w:World} (hm:P.follows .mixedOrders=true) (k:Nat) (hr:regOk L k=true) (hk:Nat.ble k L.length=true) {Sl:List (Option Rel)} {vl:List Value}
  (h:∀ us,VT T P L w us (factS Sl us) k 0 Sl vl L ρ fun ρ'=>∀ w',T w w'→(∀ x,factS Sl us x w')→VL P N L Q (L.drop k) ρ' w') (hl:Nat.ble Sl.length k=true) :
  V P N (.region id L.toArray true) Q ρ w:=by
 refine ⟨fun ok=>?_⟩
 have okL:okOps N L=true:=by simpa [okCode] using ok
 have RO:=regOk_spec hr
 have hkl:=Nat.le_of_ble_eq_true hk
 have sp:=fun us=>VTs_spec (P:=P) (L:=L) (ρ:=ρ) (Sl0:=Sl) (vl0:=vl) (us:=us) k 0 (by omega) (by rw [envL_zero];exact (h us).go)
 refine (V.regionMT (T:=T) (Q:=Q) (ρ:=ρ) (id:=id) (w:=w) hm k hr hk (relS Sl vl) (fun i u w1 w2 h1 h2 h3=>?_) (N:=N) fun vals=>?_).go ok
 ·unfold relS at h2 ⊢
  cases hS:Sl[i]? with
  | none=>rw [hS] at h2;exact h2
  | some s =>
   cases s with
   | none=>rw [hS] at h2;exact h2
   | some S =>
    rw [hS] at h2
    have hik:i<k:=by have:=(List.getElem?_eq_some_iff.1 hS).1;have:=Nat.le_of_ble_eq_true hl;omega
    exact (sp (fun _=>undef)).2.1 i S (Nat.zero_le _) (by omega) hS u w1 w2 h1 h2 h3
 ·obtain ⟨s1,s2,s3⟩:=sp vals
  have hrel:∀ y w',relS Sl vl y (vals y) w'→vals y=valsS Sl vl vals y∧factS Sl vals y w':=fun y w' hy=>by
   unfold relS at hy
   unfold valsS factS
   split
   ·rename_i S hS
    rw [hS] at hy
    exact ⟨rfl,hy⟩
   ·rename_i hn
    refine ⟨?_,trivial⟩
    split at hy
    ·rename_i S hS;exact (hn S hS).elim
    ·exact hy
  have hVM:=VMt_of (T:=T) (P:=P) (A:=ancs L []) (L:=L) (ρ:=ρ) (R:=relS Sl vl) (w0:=w) (vals:=vals)
   (K:=fun ρ'=>∀ w',T w w'→(∀ j,j<k→relS Sl vl j (vals j) w')→VL P N L Q (L.drop k) ρ' w') k 0 (by omega) ?_ ?_
  ·rw [envL_zero] at hVM;exact hVM
  ·intro x ox hx0 hx hox w' e hanc
   have hxl:=(List.getElem?_eq_some_iff.1 hox).1
   have hsame:∀ t∈names L ox,envL L (valsS Sl vl vals) ρ x t=envL L vals ρ x t:=fun t ht=>by
    refine envL_vals x (by omega) fun j hj hd=>?_
    exact (hrel j w' (hanc j (names_anc RO hox ht hj hd))).1.symm
   have hokx:okOp N ox=true:=List.all_eq_true.1 okL ox (List.mem_of_getElem? hox)
   obtain ⟨o1,o2⟩:=s1 x ox hx0 hx hox w' e fun y hy=>(hrel y w' (hanc y hy)).2
   rw [←wanted_same hsame]
   exact ⟨fun hw=>yieldsR_same (tm_same hsame hokx) (o1 hw),o2⟩
  ·rw [Nat.zero_add] at s3 ⊢
   intro w' e hR
   have hE:envL L vals ρ k=envL L (valsS Sl vl vals) ρ k:=by
    funext t
    exact envL_vals k hkl fun j hj _=>(hrel j w' (hR j hj)).1
   rw [hE]
   refine s3 w' e fun x=>?_
   by_cases hx:x<k
   ·exact (hrel x w' (hR x hx)).2
   ·unfold factS
    have:Sl[x]?=none:=List.getElem?_eq_none (by have:=Nat.le_of_ble_eq_true hl;omega)
    rw [this];trivial
section
variable {T:World→World→Prop} [Turn T] {w0:World} {us:Nat→Value} {F:Nat→World→Prop} {K:Env→Prop} {j i:Nat} {Sl:List (Option Rel)} {vl:List Value} {l:List Oper} {d:Nat} {q:Op} {ty:TypeId} {p:String} {af:Array Edge} {v:Value}
theorem VT.nil (h:K ρ):VT T P L w0 us F 0 i [] [] l ρ K:=⟨rfl,rfl,h⟩
theorem VT.op (hr:∀ w,T w0 w→run1 P ρ q ty w=.ok (.value v) w) (h:VT T P L w0 us F j (i+1) Sl vl l (upd ρ d v) K) :
  VT T P L w0 us F (j+1) i (none :: Sl) (v :: vl) ({ dst:=some d,op:=q,type:=ty,pos:=p,after:=af,guard:=none } :: l) ρ K :=
 ⟨⟨fun _ w e _=>by unfold yieldsTo;rw [run1_eq,hr w e];exact ⟨rfl,Turn.refl _⟩,fun hw=>by simp [wantedE,Region.wanted] at hw,h.go⟩⟩
theorem VT.callP {f:FuncId} {l':List Operand} {vs:List Value} {ts:Array TypeId} (hc:IsFn P f) (ha:l'.map (tm ρ)=vs) (hf:∀ w,T w0 w→RetsP P f vs.toArray w v)
  (h:VT T P L w0 us F j (i+1) Sl vl l (upd ρ d v) K) :
  VT T P L w0 us F (j+1) i (none :: Sl) (v :: vl) ({ dst:=some d,op:=.call { callee:=.value (.func f),args:=l'.toArray,argTypes:=ts },type:=ty,pos:=p,after:=af,guard:=none } :: l) ρ K :=
 ⟨⟨fun _ w e _=>by unfold yieldsTo;rw [run1_eq,R.call hc ha];exact Rets.mono (hf w e) fun u w' h=>⟨h.1,Turn.ext h.2⟩,fun hw=>by simp [wantedE,Region.wanted] at hw,h.go⟩⟩
theorem VT.callX {f:FuncId} {l':List Operand} {vs:List Value} {ts:Array TypeId} (S:Rel) (mono:MonoT T w0 S) (hc:IsFn P f) (ha:l'.map (tm ρ)=vs)
  (hf:∀ w,T w0 w→(∀ x,((ancs L []).getD i 0).testBit x=true→F x w)→Rets P f vs.toArray w fun u w'=>S u w'∧Ext w w')
  (h:VT T P L w0 us F j (i+1) Sl vl l (upd ρ d (us i)) K) :
  VT T P L w0 us F (j+1) i (some S :: Sl) (undef :: vl) ({ dst:=some d,op:=.call { callee:=.value (.func f),args:=l'.toArray,argTypes:=ts },type:=ty,pos:=p,after:=af,guard:=none } :: l) ρ K :=
 ⟨⟨mono,rfl,fun w e hF=>by unfold yieldsR;rw [run1_eq,R.call hc ha];exact Rets.mono (hf w e hF) fun u w' h=>⟨h.1,Turn.ext h.2⟩,h.go⟩⟩
theorem VT.spec {o:Oper} (S:Rel) (mono:MonoT T w0 S) (hw:wantedE L ρ o=true) (hf:∀ w,T w0 w→(∀ x,((ancs L []).getD i 0).testBit x=true→F x w)→yieldsR P ρ o w fun u w'=>S u w'∧T w w')
  (h:VT T P L w0 us F j (i+1) Sl vl l (put ρ o.dst (us i)) K) :
  VT T P L w0 us F (j+1) i (some S :: Sl) (undef :: vl) (o :: l) ρ K:=⟨⟨mono,hw,fun w e hF=>hf w e hF,h.go⟩⟩
end
end
structure Wr (b:Nat) (o:Obj) (w w':World):Prop where
 m:Mod (one b) w w'
 k:Blk w b o→Blk w' b o
 s:∀ T n,(∃ c,Blk w b (.cells c T (0,0))∧c.size=n)→∃ c,Blk w' b (.cells c T (0,0))∧c.size=n
instance (b:Nat) (o:Obj):Turn (Wr b o) where
 refl _a:=⟨Mod.refl _ _,fun h=>h,fun _ _ h=>h⟩
 trans h k:=⟨h.m.trans k.m,fun x=>k.k (h.k x),fun T n x=>k.s T n (h.s T n x)⟩
 ext e:=⟨e.mod,fun h=>h.ext e,fun _ _ ⟨c,h,hn⟩=>⟨c,h.ext e,hn⟩⟩
theorem yieldsR_store {P:Program} {ρ:Env} {w:World} {t ty:TypeId} {p:String} {af:Array Edge} {x y:Operand} {ad:Addr} {v:Value} {c:Array Value} {T:TypeId} {s:Nat} (hsz:∀ w,(sizeOf t).run P w=.ok s w) (hl:v.cells.size=s) (hx:tm ρ x=.pointer (some ad)) (hsp:ad.spot=none) (hy:tm ρ y=v)
  (hB:Blk w ad.block (.cells c T (0,0))) (hfit:Nat.ble (ad.off+v.cells.size) c.size=true) (h1:allOne v.cells.toList=true) {K:Value→World→Prop}
  (h:∀ w',Mod (one ad.block) w w'→w'.heap.size=w.heap.size→Blk w' ad.block (.cells (putCells c ad.off v.cells.toList) T (0,0))→K undef w') :
  yieldsR P ρ { dst:=none,op:=.store t x y,type:=ty,pos:=p,after:=af,guard:=none } w K:=by
 subst hl
 obtain ⟨b,off,sp⟩:=ad
 cases hsp
 have:=storeVar_run (P:=P) (t:=t) hsz hB (Nat.le_of_ble_eq_true hfit) ((allOne_iff _).1 h1)
 have e:run1 P ρ (.store t x y) ty w=.ok .skip (w.setRow b (putCells c off v.cells.toList)):=by
  simp only [run1,execOp,hx,hy,Instr.storeAt,Instr.sureAddr,Sem.run_bind,Sem.run_pure,Result.andThen_ok,this]
 unfold yieldsR
 rw [run1_eq,e]
 exact h _ (setRow_mod _ _ _) (by simp [World.setRow]) (setRow_heap w b c _ T _ hB)
theorem R.lit {P:Program} {ρ:Env} {q:Op} {ty:TypeId} {w:World} {b c:Bool} (h:run1 P ρ q ty w=.ok (.value (.bool b)) w) (hb:b=c):run1 P ρ q ty w=.ok (.value (.bool c)) w:=by rw [h,hb]
theorem yieldsR_make {P:Program} {ρ:Env} {w:World} {d:Nat} {ty t:TypeId} {p:String} {af:Array Edge} {x y:Operand} {α:Type} {enc:α→List Value} {e s bytes:Nat} {z:Value} (E:ElT P t e s bytes z) (u0:α) (hz:z.cells.toList=enc u0) {n:Nat} {B:Nat} (hx:tm ρ x=.int .i64 n) (hy:tm ρ y=.int .i64 n) (hbytes:bytes*n≤281474976710656) (h63:n≤maxLen) (hB:B≤w.heap.size)
  {K:Value→World→Prop} (h:∀ b w',b=w.heap.size→Ext w w'→OwnT enc s e B w' (some ⟨b,0,none⟩) n (List.replicate n u0)→K (.slice (some ⟨b,0,none⟩) n n) w') :
  yieldsR P ρ { dst:=some d,op:=.makeSlice t x y,type:=ty,pos:=p,after:=af,guard:=none } w K:=by
 obtain ⟨i,hi,hzz,hsz,hby⟩:=E.hi
 subst hsz;subst hby
 have hr:=run_make (P:=P) w t e i z E.ht hi hzz .i64 .i64 (n:Int) (n:Int) (by omega) (by omega) (by
  have h1:((i.bytes*n:Nat):Int)≤281474976710656:=by omega
  rwa [Int.natCast_mul] at h1) (by simp [maxLen] at h63;omega)
 simp only [Int.toNat_natCast] at hr
 have e1:run1 P ρ (.makeSlice t x y) ty w=.ok (.value (.slice (some ⟨w.heap.size,0,none⟩) n n)) (w.alloc (.cells (madeCells z.cells (n*i.size)) e)):=by
  simp only [run1,execOp,hx,hy,Sem.run_bind,hr,Result.andThen_ok,Sem.run_pure]
 unfold yieldsR
 rw [run1_eq,e1]
 refine h _ _ rfl (Ext.alloc _ _) ?_
 have hm:madeCells z.cells (n*i.size)=(zrep z.cells.toList n).toArray:=by
  have h2:=zero_cells z.cells (by rw [E.hz];exact E.hs) n
  rw [←h2,E.hz]
  unfold madeCells
  simp [E.hz]
 have:=OwnT.of_blk (enc:=enc) (s:=i.size) (B:=B) (l:=List.replicate n u0) (Blk.alloc w (.cells (madeCells z.cells (n*i.size)) e)) hB (by rw [hm,zrep_eq];simp [hz]) (fun r hr=>by
  obtain ⟨v,hv,rfl⟩:=List.mem_map.1 hr
  rw [List.eq_of_mem_replicate hv,←hz]
  simpa using E.hz) (by simpa using h63)
 simpa using this
end Go.Vc
