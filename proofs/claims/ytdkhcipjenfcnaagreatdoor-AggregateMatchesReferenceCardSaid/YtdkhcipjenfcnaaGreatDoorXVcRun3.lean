/- Own library: a walk over the operations of a function with the frame as a function of the slot numbers. Rules for code, for lists of operations, and for regions whose order is open. -/
import Derived.WalkKit
import Derived.Orders
import Derived.Laws.AppendOwnNone
namespace Go.Vc
set_option maxRecDepth 100000
set_option maxHeartbeats 16000000
abbrev Env:=Nat→Value
def upd (ρ:Env) (d:Nat) (v:Value):Env:=fun t=>bif Nat.beq t d then v else ρ t
def tm (ρ:Env):Operand→Value
 | .tmp t=>ρ t
 | .const v=>v
 | .global g=>.pointer (some ⟨g,0,none⟩)
 | .func f=>.func (.func f) #[] #[]
def act (N:Nat) (ρ:Env):Act:={ tmps:=Array.ofFn (fun i:Fin N=>ρ i.val),defers:=[] }
def put (ρ:Env):Option Tmp→Value→Env
 | some d,v=>upd ρ d v
 | none,_=>ρ
def setL:List Nat→List Value→Env→Env
 | l :: L,v :: V,ρ=>upd (setL L V ρ) l v
 | _,_,ρ=>ρ
def env0 (l:List Value):Env:=fun t=>l.getD t undef
theorem nbeq_ne {a b:Nat} (h:a≠b):Nat.beq a b=false:=by
 cases h':Nat.beq a b with
 | false=>rfl
 | true=>exact absurd (Nat.eq_of_beq_eq_true h') h
theorem upd_self (ρ:Env) (d:Nat):upd ρ d (ρ d)=ρ:=by
 funext t
 unfold upd
 by_cases h:t=d
 ·subst h;simp
 ·have:Nat.beq t d=false:=nbeq_ne h
  rw [this];rfl
theorem upd_eq {ρ:Env} {d:Nat} {v:Value} (h:ρ d=v):upd ρ d v=ρ:=by subst h;exact upd_self ρ d
theorem setL_self (L:List Nat) (V:List Value) (ρ:Env) (h:L.map ρ=V):setL L V ρ=ρ:=by
 induction L generalizing V with
 | nil=>cases V <;> rfl
 | cons l L ih =>
  cases V with
  | nil=>rfl
  | cons v V =>
   simp only [List.map_cons,List.cons.injEq] at h
   simp only [setL]
   rw [ih V h.2]
   exact upd_eq h.1
theorem act_put (N:Nat) (ρ:Env) (d:Option Tmp) (v:Value):(act N ρ).put d v=act N (put ρ d v):=by
 cases d with
 | none=>rfl
 | some d =>
  show (⟨(Array.ofFn (fun i:Fin N=>ρ i.val)).setIfInBounds d v,[]⟩:Act)=⟨Array.ofFn (fun i:Fin N=>upd ρ d v i.val),[]⟩
  congr 1
  refine Array.ext (by simp) fun i h1 h2=>?_
  have hi:i<N:=by simpa using h2
  rw [Array.getElem_setIfInBounds (by simpa using h1)]
  simp only [Array.getElem_ofFn]
  unfold upd
  by_cases h:i=d
  ·subst h;simp
  ·have hb:Nat.beq i d=false:=nbeq_ne h
   have h':¬d=i:=fun e=>h e.symm
   rw [if_neg h',hb];rfl
def okX (N:Nat):Operand→Bool
 | .tmp t=>Nat.blt t N
 | _=>true
def okDst (N:Nat) (o:Oper):Bool:=match o.dst with | some d=>Nat.blt d N | none=>true
def okOp (N:Nat) (o:Oper):Bool:=o.op.operands.all (okX N)&&okDst N o&&(match o.op with | .select ..=>false | _=>true)
def okOps (N:Nat) (l:List Oper):Bool:=l.all (okOp N)
def okCode (N:Nat):Code→Bool
 | .region _ ops _=>okOps N ops.toList
 | .seq a b=>okCode N a&&okCode N b
 | .cond c a b=>okX N c&&okCode N a&&okCode N b
 | .block _ b=>okCode N b
 | .loop b=>okCode N b
 | .scope b=>okCode N b
 | .rangeFunc f ps a b=>okX N f&&ps.all (fun t=>Nat.blt t N)&&okCode N a&&okCode N b
 | _=>true
theorem eval_act {N:Nat} {ρ:Env} {x:Operand} (h:okX N x=true):(act N ρ).eval x=tm ρ x:=by
 cases x with
 | tmp t =>
  have ht:t<N:=by simpa [okX,Nat.blt_eq] using h
  simp [Act.eval,act,tm,ht]
 | const v=>rfl
 | global g=>rfl
 | func f=>rfl
theorem exec_act {N:Nat} {ρ:Env} {o:Oper} (h:okOp N o=true):execOp (act N ρ).eval o=execOp (tm ρ) o:=by
 simp only [okOp,Bool.and_eq_true] at h
 refine execOp_congr o ?_ ?_
 ·intro cs b he
  have:=h.2
  rw [he] at this
  cases this
 ·intro x hx
  have h1:=h.1.1
  rw [Array.all_eq_true_iff_forall_mem] at h1
  exact eval_act (h1 x hx)
def dstAt:List Oper→Nat→Option Nat
 | [],_=>none
 | o :: _,0=>o.dst
 | _ :: l,n+1=>dstAt l n
theorem dstAt_eq (l:List Oper) (j:Nat):dstAt l j=(l[j]?).bind (·.dst):=by
 induction l generalizing j with
 | nil=>simp [dstAt]
 | cons o l ih=>cases j <;> simp [dstAt,ih]
theorem yielded_act {N:Nat} {ρ:Env} {L:List Oper} (hL:okOps N L=true) {j d:Nat} (hd:dstAt L j=some d) {b:Bool} (hb:ρ d=.bool b) :
  yielded L.toArray (act N ρ).tmps j=some b:=by
 rw [dstAt_eq] at hd
 unfold yielded
 have h1:(L.toArray[j]?).bind (·.dst)=some d:=by simpa using hd
 rw [h1]
 obtain ⟨o,ho,hod⟩:=Option.bind_eq_some_iff.1 hd
 have hm:o∈L:=List.mem_of_getElem? ho
 have:=List.all_eq_true.1 hL o hm
 simp only [okOp,okDst,hod,Bool.and_eq_true,Nat.blt_eq] at this
 have hdN:=this.1.2
 have:(act N ρ).tmps[d]?=some (ρ d):=by simp [act,hdN]
 simp only [Option.bind_some]
 rw [this,hb]
theorem yielded_undef {N:Nat} {ρ:Env} {L:List Oper} {j d:Nat} (hd:dstAt L j=some d) (hb:ρ d=undef) :
  yielded L.toArray (act N ρ).tmps j=none:=by
 rw [dstAt_eq] at hd
 unfold yielded
 have h1:(L.toArray[j]?).bind (·.dst)=some d:=by simpa using hd
 rw [h1]
 simp only [Option.bind_some]
 by_cases hN:d<N
 ·have:(act N ρ).tmps[d]?=some (ρ d):=by simp [act,hN]
  rw [this,hb];rfl
 ·have:(act N ρ).tmps[d]?=none:=by simp [act];omega
  rw [this]
def elemN (t:Nat):List Nat→Bool
 | []=>false
 | a :: l=>bif Nat.beq t a then true else elemN t l
def scr (W:List Nat) (ρg ρ:Env):Env:=fun t=>bif elemN t W then ρg t else ρ t
def dstsIn (W:List Nat) (l:List Oper):Bool:=l.all fun o=>match o.dst with | some d=>elemN d W | none=>true
def Agree (l:List Oper) (ρ ρ':Env):Prop:=∀ t,(∀ o∈l,o.dst≠some t)→ρ' t=ρ t
theorem Agree.refl (l:List Oper) (ρ:Env):Agree l ρ ρ:=fun _ _=>rfl
theorem Agree.cons {o:Oper} {l:List Oper} {ρ ρ':Env} {v:Value} (h:Agree l (put ρ o.dst v) ρ'):Agree (o :: l) ρ ρ':=by
 intro t ht
 rw [h t fun o' ho'=>ht o' (by simp [ho'])]
 cases hd:o.dst with
 | none=>rfl
 | some d =>
  show upd ρ d v t=ρ t
  have hne:t≠d:=by rintro rfl;exact ht o (by simp) hd
  unfold upd;rw [nbeq_ne hne];rfl
theorem Agree.scr {W:List Nat} {l:List Oper} {ρ ρ':Env} (h:Agree l ρ ρ') (hW:dstsIn W l=true):ρ'=scr W ρ' ρ:=by
 funext t
 unfold Go.Vc.scr
 cases ht:elemN t W with
 | true=>rfl
 | false =>
  refine h t fun o ho hd=>?_
  have:=List.all_eq_true.1 hW o ho
  rw [hd] at this
  simp only at this
  rw [ht] at this;cases this
def lift (N:Nat) (Q:Exit→Env→World→Prop):Exit→Act→World→Prop:=fun e a w=>∃ ρ,a=act N ρ∧Q e ρ w
structure V (P:Program) (N:Nat) (c:Code) (Q:Exit→Env→World→Prop) (ρ:Env) (w:World):Prop where
 go:okCode N c=true→c.wp P (lift N Q) (act N ρ) w
structure VL (P:Program) (N:Nat) (L:List Oper) (Q:Exit→Env→World→Prop) (l:List Oper) (ρ:Env) (w:World):Prop where
 go:okOps N L=true→okOps N l=true→wpList P L.toArray (lift N fun e ρ' w'=>Q e ρ' w'∧Agree l ρ ρ') l (act N ρ) w
def thn (K:Env→World→Prop) (Q:Exit→Env→World→Prop):Exit→Env→World→Prop
 | .normal,ρ,w=>K ρ w
 | e,ρ,w=>Q e ρ w
def blk (id:Nat) (Q:Exit→Env→World→Prop):Exit→Env→World→Prop
 | .exit id',ρ,w=>bif Nat.beq id' id then Q .normal ρ w else Q (.exit id') ρ w
 | e,ρ,w=>Q e ρ w
section code
variable {P:Program} {N:Nat} {Q:Exit→Env→World→Prop} {ρ:Env} {w:World}
theorem V.mono {c:Code} {Q':Exit→Env→World→Prop} (h:V P N c Q ρ w) (hq:∀ e ρ w,Q e ρ w→Q' e ρ w):V P N c Q' ρ w :=
 ⟨fun ok=>wp_mono (h.go ok) fun _ _ _ ⟨ρ',ha,hQ⟩=>⟨ρ',ha,hq _ _ _ hQ⟩⟩
theorem V.seq {x y:Code} (h:V P N x (thn (V P N y Q) Q) ρ w):V P N (.seq x y) Q ρ w:=by
 refine ⟨fun ok=>?_⟩
 simp only [okCode,Bool.and_eq_true] at ok
 refine wp_seq (wp_mono (h.go ok.1) ?_)
 rintro e a w' ⟨ρ',rfl,hQ⟩
 cases e with
 | normal=>exact hQ.go ok.2
 | _=>exact ⟨ρ',rfl,hQ⟩
theorem V.skip (h:Q .normal ρ w):V P N .skip Q ρ w:=⟨fun _=>wp_skip ⟨ρ,rfl,h⟩⟩
theorem V.label {l:Nat} (h:Q .normal ρ w):V P N (.label l) Q ρ w:=⟨fun _=>wp_label ⟨ρ,rfl,h⟩⟩
theorem V.exit {id:Nat} (h:Q (.exit id) ρ w):V P N (.exit id) Q ρ w:=⟨fun _=>wp_exit ⟨ρ,rfl,h⟩⟩
theorem V.ret (h:Q .ret ρ w):V P N .ret Q ρ w:=⟨fun _=>wp_ret ⟨ρ,rfl,h⟩⟩
theorem V.block {id:Nat} {c:Code} (h:V P N c (blk id Q) ρ w):V P N (.block id c) Q ρ w:=by
 refine ⟨fun ok=>?_⟩
 simp only [okCode] at ok
 refine wp_block (wp_mono (h.go ok) ?_)
 rintro e a w' ⟨ρ',rfl,hQ⟩
 cases e with
 | exit id' =>
  simp only [Exit.inBlock]
  by_cases hid:id'=id
  ·subst hid
   simp only [blk,Nat.beq_refl,cond_true] at hQ
   rw [if_pos rfl];exact ⟨ρ',rfl,hQ⟩
  ·have:Nat.beq id' id=false:=nbeq_ne hid
   simp only [blk,this,cond_false] at hQ
   rw [if_neg hid];exact ⟨ρ',rfl,hQ⟩
 | _=>exact ⟨ρ',rfl,hQ⟩
theorem V.scope {c:Code} (h:V P N c (fun e ρ w=>match e with | .goto _=>False | e=>Q e ρ w) ρ w):V P N (.scope c) Q ρ w:=by
 refine ⟨fun ok=>?_⟩
 simp only [okCode] at ok
 refine wp_scope_straight (wp_mono (h.go ok) ?_)
 rintro e a w' ⟨ρ',rfl,hQ⟩
 cases e with
 | goto l=>exact hQ.elim
 | _=>exact ⟨ρ',rfl,hQ⟩
theorem V.cond {c:Operand} {x y:Code} {t:Bool} (hc:tm ρ c=.bool t) (ht:t=true→V P N x Q ρ w) (hf:t=false→V P N y Q ρ w) :
  V P N (.cond c x y) Q ρ w:=by
 refine ⟨fun ok=>?_⟩
 simp only [okCode,Bool.and_eq_true] at ok
 refine wp_cond (t:=t) (by rw [eval_act ok.1.1];exact hc) ?_
 cases t with
 | true=>exact (ht rfl).go ok.1.2
 | false=>exact (hf rfl).go ok.2
theorem V.condT {c:Operand} {x y:Code} (hc:tm ρ c=.bool true) (ht:V P N x Q ρ w):V P N (.cond c x y) Q ρ w :=
 V.cond hc (fun _=>ht) (fun h=>nomatch h)
theorem V.condF {c:Operand} {x y:Code} (hc:tm ρ c=.bool false) (hf:V P N y Q ρ w):V P N (.cond c x y) Q ρ w :=
 V.cond hc (fun h=>nomatch h) (fun _=>hf)
theorem V.condP {c:Operand} {x y:Code} {p:Prop} [Decidable p] (hc:tm ρ c=.bool (decide p)) (ht:p→V P N x Q ρ w) (hf:¬p→V P N y Q ρ w):V P N (.cond c x y) Q ρ w :=
 V.cond hc (fun h=>ht (of_decide_eq_true h)) (fun h=>hf (of_decide_eq_false h))
theorem V.cut (L:List Nat) {ι:Type} (vals:ι→List Value) (J:ι→World→Prop) {x y:Code}
  (h1:V P N x (thn (fun ρ' w'=>∃ i,L.map ρ'=vals i∧J i w') Q) ρ w)
  (h2:∀ ρ i w,J i w→V P N y Q (setL L (vals i) ρ) w):V P N (.seq x y) Q ρ w:=by
 refine V.seq (V.mono h1 ?_)
 intro e ρ' w' hQ
 cases e with
 | normal =>
  obtain ⟨i,hL,hJ⟩:=hQ
  have:=h2 ρ' i w' hJ
  rw [setL_self _ _ _ hL] at this
  exact this
 | _=>exact hQ
theorem V.loop (L:List Nat) {ι:Type} (vals:ι→List Value) (J:ι→World→Prop) (μ:ι→Nat) {c:Code} (i₀:ι)
  (h₀:L.map ρ=vals i₀) (hJ:J i₀ w)
  (round:∀ ρ i w,J i w→V P N c (thn (fun ρ' w'=>∃ i',L.map ρ'=vals i'∧J i' w'∧μ i'<μ i) Q) (setL L (vals i) ρ) w) :
  V P N (.loop c) Q ρ w:=by
 refine ⟨fun ok=>?_⟩
 simp only [okCode] at ok
 intro b k cs
 have key:∀ n i,μ i=n→∀ ρ w,L.map ρ=vals i→J i w →
   ∃ e a' w',lift N Q e a' w'∧Arrives P (lone (b.at (act N ρ) (.code c :: .inLoop c :: k)) cs w) b k cs e a' w':=by
  intro n
  induction n using Nat.strongRecOn with
  | _ n ih =>
   intro i hn ρ w hL hJ
   have hr:=round ρ i w hJ
   rw [setL_self _ _ _ hL] at hr
   replace hr:=hr.go ok
   obtain ⟨e,a₁,w₁,⟨ρ₁,rfl,hq⟩,harr⟩:=hr b (.inLoop c :: k) cs
   cases e with
   | normal =>
    obtain ⟨i',hL',hJ',hlt⟩:=hq
    obtain ⟨e₂,a₂,w₂,hq₂,harr₂⟩:=ih (μ i') (hn▸hlt) i' rfl ρ₁ w₁ hL' hJ'
    exact ⟨e₂,a₂,w₂,hq₂,.of_steps (Steps.trans harr (.one step_inLoop)) harr₂⟩
   | exit id=>exact ⟨_,_,w₁,⟨ρ₁,rfl,hq⟩,.pass (x:=.inLoop c) rfl (fun _ _=>.inl (by simp)) harr⟩
   | goto l=>exact ⟨_,_,w₁,⟨ρ₁,rfl,hq⟩,.pass (x:=.inLoop c) rfl (fun _ _=>.inl (by simp)) harr⟩
   | ret=>exact ⟨_,_,w₁,⟨ρ₁,rfl,hq⟩,.pass (x:=.inLoop c) rfl (fun _ _=>.inl (by simp)) harr⟩
   | panic ch=>exact ⟨_,_,w₁,⟨ρ₁,rfl,hq⟩,.pass (x:=.inLoop c) rfl (fun _ _=>.inl (by simp)) harr⟩
   | outgrown=>exact ⟨_,_,w₁,⟨ρ₁,rfl,hq⟩,.pass (x:=.inLoop c) rfl (fun _ _=>.inl (by simp)) harr⟩
 obtain ⟨e,a',w',hq,harr⟩:=key _ i₀ rfl ρ w h₀ hJ
 exact ⟨e,a',w',hq,.of_steps (.one step_loop) harr⟩
end code
def run1 (P:Program) (ρ:Env) (op:Op) (ty:TypeId) (w:World):Result Next :=
 (execOp (tm ρ) { dst := none, op := op, type := ty, pos := "", after := #[], guard := none }).run P w
theorem run1_eq {P:Program} {ρ:Env} {d:Option Tmp} {op:Op} {ty:TypeId} {p:String} {af:Array Edge} {g:Option (Nat×Bool)} {w:World} :
  (execOp (tm ρ) { dst:=d,op:=op,type:=ty,pos:=p,after:=af,guard:=g }).run P w=run1 P ρ op ty w:=rfl
def Rets (P:Program) (f:FuncId) (args:Array Value) (w:World) (R:Value→World→Prop):Prop :=
 Calls P f args w fun e w'=>∃ v,e=.returned v∧R v w'
theorem Rets.mono {P:Program} {f:FuncId} {args:Array Value} {w:World} {R R':Value→World→Prop} (h:Rets P f args w R) (hr:∀ v w',R v w'→R' v w'):Rets P f args w R' :=
 Calls.mono h fun _ _ ⟨v,he,hR⟩=>⟨v,he,hr _ _ hR⟩
theorem upon_mono {P:Program} {o:Oper} {a:Act} {K K':Act→World→Prop} {Q Q':Exit→Act→World→Prop} (hK:∀ a w,K a w→K' a w) (hQ:∀ e a w,Q e a w→Q' e a w) {r:Result Next}
  (h:Oper.upon P o a K Q r):Oper.upon P o a K' Q' r:=by
 cases r with
 | ok n w' =>
  cases n <;> simp only [Oper.upon] at h ⊢ <;>
   first
    | exact hK _ _ h
    | exact Calls.mono h (fun e w'' he=>by cases e <;> first | exact hK _ _ he | exact hQ _ _ _ he | (obtain ⟨x,y,hxy⟩:=he;exact ⟨x,y,hQ _ _ _ hxy⟩))
    | exact Rows.mono h (fun _ _ he=>hK _ _ he)
 | halt x w'=>cases x <;> simp only [Oper.upon] at h ⊢ <;> exact hQ _ _ _ h
theorem wpList_mono {P:Program} {ops:Array Oper} {Q Q':Exit→Act→World→Prop} (hQ:∀ e a w,Q e a w→Q' e a w):∀ (l:List Oper) (a:Act) (w:World),wpList P ops Q l a w→wpList P ops Q' l a w:=by
 intro l
 induction l with
 | nil=>intro a w h;exact hQ _ _ _ h
 | cons o l ih =>
  intro a w h
  unfold wpList at h ⊢
  split at h
  ·rename_i hw;rw [if_pos hw]
   rcases h with h | ⟨h1,a',w',h2⟩
   ·left;unfold Oper.wp at h ⊢;exact upon_mono ih hQ h
   ·right;exact ⟨h1,a',w',hQ _ _ _ h2⟩
  ·rename_i hw;rw [if_neg hw];exact ih _ _ h
theorem lift_mono {N:Nat} {Q Q':Exit→Env→World→Prop} (h:∀ e ρ w,Q e ρ w→Q' e ρ w):∀ e a w,lift N Q e a w→lift N Q' e a w :=
 fun _ _ _ ⟨ρ,ha,hq⟩=>⟨ρ,ha,h _ _ _ hq⟩
section ops
variable {P:Program} {N:Nat} {L:List Oper} {Q:Exit→Env→World→Prop} {rest:List Oper} {ρ:Env} {w w':World}
 {d:Nat} {q:Op} {ty:TypeId} {p:String} {af:Array Edge} {v:Value}
theorem VL.nil (h:Q .normal ρ w):VL P N L Q [] ρ w:=⟨fun _ _=>wpList_nil ⟨ρ,rfl,h,Agree.refl _ _⟩⟩
theorem V.region {id:Nat} {L:List Oper} (h:VL P N L Q L ρ w):V P N (.region id L.toArray false) Q ρ w:=by
 refine ⟨fun ok=>?_⟩
 have ok':okOps N L=true:=by simpa [okCode] using ok
 exact wp_region_lit (wpList_mono (lift_mono fun _ _ _ h=>h.1) _ _ _ (h.go ok' ok'))
theorem okOps_cons {o:Oper} {l:List Oper} (h:okOps N (o :: l)=true):okOp N o=true∧okOps N l=true:=by
 simpa [okOps] using h
theorem VL.step {QQ:Exit→Act→World→Prop} {o:Oper} (hg:o.guard=none) (okl:okOps N (o :: rest)=true)
  (h:okOps N rest=true→Oper.upon P o (act N ρ) (wpList P L.toArray QQ rest) QQ ((execOp (tm ρ) o).run P w)):wpList P L.toArray QQ (o :: rest) (act N ρ) w:=by
 obtain ⟨ho,hr⟩:=okOps_cons okl
 refine wpList_plain hg fun K hK=>?_
 unfold Oper.wp
 rw [exec_act ho]
 exact upon_mono hK (fun _ _ _ h=>h) (h hr)
theorem VL.cons {o:Oper} {v:Value} (h:VL P N L Q rest (put ρ o.dst v) w') (okL:okOps N L=true) (hr:okOps N rest=true) :
  wpList P L.toArray (lift N fun e ρ' w'=>Q e ρ' w'∧Agree (o :: rest) ρ ρ') rest (act N (put ρ o.dst v)) w' :=
 wpList_mono (lift_mono fun _ _ _ h=>⟨h.1,Agree.cons h.2⟩) _ _ _ (h.go okL hr)
theorem VL.op (hr:run1 P ρ q ty w=.ok (.value v) w') (h:VL P N L Q rest (upd ρ d v) w') :
  VL P N L Q ({ dst:=some d,op:=q,type:=ty,pos:=p,after:=af,guard:=none } :: rest) ρ w:=by
 refine ⟨fun okL okl=>VL.step rfl okl fun hr'=>?_⟩
 rw [run1_eq,hr]
 simp only [Oper.upon,act_put]
 exact VL.cons (o:={ dst:=some d,op:=q,type:=ty,pos:=p,after:=af,guard:=none }) h okL hr'
theorem VL.op0 (hr:run1 P ρ q ty w=.ok .skip w') (h:VL P N L Q rest ρ w') :
  VL P N L Q ({ dst:=none,op:=q,type:=ty,pos:=p,after:=af,guard:=none } :: rest) ρ w:=by
 refine ⟨fun okL okl=>VL.step rfl okl fun hr'=>?_⟩
 rw [run1_eq,hr]
 simp only [Oper.upon,act_put]
 exact VL.cons (v:=undef) (o:={ dst:=none,op:=q,type:=ty,pos:=p,after:=af,guard:=none }) h okL hr'
theorem VL.opv (hr:run1 P ρ q ty w=.ok (.value v) w') (h:VL P N L Q rest ρ w') :
  VL P N L Q ({ dst:=none,op:=q,type:=ty,pos:=p,after:=af,guard:=none } :: rest) ρ w:=by
 refine ⟨fun okL okl=>VL.step rfl okl fun hr'=>?_⟩
 rw [run1_eq,hr]
 simp only [Oper.upon,act_put]
 exact VL.cons (v:=undef) (o:={ dst:=none,op:=q,type:=ty,pos:=p,after:=af,guard:=none }) h okL hr'
theorem VL.enter {f:FuncId} {args:Array Value} (hr:run1 P ρ q ty w=.ok (.enter f args) w')
  (h:Rets P f args w' fun v w''=>VL P N L Q rest (upd ρ d v) w'') :
  VL P N L Q ({ dst:=some d,op:=q,type:=ty,pos:=p,after:=af,guard:=none } :: rest) ρ w:=by
 refine ⟨fun okL okl=>VL.step rfl okl fun hr'=>?_⟩
 rw [run1_eq,hr]
 simp only [Oper.upon]
 refine Calls.mono h ?_
 rintro e w'' ⟨v,rfl,hv⟩
 simp only
 rw [act_put]
 exact VL.cons (o:={ dst:=some d,op:=q,type:=ty,pos:=p,after:=af,guard:=none }) hv okL hr'
theorem V.regionCut {id:Nat} {L:List Oper} (W:List Nat) (d:Nat) (v:Value) (J:World→Prop) (hW:dstsIn W L=true)
  (h1:VL P N L (fun e ρ' w'=>e=.normal∧tm ρ' (.tmp d)=v∧J w') L ρ w) (h2:∀ ρg w',J w'→Q .normal (upd (scr W ρg ρ) d v) w'):V P N (.region id L.toArray false) Q ρ w:=by
 refine ⟨fun ok=>?_⟩
 have ok':okOps N L=true:=by simpa [okCode] using ok
 refine wp_region_lit (wpList_mono (lift_mono ?_) _ _ _ (h1.go ok' ok'))
 rintro e ρ' w' ⟨⟨rfl,hd,hJ⟩,ha⟩
 have hd:ρ' d=v:=hd
 have:=h2 ρ' w' hJ
 rw [←ha.scr hW,upd_eq hd] at this
 exact this
theorem VL.guard {j dj:Nat} {want t:Bool} {d:Option Tmp} (hd:dstAt L j=some dj) (ht:tm ρ (.tmp dj)=.bool t)
  (h1:t=want→VL P N L Q ({ dst:=d,op:=q,type:=ty,pos:=p,after:=af,guard:=none } :: rest) (upd ρ dj (.bool want)) w)
  (h2:t=!want→VL P N L Q rest (put (upd ρ dj (.bool !want)) d undef) w) :
  VL P N L Q ({ dst:=d,op:=q,type:=ty,pos:=p,after:=af,guard:=some (j,want) } :: rest) ρ w:=by
 refine ⟨fun okL okl=>?_⟩
 obtain ⟨ho,hr⟩:=okOps_cons okl
 have hy:yielded L.toArray (act N ρ).tmps j=some t:=yielded_act okL hd ht
 have ag:∀ {l:List Oper} {ρ':Env},(∀ o∈l,o.dst=d)→Agree (l++rest) ρ ρ'→Agree ({ dst:=d,op:=q,type:=ty,pos:=p,after:=af,guard:=some (j,want) } :: rest) ρ ρ':=by
  intro l ρ' hl h t ht
  refine h t fun o ho=>?_
  rcases List.mem_append.1 ho with ho | ho
  ·rw [hl o ho];exact ht { dst:=d,op:=q,type:=ty,pos:=p,after:=af,guard:=some (j,want) } (by simp)
  ·exact ht o (by simp [ho])
 by_cases htw:t=want
 ·subst htw
  have:=h1 rfl
  rw [upd_eq ht] at this
  replace this:=this.go okL (by simpa [okOps,okOp,okDst] using okl)
  replace this:=wpList_mono (lift_mono (Q':=fun e ρ' w'=>Q e ρ' w'∧Agree ({ dst:=d,op:=q,type:=ty,pos:=p,after:=af,guard:=some (j,t) } :: rest) ρ ρ') fun _ _ _ h=>⟨h.1,ag (l:=[{ dst:=d,op:=q,type:=ty,pos:=p,after:=af,guard:=none }]) (by simp) h.2⟩) _ _ _ this
  unfold wpList at this ⊢
  rw [if_pos (by simp [Region.wanted])] at this
  rw [if_pos (by simp [Region.wanted,hy])]
  exact this
 ·have htw':t=!want:=by cases t <;> cases want <;> simp_all
  subst htw'
  have:=h2 rfl
  rw [upd_eq ht] at this
  replace this:=VL.cons (o:={ dst:=d,op:=q,type:=ty,pos:=p,after:=af,guard:=some (j,want) }) this okL hr
  unfold wpList
  rw [if_neg (by simp [Region.wanted,hy]),act_put]
  exact this
theorem VL.gT {j dj:Nat} {want:Bool} {d:Option Tmp} (hd:dstAt L j=some dj) (ht:tm ρ (.tmp dj)=.bool want)
  (h1:VL P N L Q ({ dst:=d,op:=q,type:=ty,pos:=p,after:=af,guard:=none } :: rest) ρ w) :
  VL P N L Q ({ dst:=d,op:=q,type:=ty,pos:=p,after:=af,guard:=some (j,want) } :: rest) ρ w:=by
 refine VL.guard hd ht (fun _=>?_) (fun h=>by cases want <;> cases h)
 rw [upd_eq ht];exact h1
theorem VL.gF {j dj d:Nat} {want:Bool} (hd:dstAt L j=some dj) (ht:tm ρ (.tmp dj)=.bool (!want)) (h2:VL P N L Q rest (upd ρ d undef) w) :
  VL P N L Q ({ dst:=some d,op:=q,type:=ty,pos:=p,after:=af,guard:=some (j,want) } :: rest) ρ w:=by
 refine VL.guard hd ht (fun h=>by cases want <;> cases h) (fun _=>?_)
 rw [upd_eq ht];exact h2
theorem VL.gU {j dj d:Nat} {want:Bool} (hd:dstAt L j=some dj) (ht:tm ρ (.tmp dj)=undef) (h2:VL P N L Q rest (upd ρ d undef) w) :
  VL P N L Q ({ dst:=some d,op:=q,type:=ty,pos:=p,after:=af,guard:=some (j,want) } :: rest) ρ w:=by
 refine ⟨fun okL okl=>?_⟩
 obtain ⟨ho,hr⟩:=okOps_cons okl
 have hy:yielded L.toArray (act N ρ).tmps j=none:=yielded_undef hd ht
 have this:VL P N L Q rest (put ρ (some d) undef) w:=h2
 replace this:=VL.cons (o:={ dst:=some d,op:=q,type:=ty,pos:=p,after:=af,guard:=some (j,want) }) this okL hr
 unfold wpList
 rw [if_neg (by simp [Region.wanted,hy]),act_put]
 exact this
theorem VL.and {j dj d:Nat} {t:Bool} (hd:dstAt L j=some dj) (ht:tm ρ (.tmp dj)=.bool t)
  (h1:t=true→VL P N L Q ({ dst:=some d,op:=q,type:=ty,pos:=p,after:=af,guard:=none } :: rest) (upd ρ dj (.bool true)) w)
  (h2:t=false→VL P N L Q rest (upd (upd ρ dj (.bool false)) d undef) w) :
  VL P N L Q ({ dst:=some d,op:=q,type:=ty,pos:=p,after:=af,guard:=some (j,true) } :: rest) ρ w :=
 VL.guard hd ht h1 h2
theorem VL.or {j dj d:Nat} {t:Bool} (hd:dstAt L j=some dj) (ht:tm ρ (.tmp dj)=.bool t)
  (h1:t=false→VL P N L Q ({ dst:=some d,op:=q,type:=ty,pos:=p,after:=af,guard:=none } :: rest) (upd ρ dj (.bool false)) w)
  (h2:t=true→VL P N L Q rest (upd (upd ρ dj (.bool true)) d undef) w) :
  VL P N L Q ({ dst:=some d,op:=q,type:=ty,pos:=p,after:=af,guard:=some (j,false) } :: rest) ρ w :=
 VL.guard hd ht h1 h2
theorem VL.andP {j dj d:Nat} {pp:Prop} [Decidable pp] (hd:dstAt L j=some dj) (ht:tm ρ (.tmp dj)=.bool (decide pp))
  (h1:pp→VL P N L Q ({ dst:=some d,op:=q,type:=ty,pos:=p,after:=af,guard:=none } :: rest) (upd ρ dj (.bool true)) w)
  (h2:¬pp→VL P N L Q rest (upd (upd ρ dj (.bool false)) d undef) w) :
  VL P N L Q ({ dst:=some d,op:=q,type:=ty,pos:=p,after:=af,guard:=some (j,true) } :: rest) ρ w :=
 VL.and hd ht (fun h=>h1 (of_decide_eq_true h)) (fun h=>h2 (of_decide_eq_false h))
theorem VL.orP {j dj d:Nat} {pp:Prop} [Decidable pp] (hd:dstAt L j=some dj) (ht:tm ρ (.tmp dj)=.bool (decide pp))
  (h1:¬pp→VL P N L Q ({ dst:=some d,op:=q,type:=ty,pos:=p,after:=af,guard:=none } :: rest) (upd ρ dj (.bool false)) w)
  (h2:pp→VL P N L Q rest (upd (upd ρ dj (.bool true)) d undef) w) :
  VL P N L Q ({ dst:=some d,op:=q,type:=ty,pos:=p,after:=af,guard:=some (j,false) } :: rest) ρ w :=
 VL.or hd ht (fun h=>h1 (of_decide_eq_false h)) (fun h=>h2 (of_decide_eq_true h))
end ops
theorem cutB {ρ:Env} {x:Operand} {b B:Bool} (h:tm ρ x=.bool b) (e:b=B):tm ρ x=.bool B:=by rw [h,e]
/-! ### A function's beginning and end -/
def fpost' (P:Program) (N:Nat) (fn:Func) (R:Value→World→Prop):Exit→Env→World→Prop
 | .normal,ρ,w | .ret,ρ,w=>∃ v,(results fn (act N ρ).tmps).run P w=.ok v w∧R v w
 | _,_,_=>False
structure fpost (P:Program) (N:Nat) (fn:Func) (R:Value→World→Prop) (e:Exit) (ρ:Env) (w:World):Prop where
 go:fpost' P N fn R e ρ w
theorem env0_act (N:Nat) (l:List Value) (h:l.length≤N):(l.toArray++Array.replicate (N-l.length) undef)=(act N (env0 l)).tmps:=by
 refine Array.ext (by simp [act];omega) fun i h1 h2=>?_
 have hi:i<N:=by simpa [act] using h2
 simp only [act,Array.getElem_ofFn,env0]
 rw [Array.getElem_append]
 split
 ·rename_i hlt
  have:i<l.length:=by simpa using hlt
  simp [this]
 ·rename_i hlt
  have:¬i<l.length:=by simpa using hlt
  simp [List.getD,List.getElem?_eq_none (by omega:l.length≤i)]
theorem enter {P:Program} {f:FuncId} {fn:Func} {c:Code} {N:Nat} {args:List Value} {w:World} {R:Value→World→Prop}
  (hf:P.funcs[f]?=some fn) (hb:fn.body=some c) (hN:fn.ntmps=N) (hok:okCode N c=true) (hl:Nat.ble args.length N=true)
  (h:V P N c (fpost P N fn R) (env0 args) w):Rets P f args.toArray w R:=by
 refine calls_of_wp hf hb ?_
 subst hN
 have ha:({ tmps:=args.toArray++Array.replicate (fn.ntmps-args.toArray.size) undef,defers:=[] }:Act)=act fn.ntmps (env0 args):=by
  show Act.mk _ _=Act.mk _ _
  rw [List.size_toArray,env0_act _ _ (by simpa using hl)]
  rfl
 rw [ha]
 refine wp_mono (h.go hok) ?_
 rintro e a w' ⟨ρ',rfl,hQ⟩
 cases e with
 | normal=>obtain ⟨v,hr,hR⟩:=hQ.go;exact ⟨rfl,v,hr,v,rfl,hR⟩
 | ret=>obtain ⟨v,hr,hR⟩:=hQ.go;exact ⟨rfl,v,hr,v,rfl,hR⟩
 | _=>exact hQ.go.elim
section ret
variable {P:Program} {N:Nat} {fn:Func} {R:Value→World→Prop} {ρ:Env} {w:World}
theorem tmps_getD {t:Nat} (h:Nat.blt t N=true):(act N ρ).tmps.getD t undef=ρ t:=by
 have:t<N:=by simpa [Nat.blt_eq] using h
 simp [act,this]
theorem fret0 (hr:fn.results=#[]) (h:R (.tuple #[]) w):fpost P N fn R .ret ρ w:=⟨⟨_,by simp [results,hr],h⟩⟩
theorem fend0 (hr:fn.results=#[]) (h:R (.tuple #[]) w):fpost P N fn R .normal ρ w:=⟨⟨_,by simp [results,hr],h⟩⟩
theorem fret1 {t:Nat} {v:Value} (hr:fn.results=#[.tmp t]) (ht:Nat.blt t N=true) (hv:tm ρ (.tmp t)=v) (h:R v w):fpost P N fn R .ret ρ w :=
 ⟨⟨v,by have hv:ρ t=v:=hv;rw [results_tmp hr,tmps_getD ht,hv],h⟩⟩
theorem fret2 {t u:Nat} {v x:Value} (hr:fn.results=#[.tmp t,.tmp u]) (ht:Nat.blt t N=true) (hu:Nat.blt u N=true) (hv:tm ρ (.tmp t)=v) (hx:tm ρ (.tmp u)=x) (h:R (.tuple #[v,x]) w):fpost P N fn R .ret ρ w :=
 ⟨⟨_,by have hv:ρ t=v:=hv;have hx:ρ u=x:=hx;rw [results_tmp2 hr,tmps_getD ht,tmps_getD hu,hv,hx],h⟩⟩
end ret
theorem nblt {a b:Nat}:Nat.blt a b=true↔a<b:=by rw [Nat.blt_eq]
theorem nblt_no {a b:Nat} (h:¬a<b):Nat.blt a b=false:=by
 cases hx:Nat.blt a b with
 | false=>rfl
 | true=>exact absurd (nblt.1 hx) h
theorem getD_app {α:Type} (l l':List α) (i:Nat) (d:α) (h:i<l.length):(l++l').getD i d=l.getD i d:=by
 simp [List.getD,List.getElem?_append_left h]
def binds (e:Edge):Bool:=Region.binds .any e
def ancOf (o:Oper) (acc:List Nat):Nat:=o.after.toList.foldl (fun s e=>bif binds e then s ||| (2 ^ e.on ||| acc.getD e.on 0) else s) 0
def ancs:List Oper→List Nat→List Nat
 | [],acc=>acc
 | o :: l,acc=>ancs l (acc++[ancOf o acc])
def names (L:List Oper) (o:Oper):List Nat :=
 (o.op.operands.toList.filterMap fun | .tmp t=>some t | _=>none)++o.dst.toList++(match o.guard with | some (j,_)=>(dstAt L j).toList | none=>[])
def clash (L:List Oper) (o o':Oper):Bool:=match o'.dst with | some d=>(names L o).elem d | none=>false
def regOk (L:List Oper) (k:Nat):Bool :=
 let A:=ancs L []
 (L.zipIdx.all fun (o,i) =>
  (o.after.toList.all fun e=>!binds e||Nat.blt e.on i) &&
  L.zipIdx.all fun (o',j)=>Nat.beq i j||!clash L o o'||(bif Nat.blt j i then (A.getD i 0).testBit j else (A.getD j 0).testBit i)) &&
 ((List.range L.length).all fun i=>Nat.blt i k||(List.range i).all fun j=>(A.getD i 0).testBit j)
def closedD (L:List Oper) (D:Nat→Bool):Prop:=∀ i o,L[i]?=some o→D i=true→∀ e∈o.after,binds e=true→D e.on=true
theorem foldl_or_bit {α:Type} (f:α→Nat) (p:α→Bool) (l:List α) (s j:Nat) (h:(l.foldl (fun s e=>bif p e then s ||| f e else s) s).testBit j=true) :
  s.testBit j=true∨∃ e∈l,p e=true∧(f e).testBit j=true:=by
 induction l generalizing s with
 | nil=>exact .inl h
 | cons e l ih =>
  simp only [List.foldl_cons] at h
  rcases ih _ h with h | ⟨e',he,hp,hf⟩
  ·cases hpe:p e with
   | true =>
    rw [hpe,cond_true,Nat.testBit_or,Bool.or_eq_true] at h
    rcases h with h | h
    ·exact .inl h
    ·exact .inr ⟨e,by simp,hpe,h⟩
   | false=>rw [hpe] at h;exact .inl h
  ·exact .inr ⟨e',by simp [he],hp,hf⟩
theorem ancs_spec {D:Nat→Bool} (l:List Oper):∀ (pre:List Oper) (acc:List Nat),acc.length=pre.length→closedD (pre++l) D →
  (∀ i j,i<acc.length→(acc.getD i 0).testBit j=true→D i=true→D j=true) →
  ∀ i j,i<(pre++l).length→((ancs l acc).getD i 0).testBit j=true→D i=true→D j=true:=by
 induction l with
 | nil=>intro pre acc hl _ h i j hi;simp only [List.append_nil] at hi;rw [ancs];exact h i j (by omega)
 | cons o l ih =>
  intro pre acc hl hD h i j hi hb hDi
  have e:pre++o :: l=(pre++[o])++l:=by simp
  rw [ancs] at hb
  refine ih (pre++[o]) (acc++[ancOf o acc]) (by simp [hl]) (by rw [←e];exact hD) ?_ i j (by rw [←e];exact hi) hb hDi
  intro i j hi hb hDi
  by_cases hlt:i<acc.length
  ·rw [getD_app _ _ _ _ hlt] at hb
   exact h i j hlt hb hDi
  ·have hi':i=acc.length:=by simp at hi;omega
   subst hi'
   have:(acc++[ancOf o acc]).getD acc.length 0=ancOf o acc:=by simp [List.getD]
   rw [this] at hb
   unfold ancOf at hb
   rcases foldl_or_bit _ _ _ _ _ hb with hb | ⟨x,hx,hbd,hf⟩
   ·simp at hb
   ·have ho:(pre++o :: l)[acc.length]?=some o:=by simp [hl]
    have hDx:D x.on=true:=hD _ _ ho hDi x (by simpa using hx) hbd
    rw [Nat.testBit_or,Bool.or_eq_true] at hf
    rcases hf with hf | hf
    ·rw [Nat.testBit_two_pow] at hf
     have:x.on=j:=by simpa using hf
     rw [←this];exact hDx
    ·have hlt:x.on<acc.length:=by
      rcases Nat.lt_or_ge x.on acc.length with h | h
      ·exact h
      ·rw [List.getD,List.getElem?_eq_none h] at hf;simp at hf
     exact h x.on j hlt hf hDx
theorem anc_closed {L:List Oper} {D:Nat→Bool} (hD:closedD L D) {i j:Nat} (hi:i<L.length) (hb:((ancs L []).getD i 0).testBit j=true) (hDi:D i=true):D j=true :=
 ancs_spec (D:=D) L [] [] rfl (by simpa using hD) (by intro i j h;simp at h) i j (by simpa using hi) hb hDi
/-! ### The frame when some operations have come up -/
def envD (L:List Oper) (vals:Nat→Value) (D:Nat→Bool) (ρ:Env):Env:=fun t =>
 (List.range L.length).foldl (fun acc j=>bif D j&&dstAt L j == some t then vals j else acc) (ρ t)
theorem foldl_range_congr {α:Type} (f g:α→Nat→α) (n:Nat) (a:α) (h:∀ a j,j<n→f a j=g a j):(List.range n).foldl f a=(List.range n).foldl g a:=by
 induction n generalizing a with
 | zero=>rfl
 | succ n ih =>
  rw [List.range_succ,List.foldl_append,List.foldl_append,ih a fun a j hj=>h a j (by omega)]
  simp only [List.foldl_cons,List.foldl_nil]
  exact h _ _ (by omega)
theorem envD_congr {L:List Oper} {vals:Nat→Value} {D D':Nat→Bool} {ρ:Env} {t:Nat}
  (h:∀ j,j<L.length→dstAt L j=some t→D j=D' j):envD L vals D ρ t=envD L vals D' ρ t:=by
 unfold envD
 refine foldl_range_congr _ _ _ _ fun a j hj=>?_
 by_cases ht:dstAt L j=some t
 ·rw [h j hj ht]
 ·have:(dstAt L j == some t)=false:=by simpa using ht
  rw [this];simp
theorem foldl_last (L:List Oper) (vals:Nat→Value) (D:Nat→Bool) (t i:Nat) (a:Value):∀ n,i<n→D i=true→dstAt L i=some t →
  (∀ j,i<j→j<n→dstAt L j=some t→D j=false) →
  (List.range n).foldl (fun acc j=>bif D j&&dstAt L j == some t then vals j else acc) a=vals i:=by
 intro n
 induction n with
 | zero=>intro h;omega
 | succ n ih =>
  intro hi hD hd hlater
  rw [List.range_succ,List.foldl_append]
  simp only [List.foldl_cons,List.foldl_nil]
  by_cases hin:i=n
  ·subst hin;rw [hD,hd];simp
  ·have hlt:i<n:=by omega
   rw [ih hlt hD hd fun j h1 h2=>hlater j h1 (by omega)]
   by_cases ht:dstAt L n=some t
   ·rw [hlater n hlt (by omega) ht];rfl
   ·have:(dstAt L n == some t)=false:=by simpa using ht
    rw [this];simp
theorem dstAt_lt {L:List Oper} {j d:Nat} (h:dstAt L j=some d):j<L.length:=by
 rw [dstAt_eq] at h
 obtain ⟨o,ho,_⟩:=Option.bind_eq_some_iff.1 h
 exact (List.getElem?_eq_some_iff.1 ho).1
def setD (D:Nat→Bool) (i:Nat):Nat→Bool:=fun j=>Nat.beq j i||D j
theorem envD_set {L:List Oper} {vals:Nat→Value} {D:Nat→Bool} {ρ:Env} {i:Nat} {o:Oper} (ho:L[i]?=some o)
  (hlater:∀ d,o.dst=some d→∀ j,i<j→dstAt L j=some d→D j=false) :
  envD L vals (setD D i) ρ=put (envD L vals D ρ) o.dst (vals i):=by
 have hdi:dstAt L i=o.dst:=by rw [dstAt_eq,ho];rfl
 funext t
 have other:∀ t,o.dst≠some t→envD L vals (setD D i) ρ t=envD L vals D ρ t:=fun t ht=>envD_congr fun j hj hdj=>by
  have:j≠i:=by rintro rfl;rw [hdi] at hdj;exact ht hdj
  simp [setD,nbeq_ne this]
 cases hd:o.dst with
 | none=>rw [put];exact other t (by simp [hd])
 | some d =>
  rw [put]
  unfold upd
  by_cases htd:t=d
  ·subst htd
   rw [Nat.beq_refl,cond_true]
   unfold envD
   refine foldl_last L vals _ t i _ _ (List.getElem?_eq_some_iff.1 ho).1 (by simp [setD]) (by rw [hdi,hd]) fun j h1 _ h3=>?_
   have:j≠i:=by omega
   simp [setD,nbeq_ne this,hlater t hd j h1 h3]
  ·rw [nbeq_ne htd,cond_false]
   exact other t (by rw [hd];simpa using fun h=>htd h.symm)
theorem envD_none (L:List Oper) (vals:Nat→Value) (ρ:Env):envD L vals (fun _=>false) ρ=ρ:=by
 funext t
 unfold envD
 have:∀ n,(List.range n).foldl (fun acc j=>bif (fun _=>false) j&&dstAt L j == some t then vals j else acc) (ρ t)=ρ t:=by
  intro n
  induction n with
  | zero=>rfl
  | succ n ih=>rw [List.range_succ,List.foldl_append,ih];rfl
 exact this _
/-! ### One operation -/
def yl (L:List Oper) (ρ:Env) (j:Nat):Option Bool:=match dstAt L j with | some d=>(match ρ d with | .bool b=>some b | _=>none) | none=>none
theorem yl_act {N:Nat} {ρ:Env} {L:List Oper} (hL:okOps N L=true) (j:Nat):yielded L.toArray (act N ρ).tmps j=yl L ρ j:=by
 unfold yl yielded
 rw [dstAt_eq]
 have h1:(L.toArray[j]?).bind (·.dst)=(L[j]?).bind (·.dst):=by simp
 rw [h1]
 cases hd:(L[j]?).bind (·.dst) with
 | none=>rfl
 | some d =>
  obtain ⟨o,ho,hod⟩:=Option.bind_eq_some_iff.1 hd
  have:=List.all_eq_true.1 hL o (List.mem_of_getElem? ho)
  simp only [okOp,okDst,hod,Bool.and_eq_true,Nat.blt_eq] at this
  have:(act N ρ).tmps[d]?=some (ρ d):=by simp [act,this.1.2]
  simp only [Option.bind_some]
  rw [this]
  cases ρ d <;> rfl
def wantedE (L:List Oper) (ρ:Env) (o:Oper):Bool:=Region.wanted o (yl L ρ)
def yieldsTo (P:Program) (ρ:Env) (o:Oper) (w:World) (v:Value) (K:World→Prop):Prop :=
 match (execOp (tm ρ) o).run P w with
 | .ok (.value u) w'=>u=v∧K w'
 | .ok .skip w'=>v=undef∧K w'
 | .ok (.enter f args) w'=>Rets P f args w' fun u w''=>u=v∧K w''
 | _=>False
section
variable {P:Program} {N:Nat} {L:List Oper} {Q:Exit→Env→World→Prop} {vals:Nat→Value} {ρ:Env} {k:Nat}
theorem wpOp_of_yields {i:Nat} {o:Oper} (hL:okOps N L=true) (ho:L[i]?=some o) {ρi:Env} {w:World} {Kw:World→Prop} {K:Act→World→Prop} {QQ:Exit→Act→World→Prop}
  (hw:wantedE L ρi o=true→yieldsTo P ρi o w (vals i) Kw) (hn:wantedE L ρi o=false→vals i=undef∧Kw w)
  (hK:∀ w',Kw w'→K (act N (put ρi o.dst (vals i))) w'):wpOp P L.toArray QQ i K (act N ρi) w:=by
 unfold wpOp
 have ho':L.toArray[i]?=some o:=by simpa using ho
 rw [ho']
 simp only
 have hok:okOp N o=true:=List.all_eq_true.1 hL o (List.mem_of_getElem? ho)
 have e:(fun j=>yielded L.toArray (act N ρi).tmps j)=yl L ρi:=funext fun j=>yl_act hL j
 have e':Region.wanted o (yielded L.toArray (act N ρi).tmps)=wantedE L ρi o:=by
  show Region.wanted o (fun j=>yielded L.toArray (act N ρi).tmps j)=_
  rw [e];rfl
 rw [e']
 cases hwant:wantedE L ρi o with
 | true =>
  simp only [if_true]
  left
  have h:=hw hwant
  unfold yieldsTo at h
  unfold Oper.wp
  rw [exec_act hok]
  revert h
  generalize (execOp (tm ρi) o).run P w=r
  intro h
  cases r with
  | ok n w' =>
   cases n <;> simp only at h <;> simp only [Oper.upon]
   case value u=>rw [h.1,act_put];exact hK _ h.2
   case skip=>rw [act_put,←h.1];exact hK _ h.2
   case enter f args =>
    refine Calls.mono h ?_
    rintro e w'' ⟨v,rfl,rfl,hk⟩
    simp only
    rw [act_put];exact hK _ hk
  | halt x w'=>exact h.elim
 | false =>
  simp only [Bool.false_eq_true,if_false]
  obtain ⟨h1,h2⟩:=hn hwant
  rw [act_put,←h1];exact hK _ h2
structure RegOk (L:List Oper) (k:Nat):Prop where
 back:∀ i o,L[i]?=some o→∀ e∈o.after,binds e=true→e.on<i
 apart:∀ i o j o',L[i]?=some o→L[j]?=some o'→i≠j→clash L o o'=true→(j<i∧((ancs L []).getD i 0).testBit j=true)∨(i<j∧((ancs L []).getD j 0).testBit i=true)
 serial:∀ i,i<L.length→k≤i→∀ j,j<i→((ancs L []).getD i 0).testBit j=true
theorem regOk_spec (h:regOk L k=true):RegOk L k:=by
 simp only [regOk,Bool.and_eq_true,List.all_eq_true] at h
 obtain ⟨h1,h2⟩:=h
 refine ⟨fun i o ho e he hb=>?_,fun i o j o' ho ho' hij hc=>?_,fun i hi hk j hj=>?_⟩
 ·have:=(h1 (o,i) (by rw [List.mem_zipIdx_iff_getElem?];exact ho)).1 e (by simpa using he)
  simp only [hb,Bool.not_true,Bool.false_or,Nat.blt_eq] at this
  exact this
 ·have:=(h1 (o,i) (by rw [List.mem_zipIdx_iff_getElem?];exact ho)).2 (o',j) (by rw [List.mem_zipIdx_iff_getElem?];exact ho')
  simp only [hc,nbeq_ne hij,Bool.not_true,Bool.false_or,Bool.or_false] at this
  by_cases hji:j<i
  ·have hb:Nat.blt j i=true:=by simpa [Nat.blt_eq] using hji
   rw [hb,cond_true] at this
   exact .inl ⟨hji,this⟩
  ·have hb:Nat.blt j i=false:=by
    cases hx:Nat.blt j i with
    | false=>rfl
    | true=>exact absurd (nblt.1 hx) hji
   rw [hb,cond_false] at this
   exact .inr ⟨by omega,this⟩
 ·have:=h2 i (List.mem_range.2 hi)
  have hb:Nat.blt i k=false:=nblt_no (by omega)
  rw [hb,Bool.false_or,List.all_eq_true] at this
  exact this j (List.mem_range.2 hj)
theorem clash_of {o o':Oper} {d:Nat} (h:o'.dst=some d) (hd:d∈names L o):clash L o o'=true:=by
 unfold clash;rw [h];simpa using hd
theorem anc_lt_aux:∀ (l pre:List Oper) (acc:List Nat),acc.length=pre.length→(∀ i o,(pre++l)[i]?=some o→∀ e∈o.after,binds e=true→e.on<i) →
  (∀ i x,i<acc.length→(acc.getD i 0).testBit x=true→x<i)→∀ i x,i<(pre++l).length→((ancs l acc).getD i 0).testBit x=true→x<i:=by
 intro l
 induction l with
 | nil=>intro pre acc hl _ h i x hi;simp only [List.append_nil] at hi;rw [ancs];exact h i x (by omega)
 | cons o l ih =>
  intro pre acc hl hB h i x hi hb
  have e:pre++o :: l=(pre++[o])++l:=by simp
  rw [ancs] at hb
  refine ih (pre++[o]) (acc++[ancOf o acc]) (by simp [hl]) (by rw [←e];exact hB) ?_ i x (by rw [←e];exact hi) hb
  intro i x hi hb
  by_cases hlt:i<acc.length
  ·rw [getD_app _ _ _ _ hlt] at hb
   exact h i x hlt hb
  ·have hi':i=acc.length:=by simp at hi;omega
   subst hi'
   have:(acc++[ancOf o acc]).getD acc.length 0=ancOf o acc:=by simp [List.getD]
   rw [this] at hb
   unfold ancOf at hb
   rcases foldl_or_bit _ _ _ _ _ hb with hb | ⟨y,hy,hbd,hf⟩
   ·simp at hb
   ·have ho:(pre++o :: l)[acc.length]?=some o:=by simp [hl]
    have hyl:=hB _ _ ho y (by simpa using hy) hbd
    rw [Nat.testBit_or,Bool.or_eq_true] at hf
    rcases hf with hf | hf
    ·rw [Nat.testBit_two_pow] at hf
     have:y.on=x:=by simpa using hf
     omega
    ·have:=h y.on x hyl hf;omega
theorem anc_lt (R:RegOk L k) {i x:Nat} (hi:i<L.length) (hb:((ancs L []).getD i 0).testBit x=true):x<i :=
 anc_lt_aux L [] [] rfl (by simpa using R.back) (by intro i x h;simp at h) i x (by simpa using hi) hb
theorem anc_done (R:RegOk L k) {D:Nat→Bool} (hD:closedD L D) {i:Nat} {o:Oper} (ho:L[i]?=some o)
  (hdeps:∀ e∈o.after,binds e=true→D e.on=true) {j:Nat} (hb:((ancs L []).getD i 0).testBit j=true):D j=true:=by
 have hi:=(List.getElem?_eq_some_iff.1 ho).1
 have hc:closedD L (setD D i):=by
  intro i' o' ho' hDi' e he hbe
  by_cases hii:i'=i
  ·rw [hii,ho] at ho'
   injection ho' with ho'
   rw [←ho'] at he
   simp [setD,hdeps e he hbe]
  ·have:D i'=true:=by simpa [setD,nbeq_ne hii] using hDi'
   simp [setD,hD i' o' ho' this e he hbe]
 have:=anc_closed hc hi hb (by simp [setD])
 have hne:j≠i:=by have:=anc_lt R hi hb;omega
 simpa [setD,nbeq_ne hne] using this
theorem env_same (R:RegOk L k) {D:Nat→Bool} (hD:closedD L D) {i:Nat} {o:Oper} (ho:L[i]?=some o) (hDi:D i=false)
  (hdeps:∀ e∈o.after,binds e=true→D e.on=true) {t:Nat} (ht:t∈names L o) :
  envD L vals D ρ t=envD L vals (fun j=>Nat.blt j i) ρ t:=by
 refine envD_congr fun j hj hdj=>?_
 by_cases hji:j=i
 ·rw [hji,hDi,nblt_no (Nat.lt_irrefl i)]
 ·obtain ⟨o',ho'⟩:∃ o',L[j]?=some o':=⟨L[j],List.getElem?_eq_getElem hj⟩
  have hd':o'.dst=some t:=by rw [dstAt_eq,ho'] at hdj;exact hdj
  rcases R.apart i o j o' ho ho' (Ne.symm hji) (clash_of hd' ht) with ⟨hlt,hb⟩ | ⟨hlt,hb⟩
  ·rw [anc_done R hD ho hdeps hb,nblt.2 hlt]
  ·rw [nblt_no (by omega)]
   cases hDj:D j with
   | false=>rfl
   | true=>rw [anc_closed hD hj hb hDj] at hDi;cases hDi
theorem tm_same {ρ ρ':Env} {o:Oper} (h:∀ t∈names L o,ρ t=ρ' t) (hs:okOp N o=true):execOp (tm ρ) o=execOp (tm ρ') o:=by
 refine execOp_congr o ?_ ?_
 ·intro cs b he
  simp only [okOp,Bool.and_eq_true] at hs
  have:=hs.2
  rw [he] at this
  cases this
 ·intro x hx
  cases x with
  | tmp t =>
   show ρ t=ρ' t
   refine h t ?_
   unfold names
   rw [List.mem_append,List.mem_append]
   exact .inl (.inl (List.mem_filterMap.2 ⟨.tmp t,by simpa using hx,rfl⟩))
  | _=>rfl
theorem wanted_same {ρ ρ':Env} {o:Oper} (h:∀ t∈names L o,ρ t=ρ' t):wantedE L ρ o=wantedE L ρ' o:=by
 unfold wantedE Region.wanted
 cases hg:o.guard with
 | none=>rfl
 | some g =>
  obtain ⟨j,want⟩:=g
  simp only
  have:yl L ρ j=yl L ρ' j:=by
   unfold yl
   cases hd:dstAt L j with
   | none=>rfl
   | some d=>simp only;rw [h d (by unfold names;rw [hg];simp [hd])]
  rw [this]
def lexD (i:Nat):Nat→Bool:=fun j=>Nat.blt j i
def envL (L:List Oper) (vals:Nat→Value) (ρ:Env) (i:Nat):Env:=envD L vals (lexD i) ρ
theorem setD_lex (i:Nat):setD (lexD i) i=lexD (i+1):=by
 funext j
 unfold setD lexD
 by_cases h:j=i
 ·subst h;rw [Nat.beq_refl,Bool.true_or,nblt.2 (by omega)]
 ·rw [nbeq_ne h,Bool.false_or]
  by_cases hlt:j<i
  ·rw [nblt.2 hlt,nblt.2 (by omega)]
  ·rw [nblt_no hlt,nblt_no (by omega)]
theorem envL_zero:envL L vals ρ 0=ρ:=by
 unfold envL
 have:lexD 0=fun _=>false:=by funext j;exact nblt_no (by omega)
 rw [this];exact envD_none _ _ _
theorem envL_succ {i:Nat} {o:Oper} (ho:L[i]?=some o):envL L vals ρ (i+1)=put (envL L vals ρ i) o.dst (vals i):=by
 unfold envL
 rw [←setD_lex]
 exact envD_set ho fun d _ j hj _=>nblt_no (by omega)
def Asked (P:Program) (L:List Oper) (C:(Nat→Bool)→World→Prop) (k i:Nat) (o:Oper) (ρi:Env) (v:Value):Prop :=
 ∀ D,closedD L D→D i=false→(∀ e∈o.after,binds e=true→D e.on=true)→(∀ j,k≤j→D j=false)→∀ w,C D w →
  (wantedE L ρi o=true→yieldsTo P ρi o w v (C (setD D i)))∧(wantedE L ρi o=false→v=undef∧C (setD D i) w)
theorem closed_set {D:Nat→Bool} (hD:closedD L D) {i:Nat} {o:Oper} (ho:L[i]?=some o) (hdeps:∀ e∈o.after,binds e=true→D e.on=true):closedD L (setD D i):=by
 intro i' o' ho' hDi' e he hb
 by_cases hii:i'=i
 ·rw [hii,ho] at ho'
  injection ho' with ho'
  rw [←ho'] at he
  simp [setD,hdeps e he hb]
 ·have:D i'=true:=by simpa [setD,nbeq_ne hii] using hDi'
  simp [setD,hD i' o' ho' this e he hb]
def lst (a:Array Bool):Nat→Bool:=fun j=>a.getD j false
theorem lst_set {a:Array Bool} {i:Nat} (h:i<a.size):lst (a.setIfInBounds i true)=setD (lst a) i:=by
 funext j
 unfold lst setD
 by_cases hj:j=i
 ·subst hj;simp [h]
 ·rw [nbeq_ne hj,Bool.false_or]
  simp [Array.getElem?_setIfInBounds_ne (fun e=>hj e.symm:¬i=j)]
theorem lst_no {a:Array Bool} {j:Nat} (h:j<a.size) (h':a.getD j true=false):lst a j=false:=by
 unfold lst;simp [h] at h' ⊢;exact h'
theorem lst_no' {a:Array Bool} {j:Nat} (h:j<a.size) (h':lst a j=false):a.getD j true=false:=by
 unfold lst at h';simp [h] at h' ⊢;exact h'
theorem wpAny_serial (R:RegOk L k) {QQ:Exit→Act→World→Prop}:∀ (n m fuel:Nat) (listed:Array Bool) (a:Act) (w:World),n=L.length-m→k≤m→m≤L.length→listed.size=L.length →
  lst listed=lexD m→L.length-m≤fuel→wpOps P L.toArray QQ (List.range' m n) a w→wpAny P .any L.toArray QQ fuel listed a w:=by
 intro n
 induction n with
 | zero =>
  intro m fuel listed a w hn hk hm hs hl hf h
  have hnil:Region.ready .any L.toArray listed=[]:=by
   rw [List.eq_nil_iff_forall_not_mem]
   intro j hj
   obtain ⟨h0,o,ho,_⟩:=mem_ready.1 hj
   have hjl:j<L.length:=by simpa using (Array.getElem?_eq_some_iff.1 ho).1
   have:=lst_no (by omega) h0
   rw [hl] at this
   unfold lexD at this
   rw [nblt.2 (by omega)] at this;cases this
  cases fuel with
  | zero=>exact ⟨hnil,by simpa [wpOps] using h⟩
  | succ fuel=>exact ⟨fun _=>by simpa [wpOps] using h,fun j hj=>by rw [hnil] at hj;cases hj⟩
 | succ n ih =>
  intro m fuel listed a w hn hk hm hs hl hf h
  have hml:m<L.length:=by omega
  obtain ⟨fuel,rfl⟩:∃ f,fuel=f+1:=⟨fuel-1,by omega⟩
  have hready:∀ j,j∈Region.ready .any L.toArray listed→j=m:=by
   intro j hj
   obtain ⟨h0,o,ho,hall⟩:=mem_ready.1 hj
   have hjl:j<L.length:=by simpa using (Array.getElem?_eq_some_iff.1 ho).1
   have h1:=lst_no (by omega) h0
   rw [hl] at h1
   have hjm:¬j<m:=fun hlt=>by unfold lexD at h1;rw [nblt.2 hlt] at h1;cases h1
   by_cases hgt:m<j
   ·have hb:=R.serial j hjl (by omega) m hgt
    have hcl:closedD L (lst listed):=by
     rw [hl]
     intro i' o' ho' hlt e he hb'
     have:=R.back i' o' ho' e he hb'
     have:=nblt.1 hlt
     exact nblt.2 (by omega)
    have ho':L[j]?=some o:=by simpa using ho
    have hd:=anc_done R hcl ho' (fun e he hbe=>hall e he hbe) hb
    rw [hl] at hd
    have:=nblt.1 hd
    omega
   ·omega
  have hmem:m∈Region.ready .any L.toArray listed:=by
   refine mem_ready.2 ⟨lst_no' (by omega) (by rw [hl];exact nblt_no (Nat.lt_irrefl m)),L[m],by simp [hml],fun e he hb=>?_⟩
   have:=R.back m L[m] (by simp [hml]) e he hb
   have h2:lst listed e.on=true:=by rw [hl];exact nblt.2 this
   exact h2
  refine ⟨fun h0=>(by rw [h0] at hmem;cases hmem),fun j hj=>?_⟩
  rw [hready j hj]
  rw [List.range'_succ,wpOps_cons] at h
  refine wpOp_mono (fun a' w' h'=>?_) h
  exact ih (m+1) fuel _ a' w' (by omega) (by omega) (by omega) (by simpa using hs) (by rw [lst_set (by omega),hl,setD_lex]) (by omega) h'
theorem wpAny_any (R:RegOk L k) (hL:okOps N L=true) (hkl:k≤L.length) {C:(Nat→Bool)→World→Prop} {QQ:Exit→Act→World→Prop}
  (hask:∀ i o,L[i]?=some o→i<k→Asked P L C k i o (envL L vals ρ i) (vals i))
  (hend:∀ w,C (lexD k) w→wpOps P L.toArray QQ (List.range' k (L.length-k)) (act N (envL L vals ρ k)) w) :
  ∀ (n fuel:Nat) (listed:Array Bool) (w:World),listed.size=L.length→closedD L (lst listed)→(∀ j,k≤j→lst listed j=false) →
   n=((List.range k).filter fun j=>!lst listed j).length→n+(L.length-k)≤fuel→C (lst listed) w →
   wpAny P .any L.toArray QQ fuel listed (act N (envD L vals (lst listed) ρ)) w:=by
 intro n
 induction n with
 | zero =>
  intro fuel listed w hs hcl hsuf hn hf hC
  have hall:∀ j,j<k→lst listed j=true:=by
   intro j hj
   have h0:=List.eq_nil_of_length_eq_zero hn.symm
   rw [List.filter_eq_nil_iff] at h0
   simpa using h0 j (List.mem_range.2 hj)
  have he:lst listed=lexD k:=by
   funext j
   by_cases hj:j<k
   ·rw [hall j hj];exact (nblt.2 hj).symm
   ·rw [hsuf j (by omega)];exact (nblt_no hj).symm
  rw [he] at hC ⊢
  exact wpAny_serial R _ k fuel listed _ w rfl (Nat.le_refl _) hkl hs he (by omega) (hend w hC)
 | succ n ih =>
  intro fuel listed w hs hcl hsuf hn hf hC
  obtain ⟨fuel,rfl⟩:∃ f,fuel=f+1:=⟨fuel-1,by omega⟩
  -- some place below 'k' is not done; the least such is ready
  have hex:∃ j,j<k∧lst listed j=false∧∀ i,i<j→lst listed i=true:=by
   have h0:∃ j,j<k∧lst listed j=false:=by
    have:((List.range k).filter fun j=>!lst listed j)≠[]:=by
     intro h;rw [h] at hn;cases hn
    obtain ⟨j,hj⟩:=List.exists_mem_of_ne_nil _ this
    rw [List.mem_filter,List.mem_range] at hj
    exact ⟨j,hj.1,by simpa using hj.2⟩
   obtain ⟨j,hjk,hj⟩:=h0
   have key:∀ j,lst listed j=false→∃ m,m≤j∧lst listed m=false∧∀ i,i<m→lst listed i=true:=by
    intro j
    induction j using Nat.strongRecOn with
    | _ j ihj =>
     intro hj
     by_cases hx:∀ i,i<j→lst listed i=true
     ·exact ⟨j,Nat.le_refl _,hj,hx⟩
     ·obtain ⟨i,hi⟩:=Classical.not_forall.1 hx
      obtain ⟨hij,hi'⟩:=Classical.not_imp.1 hi
      obtain ⟨m,h1,h2,h3⟩:=ihj i hij (by simpa using hi')
      exact ⟨m,by omega,h2,h3⟩
   obtain ⟨m,h1,h2,h3⟩:=key j hj
   exact ⟨m,by omega,h2,h3⟩
  obtain ⟨m,hmk,hmn,hmall⟩:=hex
  have hml:m<L.length:=by omega
  have hmem:m∈Region.ready .any L.toArray listed:=by
   refine mem_ready.2 ⟨lst_no' (by omega) hmn,L[m],by simp [hml],fun e he hb=>?_⟩
   exact hmall e.on (R.back m L[m] (by simp [hml]) e he hb)
  refine ⟨fun h0=>(by rw [h0] at hmem;cases hmem),fun i hi=>?_⟩
  obtain ⟨h0,o,ho,hdeps⟩:=mem_ready.1 hi
  have ho':L[i]?=some o:=by simpa using ho
  have hil:i<L.length:=(List.getElem?_eq_some_iff.1 ho').1
  have hDi:lst listed i=false:=lst_no (by omega) h0
  have hik:i<k:=by
   rcases Nat.lt_or_ge i k with h | h
   ·exact h
   ·have:=anc_done R hcl ho' (fun e he hb=>hdeps e he hb) (R.serial i hil h m (by omega))
    rw [this] at hmn;cases hmn
  have hok:okOp N o=true:=List.all_eq_true.1 hL o (List.mem_of_getElem? ho')
  have hsame:∀ t∈names L o,envD L vals (lst listed) ρ t=envL L vals ρ i t:=fun t ht=>env_same R hcl ho' hDi (fun e he hb=>hdeps e he hb) ht
  have hA:=hask i o ho' hik (lst listed) hcl hDi (fun e he hb=>hdeps e he hb) hsuf w hC
  rw [←wanted_same hsame] at hA
  have hlater:∀ d,o.dst=some d→∀ j,i<j→dstAt L j=some d→lst listed j=false:=by
   intro d hd j hij hdj
   have hjl:=dstAt_lt hdj
   have hoj:L[j]?=some L[j]:=List.getElem?_eq_getElem hjl
   have hdj':L[j].dst=some d:=by rw [dstAt_eq,hoj] at hdj;exact hdj
   have hc:clash L o L[j]=true:=clash_of hdj' (by unfold names;simp [hd])
   rcases R.apart i o j L[j] ho' hoj (by omega) hc with ⟨hlt,_⟩ | ⟨_,hb⟩
   ·omega
   ·cases hDj:lst listed j with
    | false=>rfl
    | true=>rw [anc_closed hcl hjl hb hDj] at hDi;cases hDi
  refine wpOp_of_yields (Kw:=C (setD (lst listed) i)) hL ho' (fun hw=>?_) (fun hw=>hA.2 hw) (fun w' hC'=>?_)
  ·have h1:=hA.1 hw
   unfold yieldsTo at h1 ⊢
   rw [tm_same hsame hok]
   exact h1
  ·rw [←envD_set ho' hlater,←lst_set (by omega)]
   refine ih fuel _ w' (by simpa using hs) (by rw [lst_set (by omega)];exact closed_set hcl ho' (fun e he hb=>hdeps e he hb)) ?_ ?_ (by omega) (by rw [lst_set (by omega)];exact hC')
   ·intro j hj
    rw [lst_set (by omega)]
    have:j≠i:=by omega
    simp [setD,nbeq_ne this,hsuf j hj]
   ·rw [lst_set (by omega)]
    have key:∀ k,i<k→((List.range k).filter fun j=>!lst listed j).length=((List.range k).filter fun j=>!setD (lst listed) i j).length+1:=by
     intro k
     induction k with
     | zero=>intro h;omega
     | succ k ihk =>
      intro h
      rw [List.range_succ,List.filter_append,List.filter_append,List.length_append,List.length_append]
      by_cases hik:i=k
      ·subst hik
       have e1:((List.range i).filter fun j=>!setD (lst listed) i j)=(List.range i).filter fun j=>!lst listed j:=by
        refine List.filter_congr fun j hj=>?_
        have:j≠i:=by have:=List.mem_range.1 hj;omega
        simp [setD,nbeq_ne this]
       rw [e1]
       simp [hDi,setD]
      ·rw [ihk (by omega)]
       have:k≠i:=fun e=>hik e.symm
       have e2:([k].filter fun j=>!setD (lst listed) i j)=[k].filter fun j=>!lst listed j:=by
        refine List.filter_congr fun j hj=>?_
        have:j≠i:=by have:=List.mem_singleton.1 hj;omega
        simp [setD,nbeq_ne this]
       rw [e2]
       omega
    have:=key k hik
    omega
/-! ### The rules for use -/
def stage (C0 C1:World→Prop) (m:Nat) (D:Nat→Bool) (w:World):Prop:=bif D m then C1 w else C0 w
def VA (P:Program) (L:List Oper) (A:List Nat) (C0 C1:World→Prop) (m:Nat):(j i:Nat)→List Oper→(ρ:Env)→(K:Env→Prop)→Prop
 | 0,_,_,ρ,K=>K ρ
 | _+1,_,[],_,_=>False
 | j+1,i,o :: l,ρ,K =>
  (wantedE L ρ o=true→∃ v,
   (bif Nat.beq i m then ∀ w,C0 w→yieldsTo P ρ o w v C1
    else ((bif (A.getD i 0).testBit m then True else ∀ w,C0 w→yieldsTo P ρ o w v C0)∧(bif (A.getD m 0).testBit i then True else ∀ w,C1 w→yieldsTo P ρ o w v C1))) ∧
   VA P L A C0 C1 m j (i+1) l (put ρ o.dst v) K) ∧
  (wantedE L ρ o=false→(bif Nat.beq i m then ∀ w,C0 w→C1 w else True)∧VA P L A C0 C1 m j (i+1) l (put ρ o.dst undef) K)
def ch:Env→List Oper→List Value→Nat→Env
 | ρ,o :: l,v :: vs,x+1=>ch (put ρ o.dst v) l vs x
 | ρ,_,_,_=>ρ
theorem ch_succ (l:List Oper):∀ (ρ:Env) (vs:List Value) (x:Nat) (o:Oper) (v:Value),l[x]?=some o→vs[x]?=some v→ch ρ l vs (x+1)=put (ch ρ l vs x) o.dst v:=by
 induction l with
 | nil=>intro ρ vs x o v h;simp at h
 | cons o l ih =>
  intro ρ vs x o' v h hv
  cases vs with
  | nil=>simp at hv
  | cons v' vs =>
   cases x with
   | zero =>
    simp at h hv
    subst h;subst hv
    cases l <;> cases vs <;> rfl
   | succ x =>
    have:=ih (put ρ o.dst v') vs x o' v (by simpa using h) (by simpa using hv)
    show ch (put ρ o.dst v') l vs (x+1)=put (ch (put ρ o.dst v') l vs x) o'.dst v
    exact this
theorem ch_zero (ρ:Env) (l:List Oper) (vs:List Value):ch ρ l vs 0=ρ:=by cases l <;> cases vs <;> rfl
def Ob (P:Program) (L:List Oper) (C0 C1:World→Prop) (m i:Nat) (o:Oper) (ρ:Env) (v:Value):Prop :=
 (wantedE L ρ o=true →
   (bif Nat.beq i m then ∀ w,C0 w→yieldsTo P ρ o w v C1
    else ((bif ((ancs L []).getD i 0).testBit m then True else ∀ w,C0 w→yieldsTo P ρ o w v C0)∧(bif ((ancs L []).getD m 0).testBit i then True else ∀ w,C1 w→yieldsTo P ρ o w v C1)))) ∧
  (wantedE L ρ o=false→v=undef∧(bif Nat.beq i m then ∀ w,C0 w→C1 w else True))
theorem VA_spec {C0 C1:World→Prop} {m:Nat}:∀ (j i:Nat) (l:List Oper) (ρ:Env) (K:Env→Prop),VA P L (ancs L []) C0 C1 m j i l ρ K →
  ∃ vs:List Value,vs.length=j∧j≤l.length∧(∀ x o,x<j→l[x]?=some o→Ob P L C0 C1 m (i+x) o (ch ρ l vs x) (vs.getD x undef))∧K (ch ρ l vs j):=by
 intro j
 induction j with
 | zero=>intro i l ρ K h;exact ⟨[],rfl,by omega,by intro x o hx;omega,by rw [ch_zero];exact h⟩
 | succ j ih =>
  intro i l ρ K h
  cases l with
  | nil=>exact h.elim
  | cons o l =>
   have hv:∃ v,Ob P L C0 C1 m i o ρ v∧VA P L (ancs L []) C0 C1 m j (i+1) l (put ρ o.dst v) K:=by
    cases hw:wantedE L ρ o with
    | true =>
     obtain ⟨v,h1,h2⟩:=h.1 hw
     exact ⟨v,⟨fun _=>h1,fun h=>(by rw [hw] at h;cases h)⟩,h2⟩
    | false =>
     obtain ⟨h1,h2⟩:=h.2 hw
     exact ⟨undef,⟨fun h=>(by rw [hw] at h;cases h),fun _=>⟨rfl,h1⟩⟩,h2⟩
   obtain ⟨v,hob,hva⟩:=hv
   obtain ⟨vs,hl,hll,hobs,hK⟩:=ih (i+1) l _ K hva
   refine ⟨v :: vs,by simp [hl],by simp;omega,?_,hK⟩
   intro x o' hx ho'
   cases x with
   | zero=>simp at ho';subst ho';rw [ch_zero];exact hob
   | succ x =>
    have:=hobs x o' (by omega) (by simpa using ho')
    rw [show i+(x+1)=i+1+x from by omega]
    exact this
theorem V.regionA {id:Nat} {w:World} (hm:P.follows .mixedOrders=true) (k m:Nat) (hr:regOk L k=true) (C0 C1:World→Prop)
  (h0:C0 { w with drawn:=w.drawn+1 })
  (h:VA P L (ancs L []) C0 C1 m k 0 L ρ fun ρ'=>∀ w',(bif Nat.blt m k then C1 w' else C0 w')→VL P N L Q (L.drop k) ρ' w') :
  V P N (.region id L.toArray true) Q ρ w:=by
 refine ⟨fun ok=>?_⟩
 have okL:okOps N L=true:=by simpa [okCode] using ok
 have R:=regOk_spec hr
 obtain ⟨vs,hl,hll,hobs,hK⟩:=VA_spec k 0 L ρ _ h
 let vals:Nat→Value:=fun x=>vs.getD x undef
 have henv:∀ x,x≤k→envL L vals ρ x=ch ρ L vs x:=by
  intro x
  induction x with
  | zero=>intro _;rw [envL_zero,ch_zero]
  | succ x ih =>
   intro hx
   have ho:L[x]?=some L[x]:=List.getElem?_eq_getElem (by omega)
   rw [envL_succ ho,ih (by omega),ch_succ L ρ vs x L[x] (vs.getD x undef) ho (by simp [List.getD,List.getElem?_eq_getElem (by omega:x<vs.length)])]
 refine wp_region_any hm ?_
 have start:=wpAny_any (P:=P) (N:=N) (vals:=vals) (ρ:=ρ) R okL hll (C:=stage C0 C1 m) (QQ:=lift N Q) ?_ ?_ k L.toArray.size (Array.replicate L.toArray.size false) { w with drawn:=w.drawn+1 } (by simp) ?_ ?_ ?_ (by simp;omega) ?_
 ·have e:lst (Array.replicate L.toArray.size false)=fun _=>false:=by
   funext j;unfold lst;simp [Array.getElem?_replicate];split <;> rfl
  rw [e,envD_none] at start
  exact start
 ·intro i o ho hik D hcl hDi hdeps hsuf w' hC
  have hob:=hobs i o hik ho
  rw [Nat.zero_add,←henv i (by omega)] at hob
  have hil:i<L.length:=(List.getElem?_eq_some_iff.1 ho).1
  constructor
  ·intro hw
   have h1:=hob.1 hw
   by_cases him:i=m
   ·subst him
    rw [Nat.beq_refl,cond_true] at h1
    have hC':C0 w':=by unfold stage at hC;rw [hDi] at hC;exact hC
    have:=h1 w' hC'
    have e:stage C0 C1 i (setD D i)=C1:=by funext w;unfold stage setD;simp
    rw [e];exact this
   ·rw [nbeq_ne him,cond_false] at h1
    have e:∀ w,stage C0 C1 m (setD D i) w=bif D m then C1 w else C0 w:=by
     intro w;unfold stage setD;rw [nbeq_ne (fun e=>him e.symm),Bool.false_or]
    cases hDm:D m with
    | true =>
     have hC':C1 w':=by unfold stage at hC;rw [hDm] at hC;exact hC
     have hml:m<L.length:=by
      rcases Nat.lt_or_ge m k with h | h
      ·omega
      ·rw [hsuf m h] at hDm;cases hDm
     have hb:((ancs L []).getD m 0).testBit i=false:=by
      cases hb:((ancs L []).getD m 0).testBit i with
      | false=>rfl
      | true=>rw [anc_closed hcl hml hb hDm] at hDi;cases hDi
     have h2:=h1.2
     rw [hb,cond_false] at h2
     have e':stage C0 C1 m (setD D i)=C1:=by funext w;rw [e w,hDm];rfl
     rw [e'];exact h2 w' hC'
    | false =>
     have hC':C0 w':=by unfold stage at hC;rw [hDm] at hC;exact hC
     have hb:((ancs L []).getD i 0).testBit m=false:=by
      cases hb:((ancs L []).getD i 0).testBit m with
      | false=>rfl
      | true=>rw [anc_done R hcl ho hdeps hb] at hDm;cases hDm
     have h2:=h1.1
     rw [hb,cond_false] at h2
     have e':stage C0 C1 m (setD D i)=C0:=by funext w;rw [e w,hDm];rfl
     rw [e'];exact h2 w' hC'
  ·intro hw
   obtain ⟨h1,h2⟩:=hob.2 hw
   refine ⟨h1,?_⟩
   by_cases him:i=m
   ·subst him
    rw [Nat.beq_refl,cond_true] at h2
    have hC':C0 w':=by unfold stage at hC;rw [hDi] at hC;exact hC
    have e:stage C0 C1 i (setD D i)=C1:=by funext w;unfold stage setD;simp
    rw [e];exact h2 w' hC'
   ·have e:stage C0 C1 m (setD D i) w'=stage C0 C1 m D w':=by
     unfold stage setD;rw [nbeq_ne (fun e=>him e.symm),Bool.false_or]
    rw [e];exact hC
 ·intro w' hC
  have hC':bif Nat.blt m k then C1 w' else C0 w':=hC
  have hv:=hK w' hC'
  rw [←henv k (Nat.le_refl _)] at hv
  have hdrop:okOps N (L.drop k)=true:=by
   unfold okOps at *
   rw [List.all_eq_true] at *
   exact fun o ho=>okL o (List.mem_of_mem_drop ho)
  have:=wpList_mono (lift_mono fun _ _ _ h=>h.1) _ _ _ (hv.go okL hdrop)
  rw [←wpOps_eq_wpList (L.drop k) k (by intro j;simp)] at this
  simpa using this
 ·intro i o _ hi
  unfold lst at hi
  simp [Array.getElem?_replicate] at hi
  split at hi <;> cases hi
 ·intro j _;unfold lst;simp [Array.getElem?_replicate];split <;> rfl
 ·have:((List.range k).filter fun j=>!lst (Array.replicate L.toArray.size false) j)=List.range k:=by
   rw [List.filter_eq_self]
   intro j _;unfold lst;simp [Array.getElem?_replicate];split <;> rfl
  rw [this,List.length_range]
 ·have e:lst (Array.replicate L.toArray.size false)=fun _=>false:=by
   funext j;unfold lst;simp [Array.getElem?_replicate];split <;> rfl
  rw [e];exact h0
/-! ### No writer among those whose order is open -/
structure VQ (P:Program) (L:List Oper) (C:World→Prop) (j:Nat) (l:List Oper) (ρ:Env) (K:Env→Prop):Prop where
 go:∀ (i:Nat),j+i<L.length+1→VA P L (ancs L []) C (fun _=>False) (j+i) j i l ρ K
theorem VQ.nil {C:World→Prop} {K:Env→Prop} {l:List Oper} (h:K ρ):VQ P L C 0 l ρ K:=⟨fun _ _=>h⟩
theorem VQ.step {C:World→Prop} {K:Env→Prop} {j:Nat} {o:Oper} {l:List Oper}
  (h:(wantedE L ρ o=true→∃ v,(∀ w,C w→yieldsTo P ρ o w v C)∧VQ P L C j l (put ρ o.dst v) K)∧(wantedE L ρ o=false→VQ P L C j l (put ρ o.dst undef) K)) :
  VQ P L C (j+1) (o :: l) ρ K:=by
 refine ⟨fun i hi=>⟨fun hw=>?_,fun hw=>?_⟩⟩
 ·obtain ⟨v,h1,h2⟩:=h.1 hw
  refine ⟨v,?_,?_⟩
  ·rw [nbeq_ne (by omega:i≠j+1+i),cond_false]
   refine ⟨?_,?_⟩
   ·cases ((ancs L []).getD i 0).testBit (j+1+i) with
    | true=>exact trivial
    | false=>exact h1
   ·cases ((ancs L []).getD (j+1+i) 0).testBit i with
    | true=>exact trivial
    | false=>exact fun _ h=>h.elim
  ·have:=h2.go (i+1) (by omega)
   rw [show j+1+i=j+(i+1) from by omega];exact this
 ·refine ⟨?_,?_⟩
  ·rw [nbeq_ne (by omega:i≠j+1+i),cond_false];exact trivial
  ·have:=(h.2 hw).go (i+1) (by omega)
   rw [show j+1+i=j+(i+1) from by omega];exact this
theorem V.regionQ {id:Nat} {w:World} (hm:P.follows .mixedOrders=true) (k:Nat) (hr:regOk L k=true) (hk:Nat.ble k L.length=true) (C:World→Prop)
  (h0:C { w with drawn:=w.drawn+1 })
  (h:VQ P L C k L ρ fun ρ'=>∀ w',C w'→VL P N L Q (L.drop k) ρ' w') :
  V P N (.region id L.toArray true) Q ρ w:=by
 have hk':k≤L.length:=Nat.le_of_ble_eq_true hk
 refine V.regionA hm k k hr C (fun _=>False) h0 ?_
 have:=h.go 0 (by omega)
 rw [Nat.add_zero] at this
 have e:Nat.blt k k=false:=nblt_no (Nat.lt_irrefl k)
 rw [e]
 exact this
section
variable {C:World→Prop} {K:Env→Prop} {j:Nat} {l:List Oper} {d:Nat} {q:Op} {ty:TypeId} {p:String} {af:Array Edge} {v:Value}
theorem VQ.op (hr:∀ w,C w→run1 P ρ q ty w=.ok (.value v) w) (h:VQ P L C j l (upd ρ d v) K) :
  VQ P L C (j+1) ({ dst:=some d,op:=q,type:=ty,pos:=p,after:=af,guard:=none } :: l) ρ K :=
 VQ.step ⟨fun _=>⟨v,fun w hw=>by unfold yieldsTo;rw [run1_eq,hr w hw];exact ⟨rfl,hw⟩,h⟩,fun hw=>by simp [wantedE,Region.wanted] at hw⟩
theorem VQ.enter {f:FuncId} {args:Array Value} (hr:∀ w,run1 P ρ q ty w=.ok (.enter f args) w) (hc:∀ w,C w→Rets P f args w fun u w'=>u=v∧C w')
  (h:VQ P L C j l (upd ρ d v) K) :
  VQ P L C (j+1) ({ dst:=some d,op:=q,type:=ty,pos:=p,after:=af,guard:=none } :: l) ρ K :=
 VQ.step ⟨fun _=>⟨v,fun w hw=>by unfold yieldsTo;rw [run1_eq,hr w];exact hc w hw,h⟩,fun hw=>by simp [wantedE,Region.wanted] at hw⟩
theorem VQ.guard {i dj:Nat} {want t:Bool} {d:Option Tmp} (hd:dstAt L i=some dj) (ht:tm ρ (.tmp dj)=.bool t)
  (h1:t=want→VQ P L C (j+1) ({ dst:=d,op:=q,type:=ty,pos:=p,after:=af,guard:=none } :: l) (upd ρ dj (.bool want)) K)
  (h2:t=!want→VQ P L C j l (put (upd ρ dj (.bool !want)) d undef) K) :
  VQ P L C (j+1) ({ dst:=d,op:=q,type:=ty,pos:=p,after:=af,guard:=some (i,want) } :: l) ρ K:=by
 have hy:yl L ρ i=some t:=by
  unfold yl;rw [hd]
  have ht:ρ dj=.bool t:=ht
  simp only [ht]
 by_cases htw:t=want
 ·subst htw
  have h:=h1 rfl
  rw [upd_eq ht] at h
  refine ⟨fun x hx=>?_⟩
  have h':=h.go x hx
  refine ⟨fun _=>?_,fun hw=>?_⟩
  ·exact h'.1 (by simp [wantedE,Region.wanted])
  ·simp [wantedE,Region.wanted,hy] at hw
 ·have htw':t=!want:=by cases t <;> cases want <;> simp_all
  subst htw'
  have h:=h2 rfl
  rw [upd_eq ht] at h
  exact VQ.step ⟨fun hw=>by simp [wantedE,Region.wanted,hy] at hw,fun _=>h⟩
theorem VQ.gT {i dj:Nat} {want:Bool} {d:Option Tmp} (hd:dstAt L i=some dj) (ht:tm ρ (.tmp dj)=.bool want)
  (h1:VQ P L C (j+1) ({ dst:=d,op:=q,type:=ty,pos:=p,after:=af,guard:=none } :: l) ρ K) :
  VQ P L C (j+1) ({ dst:=d,op:=q,type:=ty,pos:=p,after:=af,guard:=some (i,want) } :: l) ρ K:=by
 refine VQ.guard hd ht (fun _=>?_) (fun h=>by cases want <;> cases h)
 rw [upd_eq ht];exact h1
theorem VQ.gF {i dj d:Nat} {want:Bool} (hd:dstAt L i=some dj) (ht:tm ρ (.tmp dj)=.bool (!want)) (h2:VQ P L C j l (upd ρ d undef) K) :
  VQ P L C (j+1) ({ dst:=some d,op:=q,type:=ty,pos:=p,after:=af,guard:=some (i,want) } :: l) ρ K:=by
 refine VQ.guard hd ht (fun h=>by cases want <;> cases h) (fun _=>?_)
 rw [upd_eq ht];exact h2
theorem VQ.gU {i dj d:Nat} {want:Bool} (hd:dstAt L i=some dj) (ht:tm ρ (.tmp dj)=undef) (h2:VQ P L C j l (upd ρ d undef) K) :
  VQ P L C (j+1) ({ dst:=some d,op:=q,type:=ty,pos:=p,after:=af,guard:=some (i,want) } :: l) ρ K:=by
 have hy:yl L ρ i=none:=by
  unfold yl;rw [hd]
  have ht:ρ dj=undef:=ht
  simp only [ht];rfl
 exact VQ.step ⟨fun hw=>by simp [wantedE,Region.wanted,hy] at hw,fun _=>h2⟩
theorem VQ.and {i dj d:Nat} {t:Bool} (hd:dstAt L i=some dj) (ht:tm ρ (.tmp dj)=.bool t)
  (h1:t=true→VQ P L C (j+1) ({ dst:=some d,op:=q,type:=ty,pos:=p,after:=af,guard:=none } :: l) (upd ρ dj (.bool true)) K)
  (h2:t=false→VQ P L C j l (upd (upd ρ dj (.bool false)) d undef) K) :
  VQ P L C (j+1) ({ dst:=some d,op:=q,type:=ty,pos:=p,after:=af,guard:=some (i,true) } :: l) ρ K:=VQ.guard hd ht h1 h2
theorem VQ.or {i dj d:Nat} {t:Bool} (hd:dstAt L i=some dj) (ht:tm ρ (.tmp dj)=.bool t)
  (h1:t=false→VQ P L C (j+1) ({ dst:=some d,op:=q,type:=ty,pos:=p,after:=af,guard:=none } :: l) (upd ρ dj (.bool false)) K)
  (h2:t=true→VQ P L C j l (upd (upd ρ dj (.bool true)) d undef) K) :
  VQ P L C (j+1) ({ dst:=some d,op:=q,type:=ty,pos:=p,after:=af,guard:=some (i,false) } :: l) ρ K:=VQ.guard hd ht h1 h2
theorem VQ.andP {i dj d:Nat} {pp:Prop} [Decidable pp] (hd:dstAt L i=some dj) (ht:tm ρ (.tmp dj)=.bool (decide pp))
  (h1:pp→VQ P L C (j+1) ({ dst:=some d,op:=q,type:=ty,pos:=p,after:=af,guard:=none } :: l) (upd ρ dj (.bool true)) K)
  (h2:¬pp→VQ P L C j l (upd (upd ρ dj (.bool false)) d undef) K) :
  VQ P L C (j+1) ({ dst:=some d,op:=q,type:=ty,pos:=p,after:=af,guard:=some (i,true) } :: l) ρ K :=
 VQ.and hd ht (fun h=>h1 (of_decide_eq_true h)) (fun h=>h2 (of_decide_eq_false h))
theorem VQ.orP {i dj d:Nat} {pp:Prop} [Decidable pp] (hd:dstAt L i=some dj) (ht:tm ρ (.tmp dj)=.bool (decide pp))
  (h1:¬pp→VQ P L C (j+1) ({ dst:=some d,op:=q,type:=ty,pos:=p,after:=af,guard:=none } :: l) (upd ρ dj (.bool false)) K)
  (h2:pp→VQ P L C j l (upd (upd ρ dj (.bool true)) d undef) K) :
  VQ P L C (j+1) ({ dst:=some d,op:=q,type:=ty,pos:=p,after:=af,guard:=some (i,false) } :: l) ρ K :=
 VQ.or hd ht (fun h=>h1 (of_decide_eq_false h)) (fun h=>h2 (of_decide_eq_true h))
end
/-! ### With one writer -/
structure VW (P:Program) (L:List Oper) (C0 C1:World→Prop) (m j i:Nat) (l:List Oper) (ρ:Env) (K:Env→Prop):Prop where
 go:VA P L (ancs L []) C0 C1 m j i l ρ K
theorem V.regionW {id:Nat} {w:World} (hm:P.follows .mixedOrders=true) (k m:Nat) (hr:regOk L k=true) (hmk:Nat.blt m k=true) (C0 C1:World→Prop)
  (h0:C0 { w with drawn:=w.drawn+1 })
  (h:VW P L C0 C1 m k 0 L ρ fun ρ'=>∀ w',C1 w'→VL P N L Q (L.drop k) ρ' w') :
  V P N (.region id L.toArray true) Q ρ w:=by
 refine V.regionA hm k m hr C0 C1 h0 ?_
 rw [hmk]
 exact h.go
section
variable {C0 C1:World→Prop} {m i:Nat} {K:Env→Prop} {j:Nat} {l:List Oper} {d:Nat} {q:Op} {ty:TypeId} {p:String} {af:Array Edge} {v:Value}
theorem VW.nil (h:K ρ):VW P L C0 C1 m 0 i l ρ K:=⟨h⟩
theorem VW.mk' {o:Oper} (hg:o.guard=none) (hi:Nat.beq i m=false) (h0:∀ w,C0 w→yieldsTo P ρ o w v C0)
  (h1:((ancs L []).getD m 0).testBit i=true∨∀ w,C1 w→yieldsTo P ρ o w v C1) (h:VW P L C0 C1 m j (i+1) l (put ρ o.dst v) K):VW P L C0 C1 m (j+1) i (o :: l) ρ K:=by
 refine ⟨⟨fun _=>⟨v,?_,h.go⟩,fun hw=>by simp [wantedE,Region.wanted,hg] at hw⟩⟩
 rw [hi,cond_false]
 refine ⟨?_,?_⟩
 ·cases ((ancs L []).getD i 0).testBit m with
  | true=>exact trivial
  | false=>exact h0
 ·rcases h1 with h1 | h1
  ·rw [h1];exact trivial
  ·cases ((ancs L []).getD m 0).testBit i with
   | true=>exact trivial
   | false=>exact h1
theorem VW.op (hr:∀ w,C0 w∨C1 w→run1 P ρ q ty w=.ok (.value v) w) (h:VW P L C0 C1 m j (i+1) l (upd ρ d v) K) (hi:Nat.beq i m=false:=by rfl) :
  VW P L C0 C1 m (j+1) i ({ dst:=some d,op:=q,type:=ty,pos:=p,after:=af,guard:=none } :: l) ρ K :=
 VW.mk' rfl hi (fun w hw=>by unfold yieldsTo;rw [run1_eq,hr w (.inl hw)];exact ⟨rfl,hw⟩) (.inr fun w hw=>by unfold yieldsTo;rw [run1_eq,hr w (.inr hw)];exact ⟨rfl,hw⟩) h
theorem VW.op0 (hr:∀ w,C0 w→run1 P ρ q ty w=.ok (.value v) w) (h:VW P L C0 C1 m j (i+1) l (upd ρ d v) K) (hi:Nat.beq i m=false:=by rfl) (hb:((ancs L []).getD m 0).testBit i=true:=by kernel_rfl) :
  VW P L C0 C1 m (j+1) i ({ dst:=some d,op:=q,type:=ty,pos:=p,after:=af,guard:=none } :: l) ρ K :=
 VW.mk' rfl hi (fun w hw=>by unfold yieldsTo;rw [run1_eq,hr w hw];exact ⟨rfl,hw⟩) (.inl hb) h
theorem VW.wr (hr:∀ w,C0 w→∃ w',run1 P ρ q ty w=.ok (.value v) w'∧C1 w') (h:VW P L C0 C1 m j (i+1) l (upd ρ d v) K) (hi:Nat.beq i m=true:=by rfl) :
  VW P L C0 C1 m (j+1) i ({ dst:=some d,op:=q,type:=ty,pos:=p,after:=af,guard:=none } :: l) ρ K:=by
 refine ⟨⟨fun _=>⟨v,?_,h.go⟩,fun hw=>by simp [wantedE,Region.wanted] at hw⟩⟩
 rw [hi,cond_true]
 intro w hw
 obtain ⟨w',h1,h2⟩:=hr w hw
 unfold yieldsTo;rw [run1_eq,h1];exact ⟨rfl,h2⟩
end
end
section
variable {P:Program} {N:Nat} {L:List Oper} {Q:Exit→Env→World→Prop} {ρ:Env}
theorem VA_frame {A:List Nat} {C0 C1:World→Prop} {m:Nat}:∀ (j i:Nat) (l:List Oper) (ρ:Env) (K:Env→Prop),VA P L A C0 C1 m j i l ρ K→VA P L A C0 C1 m j i l ρ fun ρ'=>K ρ'∧Agree l ρ ρ':=by
 intro j
 induction j with
 | zero=>intro i l ρ K h;exact ⟨h,Agree.refl _ _⟩
 | succ j ih =>
  intro i l ρ K h
  cases l with
  | nil=>exact h.elim
  | cons o l =>
   have mono:∀ (j i:Nat) (l:List Oper) (ρ:Env) (K K':Env→Prop),(∀ ρ,K ρ→K' ρ)→VA P L A C0 C1 m j i l ρ K→VA P L A C0 C1 m j i l ρ K':=by
    intro j
    induction j with
    | zero=>intro i l ρ K K' hk h;exact hk _ h
    | succ j ih =>
     intro i l ρ K K' hk h
     cases l with
     | nil=>exact h
     | cons o l =>
      refine ⟨fun hw=>?_,fun hw=>?_⟩
      ·obtain ⟨v,h1,h2⟩:=h.1 hw;exact ⟨v,h1,ih _ _ _ _ _ hk h2⟩
      ·obtain ⟨h1,h2⟩:=h.2 hw;exact ⟨h1,ih _ _ _ _ _ hk h2⟩
   refine ⟨fun hw=>?_,fun hw=>?_⟩
   ·obtain ⟨v,h1,h2⟩:=h.1 hw
    exact ⟨v,h1,mono _ _ _ _ _ _ (fun ρ' hh=>⟨hh.1,Agree.cons hh.2⟩) (ih _ _ _ _ h2)⟩
   ·obtain ⟨h1,h2⟩:=h.2 hw
    exact ⟨h1,mono _ _ _ _ _ _ (fun ρ' hh=>⟨hh.1,Agree.cons hh.2⟩) (ih _ _ _ _ h2)⟩
theorem VQ.frame {C:World→Prop} {j:Nat} {l:List Oper} {K:Env→Prop} (h:VQ P L C j l ρ K):VQ P L C j l ρ fun ρ'=>K ρ'∧Agree l ρ ρ' :=
 ⟨fun i hi=>VA_frame _ _ _ _ _ (h.go i hi)⟩
theorem V.regionQCut {id:Nat} {w:World} (hm:P.follows .mixedOrders=true) (k:Nat) (hr:regOk L k=true) (hk:Nat.beq k L.length=true) (C:World→Prop)
  (h0:C { w with drawn:=w.drawn+1 }) (W:List Nat) (d:Nat) (v:Value) (hW:dstsIn W L=true)
  (h1:VQ P L C k L ρ fun ρ'=>tm ρ' (.tmp d)=v) (h2:∀ ρg w',C w'→Q .normal (upd (scr W ρg ρ) d v) w') :
  V P N (.region id L.toArray true) Q ρ w:=by
 have hk':k=L.length:=Nat.eq_of_beq_eq_true hk
 refine V.regionQ hm k hr (by rw [hk'];exact Nat.ble_self_eq_true _) C h0 ?_
 have h:=h1.frame
 refine ⟨fun i hi=>?_⟩
 have mono:∀ (A:List Nat) (C0 C1:World→Prop) (m j i:Nat) (l:List Oper) (ρ:Env) (K K':Env→Prop),(∀ ρ,K ρ→K' ρ)→VA P L A C0 C1 m j i l ρ K→VA P L A C0 C1 m j i l ρ K':=by
  intro A C0 C1 m j
  induction j with
  | zero=>intro i l ρ K K' hk h;exact hk _ h
  | succ j ih =>
   intro i l ρ K K' hk h
   cases l with
   | nil=>exact h
   | cons o l =>
    refine ⟨fun hw=>?_,fun hw=>?_⟩
    ·obtain ⟨v,h1,h2⟩:=h.1 hw;exact ⟨v,h1,ih _ _ _ _ _ hk h2⟩
    ·obtain ⟨h1,h2⟩:=h.2 hw;exact ⟨h1,ih _ _ _ _ _ hk h2⟩
 refine mono _ _ _ _ _ _ _ _ _ _ ?_ (h.go i hi)
 rintro ρ' ⟨hd,ha⟩ w' hC
 have e:L.drop k=[]:=by rw [hk'];simp
 rw [e]
 refine VL.nil ?_
 have hd:ρ' d=v:=hd
 have:=h2 ρ' w' hC
 rw [←ha.scr hW,upd_eq hd] at this
 exact this
end
structure Mod (S:Nat→Prop) (w w':World):Prop where
 os:w'.os=w.os
 tape:w'.tape=w.tape
 output:w'.output=w.output
 size:w.heap.size≤w'.heap.size
 blk:∀ b,b<w.heap.size→¬S b→w'.heap[b]?=w.heap[b]?
def nob:Nat→Prop:=fun _=>False
def one (b:Nat):Nat→Prop:=fun k=>k=b
abbrev Ext (w w':World):Prop:=Mod nob w w'
theorem Mod.refl (S:Nat→Prop) (w:World):Mod S w w:=⟨rfl,rfl,rfl,Nat.le_refl _,fun _ _ _=>rfl⟩
theorem Mod.then {S T:Nat→Prop} {a b c:World} (h:Mod S a b) (k:Mod T b c) (hT:∀ x,x<a.heap.size→T x→S x):Mod S a c :=
 ⟨k.os.trans h.os,k.tape.trans h.tape,k.output.trans h.output,Nat.le_trans h.size k.size,
  fun x hx hS=>(k.blk x (Nat.lt_of_lt_of_le hx h.size) fun ht=>hS (hT x hx ht)).trans (h.blk x hx hS)⟩
theorem Mod.trans {S:Nat→Prop} {a b c:World} (h:Mod S a b) (k:Mod S b c):Mod S a c:=h.then k fun _ _ h=>h
theorem Mod.ext {S:Nat→Prop} {a b c:World} (h:Mod S a b) (k:Ext b c):Mod S a c:=h.then k fun _ _ h=>h.elim
theorem Mod.own {S:Nat→Prop} {a b c:World} {x:Nat} (h:Mod S a b) (k:Mod (one x) b c) (hx:a.heap.size≤x):Mod S a c :=
 h.then k fun y hy e=>by unfold one at e;omega
theorem Mod.ownA {S T:Nat→Prop} {a b c:World} (h:Mod S a b) (k:Mod T b c) (hT:∀ x,T x→a.heap.size≤x):Mod S a c :=
 h.then k fun y hy e=>by have:=hT y e;omega
theorem Mod.weaken {S T:Nat→Prop} {a b:World} (h:Mod S a b) (hT:∀ x,x<a.heap.size→S x→T x):Mod T a b :=
 ⟨h.os,h.tape,h.output,h.size,fun x hx hn=>h.blk x hx fun hs=>hn (hT x hx hs)⟩
theorem Ext.mod {S:Nat→Prop} {a b:World} (h:Ext a b):Mod S a b:=h.weaken fun _ _ e=>e.elim
theorem Ext.drawn (w:World):Ext w { w with drawn:=w.drawn+1 }:=⟨rfl,rfl,rfl,Nat.le_refl _,fun _ _ _=>rfl⟩
theorem Ext.alloc (w:World) (o:Obj):Ext w (w.alloc o) :=
 ⟨rfl,rfl,rfl,by simp,fun b hb _=>by show (w.heap.push o)[b]?=_;rw [Array.getElem?_push,if_neg (by omega)]⟩
theorem Ext.below {a b:World} (h:Ext a b):Go.RowKit.Below a.heap.size a b:=⟨h.os,h.tape,h.output,h.size,fun k hk=>h.blk k hk fun e=>e⟩
theorem Mod.below {S:Nat→Prop} {a b:World} {B:Nat} (h:Mod S a b) (hB:B≤a.heap.size) (hS:∀ x,x<B→¬S x):Go.RowKit.Below B a b :=
 ⟨h.os,h.tape,h.output,h.size,fun k hk=>h.blk k (by omega) (hS k hk)⟩
def Blk (w:World) (b:Nat) (o:Obj):Prop:=w.heap[b]?=some o
theorem Blk.lt {w:World} {b:Nat} {o:Obj} (h:Blk w b o):b<w.heap.size:=(Array.getElem?_eq_some_iff.1 h).1
theorem Blk.mod {S:Nat→Prop} {w w':World} {b:Nat} {o:Obj} (h:Blk w b o) (m:Mod S w w') (hb:¬S b):Blk w' b o:=(m.blk b h.lt hb).trans h
theorem Blk.ext {w w':World} {b:Nat} {o:Obj} (h:Blk w b o) (m:Ext w w'):Blk w' b o:=h.mod m fun e=>e
theorem Blk.cell {w:World} {b:Nat} {c:Array Value} {T:TypeId} {fr:Nat×Nat} (h:Blk w b (.cells c T fr)) (i:Nat):w.cell? ⟨b,i,none⟩=c[i]?:=by
 unfold Blk at h;simp [World.cell?,h]
theorem Blk.alloc (w:World) (o:Obj):Blk (w.alloc o) w.heap.size o:=by
 show (w.heap.push o)[w.heap.size]?=_;simp
def RowAt (w:World) (b off:Nat) (cs:List Value):Prop:=∃ c T fr,Blk w b (.cells c T fr)∧∀ i,i<cs.length→c[off+i]?=cs[i]?
theorem RowAt.mod {S:Nat→Prop} {w w':World} {b off:Nat} {cs:List Value} (h:RowAt w b off cs) (m:Mod S w w') (hb:¬S b):RowAt w' b off cs :=
 let ⟨c,T,fr,hB,hc⟩:=h;⟨c,T,fr,hB.mod m hb,hc⟩
theorem RowAt.cell {w:World} {b off:Nat} {cs:List Value} (h:RowAt w b off cs) {i:Nat} {v:Value} (hi:cs[i]?=some v):w.cell? ⟨b,off+i,none⟩=some v:=by
 obtain ⟨c,T,fr,hB,hc⟩:=h
 rw [hB.cell,hc i (List.getElem?_eq_some_iff.1 hi).1,hi]
theorem RowAt.part {w:World} {b off:Nat} {cs:List Value} (h:RowAt w b off cs) {k:Nat} {ds:List Value} (hd:∀ i,i<ds.length→cs[k+i]?=ds[i]?) (hl:k+ds.length≤cs.length):RowAt w b (off+k) ds:=by
 obtain ⟨c,T,fr,hB,hc⟩:=h
 refine ⟨c,T,fr,hB,fun i hi=>?_⟩
 rw [Nat.add_assoc,hc (k+i) (by omega),hd i hi]
theorem Blk.row {w:World} {b:Nat} {c:Array Value} {T:TypeId} {fr:Nat×Nat} (h:Blk w b (.cells c T fr)):RowAt w b 0 c.toList:=⟨c,T,fr,h,fun i _=>by simp⟩
theorem Blk.rowAt {w:World} {b:Nat} {c:Array Value} {T:TypeId} {fr:Nat×Nat} (h:Blk w b (.cells c T fr)) (off s:Nat):RowAt w b off ((c.toList.drop off).take s):=by
 refine ⟨c,T,fr,h,fun i hi=>?_⟩
 have hi':i<s:=by simp at hi;omega
 rw [List.getElem?_take,if_pos hi',List.getElem?_drop];simp
def abk:Option Addr→Nat | some ad=>ad.block | none=>0
def aoff:Option Addr→Nat | some ad=>ad.off | none=>0
def eAddr (a:Option Addr) (s i:Nat):Addr:=⟨abk a,aoff a+i*s,none⟩
def SlV (w:World) (s:Nat) (a:Option Addr) (rows:List (List Value)):Prop :=
 (∀ r∈rows,r.length=s)∧(rows=[]∨∃ b off,a=some ⟨b,off,none⟩∧RowAt w b off rows.flatten)
def aBlk (a:Option Addr):Nat→Prop:=fun k=>∃ ad,a=some ad∧ad.block=k
theorem SlV.mod {S:Nat→Prop} {w w':World} {s:Nat} {a:Option Addr} {rows:List (List Value)} (h:SlV w s a rows) (m:Mod S w w') (hb:∀ ad,a=some ad→¬S ad.block):SlV w' s a rows:=by
 refine ⟨h.1,h.2.imp id ?_⟩
 rintro ⟨b,off,rfl,hr⟩
 exact ⟨b,off,rfl,hr.mod m (hb _ rfl)⟩
theorem SlV.ext {w w':World} {s:Nat} {a:Option Addr} {rows:List (List Value)} (h:SlV w s a rows) (m:Ext w w'):SlV w' s a rows:=h.mod m fun _ _ e=>e
theorem SlV.nil (w:World) (s:Nat) (a:Option Addr):SlV w s a []:=⟨by simp,.inl rfl⟩
theorem flatten_get (rows:List (List Value)) (s:Nat) (hs:∀ r∈rows,r.length=s) (i:Nat) (r:List Value) (hr:rows[i]?=some r) (j:Nat) (hj:j<s) :
  rows.flatten[i*s+j]?=r[j]?:=by
 induction rows generalizing i with
 | nil=>simp at hr
 | cons x rows ih =>
  have hx:x.length=s:=hs x (by simp)
  cases i with
  | zero =>
   simp at hr;subst hr
   rw [List.flatten_cons,List.getElem?_append_left (by omega)];simp
  | succ i =>
   rw [List.flatten_cons,List.getElem?_append_right (by rw [hx,Nat.succ_mul];omega),hx]
   rw [show (i+1)*s+j-s=i*s+j from by rw [Nat.succ_mul];omega]
   exact ih (fun r h=>hs r (by simp [h])) i (by simpa using hr)
theorem flatten_len (rows:List (List Value)) (s:Nat) (hs:∀ r∈rows,r.length=s):rows.flatten.length=rows.length*s:=by
 induction rows with
 | nil=>simp
 | cons x rows ih =>
  rw [List.flatten_cons,List.length_append,hs x (by simp),ih fun r h=>hs r (by simp [h]),List.length_cons,Nat.succ_mul];omega
theorem SlV.row {w:World} {s:Nat} {a:Option Addr} {rows:List (List Value)} (h:SlV w s a rows) {i:Nat} {r:List Value} (hr:rows[i]?=some r) :
  ∃ b off,a=some ⟨b,off,none⟩∧RowAt w b (off+i*s) r:=by
 obtain ⟨h1,h2⟩:=h
 rcases h2 with rfl | ⟨b,off,rfl,hrow⟩
 ·simp at hr
 ·have hl:=h1 r (List.mem_of_getElem? hr)
  have hi:=(List.getElem?_eq_some_iff.1 hr).1
  refine ⟨b,off,rfl,hrow.part (fun j hj=>flatten_get rows s h1 i r hr j (by omega)) ?_⟩
  rw [flatten_len rows s h1,hl]
  calc i*s+s=(i+1)*s:=by rw [Nat.succ_mul]
   _≤rows.length*s:=Nat.mul_le_mul_right _ (by omega)
def TSl {α:Type} (enc:α→List Value) (s:Nat) (w:World) (a:Option Addr) (l:List α):Prop:=SlV w s a (l.map enc)
section
variable {α:Type} {enc:α→List Value} {s:Nat} {w w':World} {a:Option Addr} {l:List α}
theorem TSl.ext (h:TSl enc s w a l) (m:Ext w w'):TSl enc s w' a l:=SlV.ext h m
theorem TSl.mod {S:Nat→Prop} (h:TSl enc s w a l) (m:Mod S w w') (hb:∀ ad,a=some ad→¬S ad.block):TSl enc s w' a l:=SlV.mod h m hb
theorem TSl.nil (enc:α→List Value) (s:Nat) (w:World) (a:Option Addr):TSl enc s w a []:=SlV.nil w s a
theorem TSl.row [Inhabited α] (h:TSl enc s w a l) {i:Nat} (hi:i<l.length):RowAt w (eAddr a s i).block (eAddr a s i).off (enc (l.getD i default)):=by
 have hr:(l.map enc)[i]?=some (enc (l.getD i default)):=by simp [hi]
 obtain ⟨b,off,rfl,hrow⟩:=SlV.row h hr
 exact hrow
theorem TSl.some (h:TSl enc s w a l) {i:Nat} (hi:i<l.length):∃ b off,a=some ⟨b,off,none⟩:=by
 rcases h.2 with h | ⟨b,off,h,_⟩
 ·simp at h;subst h;simp at hi
 ·exact ⟨b,off,h⟩
theorem TSl.lt (h:TSl enc s w a l) {i:Nat} (hi:i<l.length):abk a<w.heap.size:=by
 rcases h.2 with h | ⟨b,off,rfl,c,T,fr,hB,_⟩
 ·simp at h;subst h;simp at hi
 ·exact hB.lt
end
def encI (n:Int):List Value:=[.int .i64 n]
abbrev IntSl (w:World) (a:Option Addr) (l:List Int):Prop:=TSl encI 1 w a l
section
variable {P:Program} {ρ:Env} {w:World} {ty t:TypeId} {x y:Operand}
namespace R
set_option maxRecDepth 100000
set_option maxHeartbeats 16000000
theorem mv {v:Value} (hx:tm ρ x=v):run1 P ρ (.move x) ty w=.ok (.value v) w:=by subst hx;rfl
theorem as {v:Value} (hx:tm ρ x=v):run1 P ρ (.assign x) ty w=.ok (.value v) w:=by subst hx;rfl
theorem mvI {k:IntKind} {a:Int} (hx:tm ρ x=.int k a):run1 P ρ (.move x) ty w=.ok (.value (.int k a)) w:=mv hx
theorem mvB {a:Bool} (hx:tm ρ x=.bool a):run1 P ρ (.move x) ty w=.ok (.value (.bool a)) w:=mv hx
theorem mvS {a:Option Addr} {n c:Nat} (hx:tm ρ x=.slice a n c):run1 P ρ (.move x) ty w=.ok (.value (.slice a n c)) w:=mv hx
theorem mvP {a:Option Addr} (hx:tm ρ x=.pointer a):run1 P ρ (.move x) ty w=.ok (.value (.pointer a)) w:=mv hx
theorem mvM {a:Option Nat} (hx:tm ρ x=.map a):run1 P ρ (.move x) ty w=.ok (.value (.map a)) w:=mv hx
theorem mvT {a:Array Value} (hx:tm ρ x=.tuple a):run1 P ρ (.move x) ty w=.ok (.value (.tuple a)) w:=mv hx
theorem mvF {f:Fn} {a b:Array Value} (hx:tm ρ x=.func f a b):run1 P ρ (.move x) ty w=.ok (.value (.func f a b)) w:=mv hx
theorem asI {k:IntKind} {a:Int} (hx:tm ρ x=.int k a):run1 P ρ (.assign x) ty w=.ok (.value (.int k a)) w:=as hx
theorem asB {a:Bool} (hx:tm ρ x=.bool a):run1 P ρ (.assign x) ty w=.ok (.value (.bool a)) w:=as hx
theorem asS {a:Option Addr} {n c:Nat} (hx:tm ρ x=.slice a n c):run1 P ρ (.assign x) ty w=.ok (.value (.slice a n c)) w:=as hx
theorem asP {a:Option Addr} (hx:tm ρ x=.pointer a):run1 P ρ (.assign x) ty w=.ok (.value (.pointer a)) w:=as hx
theorem asM {a:Option Nat} (hx:tm ρ x=.map a):run1 P ρ (.assign x) ty w=.ok (.value (.map a)) w:=as hx
theorem asG {a:ByteArray} (hx:tm ρ x=.string a):run1 P ρ (.assign x) ty w=.ok (.value (.string a)) w:=as hx
theorem asF {f:Fn} {a b:Array Value} (hx:tm ρ x=.func f a b):run1 P ρ (.assign x) ty w=.ok (.value (.func f a b)) w:=as hx
theorem pickT {a b c:Operand} {v:Value} (hc:tm ρ c=.bool true) (ha:tm ρ a=v):run1 P ρ (.pick c a b) ty w=.ok (.value v) w:=by
 simp [run1,execOp,hc,ha,asBool,bind,Sem.bind,pure]
theorem pickF {a b c:Operand} {v:Value} (hc:tm ρ c=.bool false) (hb:tm ρ b=v):run1 P ρ (.pick c a b) ty w=.ok (.value v) w:=by
 simp [run1,execOp,hc,hb,asBool,bind,Sem.bind,pure]
theorem pickTB {a b c:Operand} {v:Bool} (hc:tm ρ c=.bool true) (ha:tm ρ a=.bool v):run1 P ρ (.pick c a b) ty w=.ok (.value (.bool v)) w:=pickT hc ha
theorem pickFB {a b c:Operand} {v:Bool} (hc:tm ρ c=.bool false) (hb:tm ρ b=.bool v):run1 P ρ (.pick c a b) ty w=.ok (.value (.bool v)) w:=pickF hc hb
end R
/-! ### integers -/
theorem wrap_i64 {n:Int} (h1:-9223372036854775808≤n) (h2:n≤9223372036854775807):IntKind.i64.wrap n=n:=by
 exact IntWalk.i64_in _ ⟨h1,h2⟩
namespace R
set_option maxRecDepth 100000
set_option maxHeartbeats 16000000
section
variable {k:IntKind} {a b:Int} {ty2:TypeId}
theorem lss (hx:tm ρ x=.int k a) (hy:tm ρ y=.int k b):run1 P ρ (.binOp .lss t x y ty2) ty w=.ok (.value (.bool (decide (a<b)))) w:=by
 simp [run1,execOp,hx,hy,eqGuard,binOp,Op.intCmp,bind,Sem.bind,pure]
theorem leq (hx:tm ρ x=.int k a) (hy:tm ρ y=.int k b):run1 P ρ (.binOp .leq t x y ty2) ty w=.ok (.value (.bool (decide (a≤b)))) w:=by
 simp [run1,execOp,hx,hy,eqGuard,binOp,Op.intCmp,bind,Sem.bind,pure]
theorem gtr (hx:tm ρ x=.int k a) (hy:tm ρ y=.int k b):run1 P ρ (.binOp .gtr t x y ty2) ty w=.ok (.value (.bool (decide (b<a)))) w:=by
 simp [run1,execOp,hx,hy,eqGuard,binOp,Op.intCmp,bind,Sem.bind,pure]
theorem geq (hx:tm ρ x=.int k a) (hy:tm ρ y=.int k b):run1 P ρ (.binOp .geq t x y ty2) ty w=.ok (.value (.bool (decide (b≤a)))) w:=by
 simp [run1,execOp,hx,hy,eqGuard,binOp,Op.intCmp,bind,Sem.bind,pure]
theorem eql (hx:tm ρ x=.int k a) (hy:tm ρ y=.int k b):run1 P ρ (.binOp .eql t x y ty2) ty w=.ok (.value (.bool (decide (a=b)))) w:=by
 have:(a == b)=decide (a=b):=rfl
 simp [run1,execOp,hx,hy,eqGuard,binOp,Op.intCmp,bind,Sem.bind,pure,this]
theorem neq (hx:tm ρ x=.int k a) (hy:tm ρ y=.int k b):run1 P ρ (.binOp .neq t x y ty2) ty w=.ok (.value (.bool (decide (a≠b)))) w:=by
 have:(a != b)=decide (a≠b):=by by_cases h:a=b <;> simp [h]
 simp [run1,execOp,hx,hy,eqGuard,binOp,Op.intCmp,bind,Sem.bind,pure,this]
theorem addw (hx:tm ρ x=.int k a) (hy:tm ρ y=.int k b):run1 P ρ (.binOp .add t x y ty2) ty w=.ok (.value (.int k (k.wrap (a+b)))) w:=by
 simp [run1,execOp,hx,hy,eqGuard,binOp,Op.intArith,bind,Sem.bind,pure]
theorem subw (hx:tm ρ x=.int k a) (hy:tm ρ y=.int k b):run1 P ρ (.binOp .sub t x y ty2) ty w=.ok (.value (.int k (k.wrap (a-b)))) w:=by
 simp [run1,execOp,hx,hy,eqGuard,binOp,Op.intArith,bind,Sem.bind,pure]
theorem mulw (hx:tm ρ x=.int k a) (hy:tm ρ y=.int k b):run1 P ρ (.binOp .mul t x y ty2) ty w=.ok (.value (.int k (k.wrap (a*b)))) w:=by
 simp [run1,execOp,hx,hy,eqGuard,binOp,Op.intArith,bind,Sem.bind,pure]
theorem add (hx:tm ρ x=.int .i64 a) (hy:tm ρ y=.int .i64 b) (h1:-9223372036854775808≤a+b) (h2:a+b≤9223372036854775807) :
  run1 P ρ (.binOp .add t x y ty2) ty w=.ok (.value (.int .i64 (a+b))) w:=by rw [addw hx hy,wrap_i64 h1 h2]
theorem sub (hx:tm ρ x=.int .i64 a) (hy:tm ρ y=.int .i64 b) (h1:-9223372036854775808≤a-b) (h2:a-b≤9223372036854775807) :
  run1 P ρ (.binOp .sub t x y ty2) ty w=.ok (.value (.int .i64 (a-b))) w:=by rw [subw hx hy,wrap_i64 h1 h2]
theorem mul (hx:tm ρ x=.int .i64 a) (hy:tm ρ y=.int .i64 b) (h1:-9223372036854775808≤a*b) (h2:a*b≤9223372036854775807) :
  run1 P ρ (.binOp .mul t x y ty2) ty w=.ok (.value (.int .i64 (a*b))) w:=by rw [mulw hx hy,wrap_i64 h1 h2]
theorem quo (hx:tm ρ x=.int .i64 a) (hy:tm ρ y=.int .i64 b) (h1:0≤a) (h2:0<b) (h3:a≤9223372036854775807) :
  run1 P ρ (.binOp .quo t x y ty2) ty w=.ok (.value (.int .i64 (a / b))) w:=by
 have hb:¬b=0:=by omega
 have e:a.tdiv b=a / b:=Int.tdiv_eq_ediv_of_nonneg h1
 have h4:0≤a / b:=Int.ediv_nonneg h1 (by omega)
 have h5:a / b≤a:=Int.ediv_le_self _ h1
 have hw:IntKind.i64.wrap (a / b)=a / b:=wrap_i64 (by omega) (by omega)
 simp [run1,execOp,hx,hy,eqGuard,binOp,Op.intDiv,bind,Sem.bind,pure,hb,e,hw]
theorem neg (hx:tm ρ x=.int .i64 a) (h1:-9223372036854775808<a) (h2:a≤9223372036854775807) :
  run1 P ρ (.unOp .neg t x) ty w=.ok (.value (.int .i64 (-a))) w:=by
 have:IntKind.i64.wrap (0-a)=-a:=by rw [wrap_i64 (by omega) (by omega)];omega
 simp only [run1,execOp,hx,Op.unary,Op.intArith,bind,Sem.bind,Sem.run,pure,this]
theorem not {b:Bool} (hx:tm ρ x=.bool b):run1 P ρ (.unOp .not t x) ty w=.ok (.value (.bool (!b))) w:=by
 simp [run1,execOp,hx,Op.unary,bind,Sem.bind,pure]
theorem notD {b:Prop} [Decidable b] (hx:tm ρ x=.bool (decide b)):run1 P ρ (.unOp .not t x) ty w=.ok (.value (.bool (decide (¬b)))) w:=by
 have e:(!decide b)=decide (¬b):=by simp
 rw [not hx,e]
theorem max {ts:Array TypeId} (hx:tm ρ x=.int k a) (hy:tm ρ y=.int k b) :
  run1 P ρ (.call { callee:=.builtin .max,args:=#[x,y],argTypes:=ts }) ty w=.ok (.value (.int k (Max.max a b))) w:=by
 have e:(if a<b then b else a)=Max.max a b:=by omega
 simp [run1,execOp,hx,hy,resolve,invoke,builtin,Builtin.max_,Builtin.max2,bind,Sem.bind,pure,e]
theorem min {ts:Array TypeId} (hx:tm ρ x=.int k a) (hy:tm ρ y=.int k b) :
  run1 P ρ (.call { callee:=.builtin .min,args:=#[x,y],argTypes:=ts }) ty w=.ok (.value (.int k (Min.min a b))) w:=by
 have e:(if b<a then b else a)=Min.min a b:=by omega
 simp [run1,execOp,hx,hy,resolve,invoke,builtin,Builtin.min_,Builtin.min2,bind,Sem.bind,pure,e]
end
/-! ### slices, fields -/
theorem lenS {a:Option Addr} {n c e T:Nat} (hu:∀ w,(underlying T).run P w=.ok (.slice e) w) (hx:tm ρ x=.slice a n c) :
  run1 P ρ (.call { callee:=.builtin .len,args:=#[x],argTypes:=#[T] }) ty w=.ok (.value (.int .i64 (n:Nat))) w:=by
 simp [run1,go_sem,hx,hu,Builtin.len_,goInt]
theorem ixS {a:Option Addr} {n c e T s:Nat} {k:IntKind} {j:Int} (hu:∀ w,(underlying T).run P w=.ok (.slice e) w) (hs:∀ w,(sizeOf e).run P w=.ok s w)
  (hx:tm ρ x=.slice a n c) (hy:tm ρ y=.int k j) (h0:0≤j) (h1:j<n) (ha:∃ b off,a=some ⟨b,off,none⟩) :
  run1 P ρ (.indexAddr T x y) ty w=.ok (.value (.pointer (some (eAddr a s j.toNat)))) w:=by
 obtain ⟨b,off,rfl⟩:=ha
 simp [run1,go_sem,hx,hy,hu,hs,Instr.indexAt,h0,h1,eAddr,abk,aoff]
theorem fld {ad:Addr} {T s i:Nat} {fs:Array Field} {f:Field} (hu:∀ w,(underlying T).run P w=.ok (.struct fs) w) (hf:fs[i]?=some f)
  (hs:∀ w,(sizeOf f.type).run P w=.ok (s+1) w) (hx:tm ρ x=.pointer (some ad)) (hsp:ad.spot=none) :
  run1 P ρ (.fieldAddr T x i) ty w=.ok (.value (.pointer (some ⟨ad.block,ad.off+f.offset,none⟩))) w:=by
 obtain ⟨b,off,sp⟩:=ad
 cases hsp
 simp [run1,go_sem,hx,hu,hs,Instr.fieldAt,hf,fieldPlace]
theorem fld' {ad:Addr} {T s i o:Nat} {fs:Array Field} {f:Field} (hu:∀ w,(underlying T).run P w=.ok (.struct fs) w) (hf:fs[i]?=some f) (ho:f.offset=o)
  (hs:∀ w,(sizeOf f.type).run P w=.ok (s+1) w) (hx:tm ρ x=.pointer (some ad)) (hsp:ad.spot=none) :
  run1 P ρ (.fieldAddr T x i) ty w=.ok (.value (.pointer (some ⟨ad.block,ad.off+o,none⟩))) w:=by subst ho;exact fld hu hf hs hx hsp
theorem ld1 {ad:Addr} {v:Value} (hg:∀ w,(isAgg t).run P w=.ok false w) (hx:tm ρ x=.pointer (some ad)) (hc:w.cell? ad=some v) :
  run1 P ρ (.load t x) ty w=.ok (.value v) w:=by
 simp [run1,go_sem,hx,Instr.loadAt,loadVar,hg,hc]
end R
theorem loadCellsFrom_run {P:Program} (b off:Nat) (w:World):∀ (cs:List Value) (i:Nat) (acc:Array Value),(∀ j v,cs[j]?=some v→w.cell? ⟨b,off+(i+j),none⟩=some v) →
  (loadCellsFrom ⟨b,off,none⟩ i cs.length acc).run P w=.ok (acc++cs.toArray) w:=by
 intro cs
 induction cs with
 | nil=>intro i acc _;simp [loadCellsFrom,go_sem]
 | cons c cs ih =>
  intro i acc h
  have h0:=h 0 c (by simp)
  have:=ih (i+1) (acc.push c) (fun j v hj=>by have:=h (j+1) v (by simpa using hj);rw [show i+1+j=i+(j+1) from by omega];exact this)
  simp only [List.length_cons,loadCellsFrom]
  rw [Nat.add_zero] at h0
  simp [go_sem,h0,this]
theorem loadVar_agg {P:Program} {t:TypeId} {ad:Addr} {cs:List Value} {w:World} (hg:∀ w,(isAgg t).run P w=.ok true w) (hs:∀ w,(sizeOf t).run P w=.ok cs.length w) (hsp:ad.spot=none) (hr:RowAt w ad.block ad.off cs) :
  (loadVar t ad).run P w=.ok (.agg cs.toArray) w:=by
 obtain ⟨b,off,sp⟩:=ad
 cases hsp
 have h:=loadCellsFrom_run (P:=P) b off w cs 0 #[] (fun j v hj=>by rw [Nat.zero_add];exact hr.cell hj)
 unfold loadVar
 simp [go_sem,hg,hs,loadCells,h]
namespace R
set_option maxRecDepth 100000
set_option maxHeartbeats 16000000
theorem ldA {ad:Addr} {s:Nat} {cs:List Value} (hg:∀ w,(isAgg t).run P w=.ok true w) (hs:∀ w,(sizeOf t).run P w=.ok s w)
  (hx:tm ρ x=.pointer (some ad)) (hsp:ad.spot=none) (hr:RowAt w ad.block ad.off cs) (hl:cs.length=s) :
  run1 P ρ (.load t x) ty w=.ok (.value (.agg cs.toArray)) w:=by
 subst hl
 have:=loadVar_agg (P:=P) hg hs hsp hr
 simp only [run1,execOp,hx,Instr.loadAt,Instr.sureAddr,Sem.run_bind,Sem.run_pure,Result.andThen_ok,this]
theorem extr {i:Nat} {vs:Array Value} {v:Value} (hx:tm ρ x=.tuple vs) (hv:vs[i]?=some v):run1 P ρ (.extract x i) ty w=.ok (.value v) w:=by
 simp [run1,go_sem,hx,Instr.extract,hv]
end R
end
section
variable {P:Program} {ρ:Env} {w:World} {ty t ty2:TypeId} {x y:Operand} {a b:ByteArray}
namespace R
set_option maxRecDepth 100000
set_option maxHeartbeats 16000000
end R
end
structure ElT (P:Program) (t e s bytes:Nat) (z:Value):Prop where
 ht:P.underlying t=some (.slice e)
 hi:∃ i,P.info? e=some i∧i.zero=some z∧i.size=s∧i.bytes=bytes
 hz:z.cells.size=s
 hs:0<s
def allOne:List Value→Bool | []=>true | u :: l=>u.oneCell'&&allOne l
theorem allOne_iff (l:List Value):allOne l=true↔∀ u∈l,u.oneCell'=true:=by
 induction l with
 | nil=>simp [allOne]
 | cons u l ih=>simp [allOne,ih]
def okNe (d:Nat):Operand→Bool | .tmp s=>!Nat.beq s d | _=>true
structure OwnSl (w:World) (B:Nat) (e s:Nat) (a:Option Addr) (cap:Nat) (rows:List (List Value)):Prop where
 len:∀ r∈rows,r.length=s
 own:w.ownsRow B e s (.slice a rows.length cap) rows.length rows.flatten
theorem OwnSl.nil (w:World) (B e s:Nat):OwnSl w B e s none 0 []:=⟨by simp,World.ownsRow_nil w B e s⟩
theorem OwnSl.sl {w:World} {B e s:Nat} {a:Option Addr} {cap:Nat} {rows:List (List Value)} (h:OwnSl w B e s a cap rows):SlV w s a rows:=by
 refine ⟨h.len,?_⟩
 rcases h.own.2 with ⟨_,h0⟩ | ⟨g,cap',cur,hv,_,hg,hn,_,hc,ht⟩
 ·exact .inl (List.eq_nil_of_length_eq_zero h0)
 ·injection hv with ha _ _
  refine .inr ⟨g,0,ha,cur,e,(0,0),hg,fun i hi=>?_⟩
  rw [←ht] at hi ⊢
  rw [List.getElem?_take]
  have hl:i<rows.length*s:=by simp at hi;omega
  rw [if_pos hl];simp
theorem OwnSl.blk {w:World} {B e s:Nat} {a:Option Addr} {cap:Nat} {rows:List (List Value)} (h:OwnSl w B e s a cap rows):∀ k,aBlk a k→B≤k∧k<w.heap.size:=by
 rintro k ⟨ad,rfl,rfl⟩
 exact h.own.lt ad.block rfl
theorem Mod.grown {w w':World} {v:Value} (g:w.grownBy w' v.ownBlock) (_hd:w.drawn≤w'.drawn):Mod (fun k=>v.ownBlock=some k) w w' :=
 ⟨g.os,g.tape,g.output,g.size,fun b hb hn=>g.block b hb fun e=>hn e.symm⟩
theorem OwnSl.mod {S:Nat→Prop} {w w':World} {B e s:Nat} {a:Option Addr} {cap:Nat} {rows:List (List Value)} (h:OwnSl w B e s a cap rows) (m:Mod S w w') (hn:∀ k,aBlk a k→¬S k):OwnSl w' B e s a cap rows:=by
 refine ⟨h.len,h.own.1,?_⟩
 rcases h.own.2 with h0 | ⟨g,cap',cur,hv,hB,hg,rest⟩
 ·exact .inl h0
 ·refine .inr ⟨g,cap',cur,hv,hB,?_,rest⟩
  have hlt:=(Array.getElem?_eq_some_iff.1 hg).1
  rw [m.blk g hlt (hn g ?_)]
  ·exact hg
  ·injection hv with ha _ _
   exact ⟨_,ha,rfl⟩
theorem OwnSl.ext {w w':World} {B e s:Nat} {a:Option Addr} {cap:Nat} {rows:List (List Value)} (h:OwnSl w B e s a cap rows) (m:Ext w w'):OwnSl w' B e s a cap rows:=h.mod m fun _ _ e=>e
theorem OwnSl.weaken {w:World} {B B' e s:Nat} {a:Option Addr} {cap:Nat} {rows:List (List Value)} (h:OwnSl w B e s a cap rows) (hB:B'≤B):OwnSl w B' e s a cap rows:=by
 refine ⟨h.len,h.own.1,?_⟩
 rcases h.own.2 with h0 | ⟨g,cap',cur,hv,hb,rest⟩
 ·exact .inl h0
 ·exact .inr ⟨g,cap',cur,hv,by omega,rest⟩
theorem setRow_mod (w:World) (g:Nat) (cs:Array Value):Mod (one g) w (w.setRow g cs) :=
 ⟨rfl,rfl,rfl,by simp [World.setRow],fun b _ hn=>setRow_other w g b cs hn⟩
theorem SlV.adds {w:World} {s:Nat} {ad:Addr} {rows:List (List Value)} (h:SlV w s (some ad) rows):∀ j u,rows.flatten[j]?=some u→w.cell? (ad.add j)=some u:=by
 intro j u hu
 rcases h.2 with rfl | ⟨b,off,he,hr⟩
 ·simp at hu
 ·injection he with he
  subst he
  have hadd:(⟨b,off,none⟩:Addr).add j=⟨b,off+j,none⟩:=by unfold Addr.add;split <;> simp_all
  rw [hadd];exact hr.cell hu
theorem run_append_any {P:Program} {w:World} {B t ty e s bytes:Nat} {z:Value} (E:ElT P t e s bytes z) {a:Option Addr} {cap:Nat} {rows:List (List Value)} (hown:OwnSl w B e s a cap rows)
  {ax:Option Addr} {c:Nat} {news:List (List Value)} (hx:SlV w s ax news) (hax:ax=none→c=0) (h1:∀ r∈news,∀ u∈r,u.oneCell'=true)
  (hbytes:(rows.length+news.length)*bytes≤140737488355328) (h63:rows.length+news.length≤maxLen) (hB:B≤w.heap.size) :
  ∃ a' cap' w',(Builtin.append_ #[t,t] ty #[.slice a rows.length cap,.slice ax news.length c]).run P w=.ok (.slice a' (rows.length+news.length) cap') w' ∧
   OwnSl w' B e s a' cap' (rows++news)∧Mod (aBlk a) w w'∧(∀ k,aBlk a' k→aBlk a k∨w.heap.size≤k):=by
 obtain ⟨i,hi,hz,hsz,hby⟩:=E.hi
 have hlens:∀ r∈rows++news,r.length=s:=by
  intro r hr
  rcases List.mem_append.1 hr with h | h
  ·exact hown.len r h
  ·exact hx.1 r h
 cases ax with
 | none =>
  have hn:news=[]:=by
   rcases hx.2 with h | ⟨b,off,h,_⟩
   ·exact h
   ·cases h
  subst hn
  have hc:=hax rfl
  subst hc
  have hrun:=run_append_owned_none (P:=P) (w:=w) B t ty e i s E.ht hi _ _ _ hown.own
  refine ⟨a,cap,w,by simpa using hrun,by simpa using hown,Mod.refl _ _,fun k hk=>.inl hk⟩
 | some ad =>
  obtain ⟨v',w',hr,ho,hg,_⟩:=run_append_own (P:=P) w B t ty e i z s bytes E.ht hi hz hsz hby E.hz E.hs _ _ _ hown.own ad news.length c news.flatten
   (flatten_len news s hx.1) hx.adds (by intro u hu;obtain ⟨r,hr,hu⟩:=List.mem_flatten.1 hu;exact h1 r hr u hu) h63 hbytes hB
  have hv:∃ a' cap',v'=.slice a' (rows.length+news.length) cap':=by
   rcases ho.2 with ⟨h,h0⟩ | ⟨g,cap',cur,h,_⟩
   ·exact ⟨none,0,by rw [h,h0]⟩
   ·exact ⟨_,_,h⟩
  obtain ⟨a',cap',rfl⟩:=hv
  have hfr:(∀ k,aBlk a' k→aBlk a k∨w.heap.size≤k)∧w.drawn≤w'.drawn:=by
   clear hg ho
   have hl:=flatten_len news s hx.1
   have hsmall:rows.length+news.length≤9223372036854775807:=by simp only [maxLen] at h63;omega
   subst hsz;subst hby
   rcases hown.own.2 with ⟨h,h0⟩ | ⟨g,cap0,cur,hv,hbg,hgg,hnc,hcm,hcs,htake⟩
   ·have hr0:rows=[]:=List.eq_nil_of_length_eq_zero h0
    subst hr0
    injection h with ha _ hc
    subst ha;subst hc
    by_cases hm:news.length=0
    ·have hn:news=[]:=List.eq_nil_of_length_eq_zero hm
     subst hn
     have hrun:(Builtin.append_ #[t,t] ty #[.slice none 0 0,.slice (some ad) 0 c]).run P w=.ok (.slice none 0 0) w:=by
      simp [Builtin.append_,run_underlying E.ht,sizeOf,typeInfo,hi,Builtin.lenOf,Builtin.firstCells,loadCells,loadCellsFrom]
     simp only [List.length_nil,Nat.add_zero] at hr
     rw [hrun] at hr
     injection hr with hr hw
     injection hr with hr _ _
     refine ⟨?_,by rw [←hw];exact Nat.le_refl _⟩
     rintro k ⟨x,rfl,_⟩;cases hr
    ·have hrun:=run_append_nil (P:=P) w t ty e i z E.ht hi hz ad news.length c news.flatten hl hx.adds (by omega) (by omega) (by have hb:=hbytes;simp only [List.length_nil,Nat.zero_add] at hb;omega)
     simp only [List.length_nil,Nat.zero_add] at hr
     rw [hrun] at hr
     injection hr with hr hw
     injection hr with hr _ _
     refine ⟨?_,by rw [←hw];exact Nat.le_succ _⟩
     rintro k ⟨x,rfl,rfl⟩
     injection hr with hr
     subst hr
     exact .inr (Nat.le_refl _)
   ·injection hv with ha _ hc
    subst ha;subst hc
    by_cases hroom:rows.length+news.length≤cap
    ·have hfit:rows.length*i.size+news.flatten.length≤cur.size:=by rw [hl,hcs,←Nat.add_mul];exact Nat.mul_le_mul_right _ hroom
     have hrun:=run_append_room (P:=P) w t ty e i E.ht hi g rows.length cap cur hgg ad news.length c news.flatten hl hx.adds (by intro u hu;obtain ⟨r,hr,hu⟩:=List.mem_flatten.1 hu;exact h1 r hr u hu) hroom hfit
     rw [hrun] at hr
     injection hr with hr hw
     injection hr with hr _ _
     refine ⟨?_,by rw [←hw];exact Nat.le_refl _⟩
     rintro k ⟨x,rfl,rfl⟩
     injection hr with hr
     subst hr
     exact .inl ⟨_,rfl,rfl⟩
    ·have hrun:=run_append_grow (P:=P) w t ty e i z E.ht hi hz ⟨g,0,none⟩ rows.length cap rows.flatten (by rw [hown.own.1]) (hown.own.cells (g:=g) rfl) ad news.length c news.flatten hl hx.adds (by omega) (by omega) (growslice_fits (by omega) hbytes)
     rw [hrun] at hr
     injection hr with hr hw
     injection hr with hr _ _
     refine ⟨?_,by rw [←hw];exact Nat.le_succ _⟩
     rintro k ⟨x,rfl,rfl⟩
     injection hr with hr
     subst hr
     exact .inr (Nat.le_refl _)
  have hm:Mod (aBlk a) w w':=(Mod.grown hg hfr.2).weaken fun k _ hk=>by
   cases a with
   | none=>simp [Value.ownBlock] at hk
   | some x=>simp [Value.ownBlock] at hk;exact ⟨x,rfl,hk⟩
  refine ⟨a',cap',w',hr,⟨hlens,?_⟩,hm,hfr.1⟩
  rw [List.length_append,List.flatten_append];exact ho
section
variable {P:Program} {N:Nat} {L:List Oper} {Q:Exit→Env→World→Prop} {rest:List Oper} {ρ:Env} {w:World}
 {d:Nat} {ty t:TypeId} {p p':String} {af af':Array Edge} {x y:Operand}
theorem VL.append {B e s bytes:Nat} {z:Value} (E:ElT P t e s bytes z) {a:Option Addr} {n cap:Nat} {rows:List (List Value)} {ax:Option Addr} {m c:Nat} {news:List (List Value)}
  (hx:tm ρ x=.slice a n cap) (hn:n=rows.length) (hown:OwnSl w B e s a cap rows) (hy:tm ρ y=.slice ax m c) (hm:m=news.length) (hs:SlV w s ax news) (hax:ax=none→c=0)
  (h1:∀ r∈news,∀ u∈r,u.oneCell'=true) (hbytes:(rows.length+news.length)*bytes≤140737488355328) (h63:rows.length+news.length≤maxLen) (hB:B≤w.heap.size)
  (h:∀ a' cap' w',OwnSl w' B e s a' cap' (rows++news)→Mod (aBlk a) w w'→(∀ k,aBlk a' k→aBlk a k∨w.heap.size≤k)→VL P N L Q rest (upd ρ d (.slice a' (n+m) cap')) w') :
  VL P N L Q ({ dst:=some d,op:=.call { callee:=.builtin .append,args:=#[x,y],argTypes:=#[t,t] },type:=ty,pos:=p,after:=af,guard:=none } :: rest) ρ w:=by
 subst hn;subst hm
 obtain ⟨a',cap',w',hr,ho,hm,hf⟩:=run_append_any (ty:=ty) E hown hs hax h1 hbytes h63 hB
 refine VL.op ?_ (h a' cap' w' ho hm hf)
 simp only [run1,execOp,resolve,invoke,builtin,Sem.run_bind,Sem.run_pure,Result.andThen_ok,List.map_toArray,List.map_cons,List.map_nil,hx,hy,hr]
theorem VL.alloc {z:Value} (hz:∀ w,(zeroValue t).run P w=.ok z w)
  (h:∀ b w',b=w.heap.size→Ext w w'→Blk w' b (.cells z.cells t (0,0))→VL P N L Q rest (upd ρ d (.pointer (some ⟨b,0,none⟩))) w') :
  VL P N L Q ({ dst:=some d,op:=.alloc t,type:=ty,pos:=p,after:=af,guard:=none } :: rest) ρ w:=by
 refine VL.op (v:=.pointer (some ⟨w.heap.size,0,none⟩)) (w':=w.alloc (.cells z.cells t)) ?_ (h _ _ rfl (Ext.alloc _ _) (Blk.alloc _ _))
 simp [run1,execOp,Instr.alloc,go_sem,hz,newVar,newRow]
theorem VL.box {v:Value} (hx:tm ρ x=v)
  (h:∀ b w',b=w.heap.size→Ext w w'→Blk w' b (.cells v.cells t (0,0))→VL P N L Q rest (upd ρ d (.pointer (some ⟨b,0,none⟩))) w') :
  VL P N L Q ({ dst:=some d,op:=.box t x,type:=ty,pos:=p,after:=af,guard:=none } :: rest) ρ w:=by
 refine VL.op (v:=.pointer (some ⟨w.heap.size,0,none⟩)) (w':=w.alloc (.cells v.cells t)) ?_ (h _ _ rfl (Ext.alloc _ _) (Blk.alloc _ _))
 simp [run1,execOp,Instr.box,go_sem,newVar,newRow,hx]
def putCells (c:Array Value) (off:Nat) (vs:List Value):Array Value:=(c.toList.take off++vs++c.toList.drop (off+vs.length)).toArray
theorem storeVar_run {t:TypeId} {b off:Nat} {v:Value} {c:Array Value} {T:TypeId} (hsz:∀ w,(sizeOf t).run P w=.ok v.cells.size w) (hB:Blk w b (.cells c T (0,0))) (hfit:off+v.cells.size≤c.size)
  (h1:∀ u∈v.cells.toList,u.oneCell'=true):(storeVar t ⟨b,off,none⟩ v).run P w=.ok () (w.setRow b (putCells c off v.cells.toList)):=by
 have:=run_storeCells_at P b off T v.cells.toList 0 c w hB (by simpa using hfit) h1
 simp only [Nat.add_zero] at this
 unfold storeVar
 simp only [Sem.run_bind,hsz,Result.andThen_ok,ne_eq,not_true_eq_false,if_false,this,putCells]
theorem VL.store {ad:Addr} {v:Value} {c:Array Value} {T:TypeId} {s:Nat} (hsz:∀ w,(sizeOf t).run P w=.ok s w) (hl:v.cells.size=s) (hx:tm ρ x=.pointer (some ad)) (hsp:ad.spot=none) (hy:tm ρ y=v)
  (hB:Blk w ad.block (.cells c T (0,0))) (hfit:Nat.ble (ad.off+v.cells.size) c.size=true) (h1:allOne v.cells.toList=true)
  (h:∀ w',Mod (one ad.block) w w'→w'.heap.size=w.heap.size→Blk w' ad.block (.cells (putCells c ad.off v.cells.toList) T (0,0))→VL P N L Q rest ρ w') :
  VL P N L Q ({ dst:=none,op:=.store t x y,type:=ty,pos:=p,after:=af,guard:=none } :: rest) ρ w:=by
 subst hl
 obtain ⟨b,off,sp⟩:=ad
 cases hsp
 refine VL.op0 (w':=w.setRow b (putCells c off v.cells.toList)) ?_ (h _ (setRow_mod _ _ _) (by simp [World.setRow]) (setRow_heap w b c _ T _ hB))
 have:=storeVar_run (P:=P) (t:=t) hsz hB (Nat.le_of_ble_eq_true hfit) ((allOne_iff _).1 h1)
 simp only [run1,execOp,hx,hy,Instr.storeAt,Instr.sureAddr,Sem.run_bind,Sem.run_pure,Result.andThen_ok,this]
theorem putCells_all (c:Array Value) (vs:List Value) (h:c.size=vs.length):putCells c 0 vs=vs.toArray:=by
 unfold putCells
 simp [List.drop_eq_nil_of_le (by simp [h]:c.toList.length≤vs.length)]
theorem VL.allocSt {z v:Value} {s:Nat} (hz:∀ w,(zeroValue t).run P w=.ok z w) (hsz:∀ w,(sizeOf t).run P w=.ok s w) (hl:v.cells.size=s) (hzs:z.cells.size=s) (hy:tm ρ y=v) (hd:okNe d y=true)
  (h1:allOne v.cells.toList=true) {ty':TypeId}
  (h:∀ b w',b=w.heap.size→Ext w w'→Blk w' b (.cells v.cells t (0,0))→VL P N L Q rest (upd ρ d (.pointer (some ⟨b,0,none⟩))) w') :
  VL P N L Q ({ dst:=some d,op:=.alloc t,type:=ty,pos:=p,after:=af,guard:=none } :: { dst:=none,op:=.store t (.tmp d) y,type:=ty',pos:=p',after:=af',guard:=none } :: rest) ρ w:=by
 subst hl
 refine VL.alloc hz fun b w1 hb he hB=>?_
 have hy':tm (upd ρ d (.pointer (some ⟨b,0,none⟩))) y=v:=by
  cases y with
  | tmp s =>
   have hne:Nat.beq s d=false:=by simpa [okNe] using hd
   show upd ρ d _ s=v
   unfold upd
   rw [hne];exact hy
  | _=>exact hy
 refine VL.store (v:=v) (ad:=⟨b,0,none⟩) hsz rfl (by show upd ρ d _ d=_;unfold upd;simp) rfl hy' hB (by simp [hzs]) h1 fun w2 hm hsz2 hB2=>?_
 refine h b w2 hb ?_ ?_
 ·exact he.then hm fun k hk e=>by (have e:k=b:=e);omega
 ·rw [putCells_all _ _ (by simpa using hzs)] at hB2
  simpa using hB2
end
section
variable {P:Program} {N:Nat} {L:List Oper} {Q:Exit→Env→World→Prop} {rest:List Oper} {ρ:Env} {w:World}
 {d:Nat} {ty t:TypeId} {p:String} {af:Array Edge} {x y:Operand}
abbrev IsFn (P:Program) (f:FuncId):Prop:=∀ (args:Array Value) (w:World),(callFunc f args).run P w=.ok (.enter f args) w
theorem R.call {f:FuncId} {l:List Operand} {vs:List Value} {ts:Array TypeId} (hc:IsFn P f) (ha:l.map (tm ρ)=vs) :
  run1 P ρ (.call { callee:=.value (.func f),args:=l.toArray,argTypes:=ts }) ty w=.ok (.enter f vs.toArray) w:=by
 subst ha
 have h:=hc (l.map (tm ρ)).toArray w
 simp only [run1,execOp,resolve,tm,Deferred.ofValue,invoke,Sem.run_bind,Sem.run_pure,Result.andThen_ok,List.map_toArray]
 simpa using h
theorem VL.call {f:FuncId} {l:List Operand} {vs:List Value} {ts:Array TypeId} (hc:IsFn P f) (ha:l.map (tm ρ)=vs)
  (h:Rets P f vs.toArray w fun v w'=>VL P N L Q rest (upd ρ d v) w') :
  VL P N L Q ({ dst:=some d,op:=.call { callee:=.value (.func f),args:=l.toArray,argTypes:=ts },type:=ty,pos:=p,after:=af,guard:=none } :: rest) ρ w :=
 VL.enter (R.call hc ha) h
theorem R.callC {f:FuncId} {l:List Operand} {Fv Cv vs:List Value} {ts:Array TypeId} (hc:IsFn P f) (hx:tm ρ x=.func (.func f) Fv.toArray Cv.toArray) (ha:l.map (tm ρ)=vs) :
  run1 P ρ (.call { callee:=.value x,args:=l.toArray,argTypes:=ts }) ty w=.ok (.enter f (Fv++vs++Cv).toArray) w:=by
 subst ha
 have h:=hc (Fv++l.map (tm ρ)++Cv).toArray w
 simp only [run1,execOp,resolve,hx,Deferred.ofValue,invoke,Sem.run_bind,Sem.run_pure,Result.andThen_ok,List.map_toArray]
 simpa using h
theorem VL.callC {f:FuncId} {l:List Operand} {Fv Cv vs:List Value} {ts:Array TypeId} (hx:tm ρ x=.func (.func f) Fv.toArray Cv.toArray) (hc:IsFn P f) (ha:l.map (tm ρ)=vs)
  (h:Rets P f (Fv++vs++Cv).toArray w fun v w'=>VL P N L Q rest (upd ρ d v) w') :
  VL P N L Q ({ dst:=some d,op:=.call { callee:=.value x,args:=l.toArray,argTypes:=ts },type:=ty,pos:=p,after:=af,guard:=none } :: rest) ρ w :=
 VL.enter (R.callC hc hx ha) h
theorem R.mkFn {f:Go.Fn} {F C:List Operand} {Fv Cv:List Value} (ha:F.map (tm ρ)=Fv) (hb:C.map (tm ρ)=Cv):run1 P ρ (.makeFunc f F.toArray C.toArray) ty w=.ok (.value (.func f Fv.toArray Cv.toArray)) w:=by
 subst ha;subst hb
 simp [run1,execOp,Instr.makeFunc,go_sem]
def ovr:List Value→Nat→List Value→List Value
 | c :: cs,off+1,vs=>c :: ovr cs off vs
 | _ :: cs,0,v :: vs=>v :: ovr cs 0 vs
 | cs,0,[]=>cs
 | [],_,_=>[]
theorem ovr_eq (vs:List Value):∀ (off:Nat) (cs:List Value),off+vs.length≤cs.length→ovr cs off vs=cs.take off++vs++cs.drop (off+vs.length):=by
 intro off
 induction off with
 | zero =>
  induction vs with
  | nil=>intro cs _;cases cs <;> simp [ovr]
  | cons v vs ih =>
   intro cs h
   cases cs with
   | nil=>simp at h
   | cons c cs =>
    have:=ih cs (by simp at h ⊢;omega)
    simp only [ovr,this]
    simp
 | succ off ih =>
  intro cs h
  cases cs with
  | nil=>simp at h
  | cons c cs =>
   have:=ih cs (by simp at h ⊢;omega)
   simp only [ovr,this]
   simp [Nat.add_right_comm]
theorem foldl_put (vs:List Value):∀ (k off:Nat) (cs:Array Value),off+k+vs.length≤cs.size→((vs.zipIdx k).foldl (fun cs (p:Value×Nat)=>cs.setIfInBounds (off+p.2) p.1) cs)=(cs.toList.take (off+k)++vs++cs.toList.drop (off+k+vs.length)).toArray:=by
 induction vs with
 | nil=>intro k off cs _;simp
 | cons v vs ih =>
  intro k off cs h
  simp only [List.zipIdx_cons,List.foldl_cons]
  rw [ih (k+1) off _ (by simp at h ⊢;omega)]
  have e:=list_seg_step cs.toList (off+k) v vs (by simp at h ⊢;omega)
  simp only [Array.toList_setIfInBounds]
  congr 1
def bld (place:Nat→Option (Nat×Nat)) (cs:List Value):List (Nat×Value)→List Value
 | []=>cs
 | (i,v) :: rest=>match place i with | some (off,_)=>bld place (ovr cs off v.cells.toList) rest | none=>cs
def bldOk (place:Nat→Option (Nat×Nat)) (n:Nat):List (Nat×Value)→Bool
 | []=>true
 | (i,v) :: rest=>match place i with | some (off,size)=>Nat.beq v.cells.size size&&Nat.ble (off+v.cells.size) n&&bldOk place n rest | none=>false
theorem fill_bld (place:Nat→Option (Nat×Nat)):∀ (pv:List (Nat×Value)) (cs:Array Value),bldOk place cs.size pv=true→Instr.fill place cs pv=some (bld place cs.toList pv).toArray:=by
 intro pv
 induction pv with
 | nil=>intro cs _;simp [Instr.fill,bld]
 | cons p pv ih =>
  obtain ⟨i,v⟩:=p
  intro cs h
  simp only [bldOk] at h
  cases hp:place i with
  | none=>rw [hp] at h;cases h
  | some os =>
   obtain ⟨off,size⟩:=os
   rw [hp] at h
   simp only [Bool.and_eq_true] at h
   obtain ⟨⟨h1,h2⟩,h3⟩:=h
   have h1:=Nat.eq_of_beq_eq_true h1
   have h2:=Nat.le_of_ble_eq_true h2
   have hf:=foldl_put v.cells.toList 0 off cs (by simpa using h2)
   have hfa:(v.cells.zipIdx.foldl (fun cs (x:Value×Nat)=>cs.setIfInBounds (off+x.2) x.1) cs)=(cs.toList.take off++v.cells.toList++cs.toList.drop (off+v.cells.toList.length)).toArray:=by
    rw [←Array.foldl_toList,Array.toList_zipIdx]
    simpa using hf
   have ho:=ovr_eq v.cells.toList off cs.toList (by simpa using h2)
   rw [Instr.fill,hp]
   simp only [bld,hp]
   rw [if_neg (by simp [h1];omega)]
   have e:(v.cells.zipIdx.foldl (fun cs (c,j)=>cs.setIfInBounds (off+j) c) cs)=(ovr cs.toList off v.cells.toList).toArray:=by
    rw [ho];exact hfa
   rw [e,ih]
   have hs:(ovr cs.toList off v.cells.toList).toArray.size=cs.size:=by
    rw [ho]
    simp
    omega
   rw [hs];exact h3
def plc (l:List (Nat×Nat)) (i:Nat):Option (Nat×Nat) :=
 match l,i with
 | [],_=>none
 | p :: _,0=>some p
 | _ :: l,i+1=>plc l i
theorem plc_eq (l:List (Nat×Nat)) (i:Nat):plc l i=l[i]?:=by
 induction l generalizing i with
 | nil=>simp [plc]
 | cons p l ih=>cases i <;> simp [plc,ih]
theorem R.build {parts:List (Nat×Operand)} {z:Value} {fs:Array Field} {places:List (Nat×Nat)} (hz:∀ w,(zeroValue t).run P w=.ok z w) (hu:∀ w,(underlying t).run P w=.ok (.struct fs) w)
  (hp:∀ w,(fs.mapM (m:=Sem) fun f=>do pure (f.offset,←sizeOf f.type)).run P w=.ok places.toArray w) (hf:bldOk (plc places) z.cells.size (parts.map fun p=>(p.1,tm ρ p.2))=true) :
  run1 P ρ (.build t parts.toArray) ty w=.ok (.value (.agg (bld (plc places) z.cells.toList (parts.map fun p=>(p.1,tm ρ p.2))).toArray)) w:=by
 have h:=fill_bld (plc places) _ z.cells hf
 have e:(fun i=>places.toArray[i]?)=plc places:=by funext i;rw [plc_eq];simp
 have h':Instr.fill (fun i=>places.toArray[i]?) z.cells (parts.map fun (i,x)=>(i,tm ρ x))=some (bld (plc places) z.cells.toList (parts.map fun p=>(p.1,tm ρ p.2))).toArray:=by rw [e];exact h
 simp only [run1,execOp,Instr.build,Sem.run_bind,hz,hu,hp,Result.andThen_ok,List.map_toArray,Sem.run_pure,h']
def zrep (z:List Value):Nat→List Value
 | 0=>[]
 | n+1=>z++zrep z n
theorem zrep_len (z:List Value) (n:Nat):(zrep z n).length=n*z.length:=by
 induction n with
 | zero=>simp [zrep]
 | succ n ih=>simp [zrep,ih,Nat.succ_mul];omega
theorem zrep_get (z:List Value) (_hz:0<z.length) (n i:Nat) (hi:i<n*z.length):(zrep z n)[i]?=z[i % z.length]?:=by
 induction n generalizing i with
 | zero=>simp at hi
 | succ n ih =>
  rw [zrep]
  by_cases h:i<z.length
  ·rw [List.getElem?_append_left h,Nat.mod_eq_of_lt h]
  ·rw [List.getElem?_append_right (by omega),ih (i-z.length) (by rw [Nat.succ_mul] at hi;omega)]
   congr 1
   rw [Nat.mod_eq_sub_mod (by omega:i ≥ z.length)]
theorem zero_cells (z:Array Value) (hz:0<z.size) (n:Nat):(Array.range (n*z.size)).map (z[· % z.size]!)=(zrep z.toList n).toArray:=by
 refine Array.ext' ?_
 apply List.ext_getElem?
 intro i
 by_cases hi:i<n*z.size
 ·have h2:=zrep_get z.toList (by simpa using hz) n i (by simpa using hi)
  have hm:i % z.size<z.size:=Nat.mod_lt _ hz
  simp only [Array.toList_map,Array.toList_range,List.getElem?_map,List.getElem?_range hi,Option.map_some,h2,Array.length_toList]
  simp [hm]
 ·have hl:=zrep_len z.toList n
  rw [List.getElem?_eq_none (by simp;omega),List.getElem?_eq_none (by rw [List.toList_toArray,hl,Array.length_toList];omega)]
theorem VL.buildSl {n e s:Nat} {z:Value} {parts:List (Nat×Operand)} (hu:∀ w,(underlying t).run P w=.ok (.slice e) w) (hs:∀ w,(sizeOf e).run P w=.ok s w)
  (hz:∀ w,(zeroValue e).run P w=.ok z w) (hzs:(Nat.beq z.cells.size s&&Nat.blt 0 s)=true) (hn:Nat.ble (n*s) 16777216=true)
  (hf:bldOk (fun i=>some (i*s,s)) (n*s) (parts.map fun p=>(p.1,tm ρ p.2))=true)
  (h:∀ b w',b=w.heap.size→Ext w w'→Blk w' b (.cells (bld (fun i=>some (i*s,s)) (zrep z.cells.toList n) (parts.map fun p=>(p.1,tm ρ p.2))).toArray e (0,0))→VL P N L Q rest (upd ρ d (.slice (some ⟨b,0,none⟩) n n)) w') :
  VL P N L Q ({ dst:=some d,op:=.buildSlice t n parts.toArray,type:=ty,pos:=p,after:=af,guard:=none } :: rest) ρ w:=by
 simp only [Bool.and_eq_true] at hzs
 have hz1:=Nat.eq_of_beq_eq_true hzs.1
 have hz2:=nblt.1 hzs.2
 refine VL.op (v:=.slice (some ⟨w.heap.size,0,none⟩) n n) ?_ (h _ _ rfl (Ext.alloc _ _) (Blk.alloc _ _))
 have hn':¬(n*s > 2 ^ 24):=by have:=Nat.le_of_ble_eq_true hn;omega
 have hnew:∀ c:Array Value,(newRow e c).run P w=.ok ⟨w.heap.size,0,none⟩ (w.alloc (.cells c e)):=fun c=>by simp [newRow,go_sem]
 have hcells:(Array.range (n*s)).map (z.cells[· % z.cells.size]!)=(zrep z.cells.toList n).toArray:=by
  rw [←hz1];exact zero_cells _ (by omega) n
 have hl:(zrep z.cells.toList n).toArray.size=n*s:=by
  have:=zrep_len z.cells.toList n
  simp only [Array.length_toList,hz1] at this
  simpa using this
 have hfill:=fill_bld (fun i=>some (i*s,s)) (parts.map fun p=>(p.1,tm ρ p.2)) (zrep z.cells.toList n).toArray (by rw [hl];exact hf)
 have hfill':Instr.fill (fun i=>some (i*s,s)) (zrep z.cells.toList n).toArray (parts.map fun (i,x)=>(i,tm ρ x))=some (bld (fun i=>some (i*s,s)) (zrep z.cells.toList n) (parts.map fun p=>(p.1,tm ρ p.2))).toArray:=hfill
 simp only [run1,execOp,Instr.buildSlice,Sem.run_bind,hu,hs,Result.andThen_ok,List.map_toArray,hn',if_false,Sem.run_pure]
 by_cases h0:n*s=0
 ·have hn0:n=0:=by
   rcases Nat.mul_eq_zero.1 h0 with h | h
   ·exact h
   ·omega
  subst hn0
  simp only [h0,if_true,Sem.run_pure,Result.andThen_ok,Sem.run_bind]
  simp only [zrep] at hfill' ⊢
  simp only [show Array.range 0=#[] from rfl,Array.map_empty,hfill',Sem.run_bind,hnew,Result.andThen_ok,Sem.run_pure]
 ·simp only [h0,if_false,Sem.run_bind,hz,Sem.run_pure,Result.andThen_ok,hcells,hfill',hnew]
def cutA (a:Option Addr) (s l c:Nat):Option Addr:=if c=l then a else a.map (·.add (l*s))
theorem R.slLo {a:Option Addr} {n c e T s:Nat} {k:IntKind} {l:Int} (hu:∀ w,(underlying T).run P w=.ok (.slice e) w) (hs:∀ w,(sizeOf e).run P w=.ok s w)
  (hx:tm ρ x=.slice a n c) (hy:tm ρ y=.int k l) (h0:0≤l) (h1:l≤n) :
  run1 P ρ (.slice T x (some y) none none) ty w=.ok (.value (.slice (cutA a s l.toNat c) (n-l.toNat) (c-l.toNat))) w:=by
 simp [run1,go_sem,hx,hy,hu,hs,Instr.sliceAt,Instr.slice,Instr.sliceBounds,Instr.sliceBound,h0,h1,cutA]
theorem R.slHi {a:Option Addr} {n c e T s:Nat} {k:IntKind} {h:Int} (hu:∀ w,(underlying T).run P w=.ok (.slice e) w) (hs:∀ w,(sizeOf e).run P w=.ok s w)
  (hx:tm ρ x=.slice a n c) (hy:tm ρ y=.int k h) (h0:0≤h) (h1:h≤c) :
  run1 P ρ (.slice T x none (some y) none) ty w=.ok (.value (.slice (cutA a s 0 c) h.toNat c)) w:=by
 simp [run1,go_sem,hx,hy,hu,hs,Instr.sliceAt,Instr.slice,Instr.sliceBounds,Instr.sliceBound,h0,h1,cutA]
theorem flatten_drop (rows:List (List Value)) (s:Nat) (hs:∀ r∈rows,r.length=s) (l:Nat):(rows.drop l).flatten=rows.flatten.drop (l*s):=by
 induction l generalizing rows with
 | zero=>simp
 | succ l ih =>
  cases rows with
  | nil=>simp
  | cons r rows =>
   rw [List.drop_succ_cons,ih rows fun r h=>hs r (by simp [h]),List.flatten_cons,List.drop_append]
   have hr:=hs r (by simp)
   have h1:r.drop ((l+1)*s)=[]:=List.drop_eq_nil_of_le (by rw [hr,Nat.succ_mul];omega)
   rw [h1,List.nil_append,hr]
   congr 1
   rw [Nat.succ_mul];omega
theorem SlV.drop {w:World} {s:Nat} {a:Option Addr} {rows:List (List Value)} (h:SlV w s a rows) (l c:Nat) (hc:rows.length≤c):SlV w s (cutA a s l c) (rows.drop l):=by
 refine ⟨fun r hr=>h.1 r (List.mem_of_mem_drop hr),?_⟩
 unfold cutA
 by_cases hcl:c=l
 ·left;exact List.drop_eq_nil_of_le (by omega)
 ·rw [if_neg hcl]
  rcases h.2 with rfl | ⟨b,off,rfl,hr⟩
  ·left;simp
  ·right
   refine ⟨b,off+l*s,?_,?_⟩
   ·show some ((⟨b,off,none⟩:Addr).add (l*s))=_
    unfold Addr.add;split <;> simp_all
   ·rw [flatten_drop rows s h.1]
    by_cases hle:l*s≤rows.flatten.length
    ·refine hr.part (fun i hi=>by rw [List.getElem?_drop]) (by rw [List.length_drop];omega)
    ·rw [List.drop_eq_nil_of_le (by omega)]
     obtain ⟨cc,T,fr,hB,_⟩:=hr
     exact ⟨cc,T,fr,hB,fun i hi=>by simp at hi⟩
theorem TSl.drop {α:Type} {enc:α→List Value} {s:Nat} {w:World} {a:Option Addr} {l:List α} (h:TSl enc s w a l) (k c:Nat) (hc:l.length≤c):TSl enc s w (cutA a s k c) (l.drop k):=by
 have:=SlV.drop h k c (by simpa using hc)
 unfold TSl;rw [List.map_drop];exact this
theorem SlV.take {w:World} {s:Nat} {a:Option Addr} {rows:List (List Value)} (h:SlV w s a rows) (k c:Nat):SlV w s (cutA a s 0 c) (rows.take k):=by
 have e:cutA a s 0 c=a:=by
  unfold cutA
  split
  ·rfl
  ·rw [Nat.zero_mul]
   cases a with
   | none=>rfl
   | some ad=>show some (ad.add 0)=_;rfl
 rw [e]
 refine ⟨fun r hr=>h.1 r (List.mem_of_mem_take hr),?_⟩
 rcases h.2 with rfl | ⟨b,off,rfl,hr⟩
 ·left;simp
 ·right
  refine ⟨b,off,rfl,?_⟩
  obtain ⟨cc,T,fr,hB,hc⟩:=hr
  refine ⟨cc,T,fr,hB,fun i hi=>?_⟩
  have hf:rows.flatten=(rows.take k).flatten++(rows.drop k).flatten:=by rw [←List.flatten_append,List.take_append_drop]
  rw [hc i (by rw [hf,List.length_append];omega),hf,List.getElem?_append_left hi]
theorem TSl.take {α:Type} {enc:α→List Value} {s:Nat} {w:World} {a:Option Addr} {l:List α} (h:TSl enc s w a l) (k c:Nat):TSl enc s w (cutA a s 0 c) (l.take k):=by
 have:=SlV.take h k c
 unfold TSl;rw [List.map_take];exact this
theorem OwnSl.of_blk {B e s b:Nat} {cs:Array Value} {rows:List (List Value)} (h:Blk w b (.cells cs e (0,0))) (hB:B≤b) (hr:rows.flatten=cs.toList) (hl:∀ r∈rows,r.length=s) (hm:rows.length≤maxLen) :
  OwnSl w B e s (some ⟨b,0,none⟩) rows.length rows:=by
 have hf:=flatten_len rows s hl
 refine ⟨hl,hf,.inr ⟨b,rows.length,cs,rfl,hB,h,Nat.le_refl _,hm,?_,?_⟩⟩
 ·rw [←hf,hr];simp
 ·rw [←hf,hr,List.take_length]
def OwnT {α:Type} (enc:α→List Value) (s e B:Nat) (w:World) (a:Option Addr) (cap:Nat) (l:List α):Prop:=OwnSl w B e s a cap (l.map enc)
theorem OwnT.sl {α:Type} {enc:α→List Value} {s e B:Nat} {a:Option Addr} {cap:Nat} {l:List α} (h:OwnT enc s e B w a cap l):TSl enc s w a l:=OwnSl.sl h
theorem OwnT.ext {α:Type} {enc:α→List Value} {s e B:Nat} {w':World} {a:Option Addr} {cap:Nat} {l:List α} (h:OwnT enc s e B w a cap l) (m:Ext w w'):OwnT enc s e B w' a cap l:=OwnSl.ext h m
theorem OwnT.mod {α:Type} {enc:α→List Value} {s e B:Nat} {w':World} {a:Option Addr} {cap:Nat} {l:List α} {S:Nat→Prop} (h:OwnT enc s e B w a cap l) (m:Mod S w w') (hn:∀ k,aBlk a k→¬S k):OwnT enc s e B w' a cap l:=OwnSl.mod h m hn
theorem OwnT.nil {α:Type} (enc:α→List Value) (s e B:Nat) (w:World):OwnT enc s e B w none 0 []:=OwnSl.nil w B e s
theorem OwnT.cap {α:Type} {enc:α→List Value} {s e B:Nat} {a:Option Addr} {cap:Nat} {l:List α} (h:OwnT enc s e B w a cap l):l.length≤cap:=by
 rcases h.own.2 with ⟨hv,h0⟩ | ⟨g,c,cur,hv,_,_,hn,_⟩
 ·rw [List.length_map] at h0;omega
 ·injection hv with _ _ hc
  rw [List.length_map] at hn;omega
theorem VL.append1 {α:Type} {enc:α→List Value} {B e s bytes:Nat} {z:Value} {d2:Nat} {ty2:TypeId} {p2:String} {af2:Array Edge} {x1:Operand} (E:ElT P t e s bytes z) (hu:∀ w,(underlying t).run P w=.ok (.slice e) w) (hs:∀ w,(sizeOf e).run P w=.ok s w)
  (hz:∀ w,(zeroValue e).run P w=.ok z w) (hn:Nat.ble s 16777216=true) {a:Option Addr} {n cap:Nat} {l:List α} (u:α)
  (hx:tm ρ x=.slice a n cap) (hdx:okNe d x=true) (hl:n=l.length) (hown:OwnT enc s e B w a cap l) (hu1:(tm ρ x1).cells.toList=enc u) (hus:(enc u).length=s) (hone:allOne (enc u)=true)
  (hbytes:(l.length+1)*bytes≤140737488355328) (h63:l.length+1≤maxLen) (hB:B≤w.heap.size)
  (h:∀ a' cap' w' vt,OwnT enc s e B w' a' cap' (l++[u])→Mod (aBlk a) w w'→(∀ k,aBlk a' k→aBlk a k∨w.heap.size≤k)→VL P N L Q rest (upd (upd ρ d vt) d2 (.slice a' (n+1) cap')) w') :
  VL P N L Q ({ dst:=some d,op:=.buildSlice t 1 [(0,x1)].toArray,type:=ty,pos:=p,after:=af,guard:=none } :: { dst:=some d2,op:=.call { callee:=.builtin .append,args:=#[x,.tmp d],argTypes:=#[t,t] },type:=ty2,pos:=p2,after:=af2,guard:=none } :: rest) ρ w:=by
 subst hl
 have hzs:=E.hz
 have hs0:=E.hs
 have hcs:(tm ρ x1).cells.size=s:=by rw [←hus,←hu1];simp
 refine VL.buildSl hu hs hz ?_ (by rw [Nat.one_mul];exact hn) ?_ fun b w1 hb he hBk=>?_
 ·rw [Bool.and_eq_true]
  exact ⟨by rw [hzs];exact Nat.beq_refl _,nblt.2 hs0⟩
 ·simp only [List.map_cons,List.map_nil,bldOk,Bool.and_true,Bool.and_eq_true,Nat.zero_mul,Nat.one_mul,Nat.zero_add]
  exact ⟨by rw [hcs];exact Nat.beq_refl _,by rw [hcs];exact Nat.ble_self_eq_true _⟩
 ·have hcells:bld (fun i=>some (i*s,s)) (zrep z.cells.toList 1) ([(0,x1)].map fun p=>(p.1,tm ρ p.2))=enc u:=by
   simp only [List.map_cons,List.map_nil,bld,Nat.zero_mul,zrep,List.append_nil]
   rw [ovr_eq _ _ _ (by simp [hcs,hzs])]
   simp only [List.take_zero,List.nil_append,Nat.zero_add]
   rw [List.drop_eq_nil_of_le (by simp [hcs,hzs]),List.append_nil,hu1]
  rw [hcells] at hBk
  have hx':tm (upd ρ d (.slice (some ⟨b,0,none⟩) 1 1)) x=.slice a l.length cap:=by
   cases x with
   | tmp q =>
    have hne:Nat.beq q d=false:=by simpa [okNe] using hdx
    show upd ρ d _ q=_
    unfold upd;rw [hne];exact hx
   | _=>exact hx
  have hsrc:SlV w1 s (some ⟨b,0,none⟩) [enc u]:=⟨by simpa using hus,.inr ⟨b,0,rfl,by simpa using hBk.row⟩⟩
  refine VL.append (news:=[enc u]) (m:=1) (c:=1) E hx' (by simp) (hown.ext he) (by show upd ρ d _ d=_;unfold upd;simp) rfl hsrc (by simp) ?_ (by simpa using hbytes) (by simpa using h63) (Nat.le_trans hB he.size) fun a' cap' w2 ho hm hf=>?_
  ·intro r hr v hv
   simp at hr;subst hr
   exact (allOne_iff _).1 hone v hv
  ·refine h a' cap' w2 _ ?_ ((Ext.mod he).then hm fun k hk h=>h) ?_
   ·unfold OwnT;rw [List.map_append];exact ho
   ·intro k hk
    rcases hf k hk with h | h
    ·exact .inl h
    ·exact .inr (Nat.le_trans he.size h)
theorem OwnT.of_blk {α:Type} {enc:α→List Value} {s e B b:Nat} {w:World} {cs:Array Value} {l:List α} (h:Blk w b (.cells cs e (0,0))) (hB:B≤b) (hr:(l.map enc).flatten=cs.toList) (hl:∀ r∈l.map enc,r.length=s) (hm:l.length≤maxLen) :
  OwnT enc s e B w (some ⟨b,0,none⟩) l.length l:=by
 have:=OwnSl.of_blk (rows:=l.map enc) h hB hr hl (by simpa using hm)
 simpa [OwnT] using this
def RetsX {ι:Type} (P:Program) (f:FuncId) (args:Array Value) (w:World) (val:ι→Value) (K:ι→World→Prop):Prop:=Rets P f args w fun u w'=>∃ i,u=val i∧K i w'∧Ext w w'
theorem VL.callX {ι:Type} {f:FuncId} {l:List Operand} {vs:List Value} {ts:Array TypeId} {val:ι→Value} {K:ι→World→Prop} (hc:IsFn P f) (ha:l.map (tm ρ)=vs) (hf:RetsX P f vs.toArray w val K)
  (h:∀ i w',K i w'→Ext w w'→VL P N L Q rest (upd ρ d (val i)) w') :
  VL P N L Q ({ dst:=some d,op:=.call { callee:=.value (.func f),args:=l.toArray,argTypes:=ts },type:=ty,pos:=p,after:=af,guard:=none } :: rest) ρ w :=
 VL.call hc ha (hf.mono fun _ w' ⟨i,hv,hK,he⟩=>by rw [hv];exact h i w' hK he)
def RetsP (P:Program) (f:FuncId) (args:Array Value) (w:World) (v:Value):Prop:=Rets P f args w fun u w'=>u=v∧Ext w w'
theorem VL.callP {f:FuncId} {l:List Operand} {vs:List Value} {ts:Array TypeId} {v:Value} (hc:IsFn P f) (ha:l.map (tm ρ)=vs) (hf:RetsP P f vs.toArray w v)
  (h:∀ w',Ext w w'→VL P N L Q rest (upd ρ d v) w') :
  VL P N L Q ({ dst:=some d,op:=.call { callee:=.value (.func f),args:=l.toArray,argTypes:=ts },type:=ty,pos:=p,after:=af,guard:=none } :: rest) ρ w :=
 VL.call hc ha (hf.mono fun _ w' ⟨hv,he⟩=>by rw [hv];exact h w' he)
theorem VL.callCP {f:FuncId} {l:List Operand} {Fv Cv vs:List Value} {ts:Array TypeId} {v:Value} (hx:tm ρ x=.func (.func f) Fv.toArray Cv.toArray) (hc:IsFn P f) (ha:l.map (tm ρ)=vs) (hf:RetsP P f (Fv++vs++Cv).toArray w v)
  (h:∀ w',Ext w w'→VL P N L Q rest (upd ρ d v) w') :
  VL P N L Q ({ dst:=some d,op:=.call { callee:=.value x,args:=l.toArray,argTypes:=ts },type:=ty,pos:=p,after:=af,guard:=none } :: rest) ρ w :=
 VL.enter (R.callC hc hx ha) (hf.mono fun _ w' ⟨hv,he⟩=>by rw [hv];exact h w' he)
theorem VQ.callCP {C:World→Prop} {K:Env→Prop} {j:Nat} {f:FuncId} {l:List Operand} {Fv Cv vs:List Value} {ts:Array TypeId} {v:Value} (hC:∀ w w',C w→Ext w w'→C w') (hx:tm ρ x=.func (.func f) Fv.toArray Cv.toArray) (hc:IsFn P f) (ha:l.map (tm ρ)=vs) (hf:∀ w,C w→RetsP P f (Fv++vs++Cv).toArray w v)
  (h:VQ P L C j rest (upd ρ d v) K) :
  VQ P L C (j+1) ({ dst:=some d,op:=.call { callee:=.value x,args:=l.toArray,argTypes:=ts },type:=ty,pos:=p,after:=af,guard:=none } :: rest) ρ K :=
 VQ.enter (fun _w=>R.callC hc hx ha) (fun w hw=>(hf w hw).mono fun _ w' ⟨hv,he⟩=>⟨hv,hC w w' hw he⟩) h
theorem VQ.callP {C:World→Prop} {K:Env→Prop} {j:Nat} {f:FuncId} {l:List Operand} {vs:List Value} {ts:Array TypeId} {v:Value} (hC:∀ w w',C w→Ext w w'→C w') (hc:IsFn P f) (ha:l.map (tm ρ)=vs) (hf:∀ w,C w→RetsP P f vs.toArray w v)
  (h:VQ P L C j rest (upd ρ d v) K) :
  VQ P L C (j+1) ({ dst:=some d,op:=.call { callee:=.value (.func f),args:=l.toArray,argTypes:=ts },type:=ty,pos:=p,after:=af,guard:=none } :: rest) ρ K :=
 VQ.enter (fun _w=>R.call hc ha) (fun w hw=>(hf w hw).mono fun _ w' ⟨hv,he⟩=>⟨hv,hC w w' hw he⟩) h
theorem VL.allocSt1 {z v:Value} {d2:Nat} {x2:Operand} {ty2 ty':TypeId} {p2 p':String} {af2 af':Array Edge} {v2:Value} {s:Nat} (hz:∀ w,(zeroValue t).run P w=.ok z w) (hsz:∀ w,(sizeOf t).run P w=.ok s w) (hl:v.cells.size=s) (hzs:z.cells.size=s) (hx2:tm ρ x2=v2) (hd2:okNe d x2=true) (hy:tm ρ y=v) (hd:okNe d y=true) (hd':okNe d2 y=true) (hdd:Nat.beq d d2=false)
  (h1:allOne v.cells.toList=true)
  (h:∀ b w',b=w.heap.size→Ext w w'→Blk w' b (.cells v.cells t (0,0))→VL P N L Q rest (upd (upd ρ d (.pointer (some ⟨b,0,none⟩))) d2 v2) w') :
  VL P N L Q ({ dst:=some d,op:=.alloc t,type:=ty,pos:=p,after:=af,guard:=none } :: { dst:=some d2,op:=.assign x2,type:=ty2,pos:=p2,after:=af2,guard:=none } :: { dst:=none,op:=.store t (.tmp d) y,type:=ty',pos:=p',after:=af',guard:=none } :: rest) ρ w:=by
 subst hl
 have look:∀ (ρ:Env) (d:Nat) (u:Value) (y:Operand),okNe d y=true→tm (upd ρ d u) y=tm ρ y:=by
  intro ρ d u y hy
  cases y with
  | tmp s =>
   have hne:Nat.beq s d=false:=by simpa [okNe] using hy
   show upd ρ d _ s=ρ s
   unfold upd
   rw [hne];rfl
  | _=>rfl
 refine VL.alloc hz fun b w1 hb he hB=>?_
 refine VL.op (R.as (v:=v2) (by rw [look _ _ _ _ hd2];exact hx2)) ?_
 refine VL.store (v:=v) (ad:=⟨b,0,none⟩) hsz rfl (by show upd _ d2 _ d=_;unfold upd;simp [hdd]) rfl (by rw [look _ _ _ _ hd',look _ _ _ _ hd];exact hy) hB (by simp [hzs]) h1 fun w2 hm hsz2 hB2=>?_
 refine h b w2 hb ?_ ?_
 ·exact he.then hm fun k hk e=>by (have e:k=b:=e);omega
 ·rw [putCells_all _ _ (by simpa using hzs)] at hB2
  simpa using hB2
theorem fretC {fn:Func} {R:Value→World→Prop} {a s:Nat} {ad:Addr} {cs:List Value} (hr:fn.results=#[.cell a t]) (ha:Nat.blt a N=true) (hx:tm ρ (.tmp a)=.pointer (some ad)) (hg:∀ w,(isAgg t).run P w=.ok true w) (hs:∀ w,(sizeOf t).run P w=.ok s w)
  (hsp:ad.spot=none) (hrow:RowAt w ad.block ad.off cs) (hl:cs.length=s) (h:R (.agg cs.toArray) w):fpost P N fn R .ret ρ w:=by
 subst hl
 refine ⟨⟨.agg cs.toArray,?_,h⟩⟩
 have hx:ρ a=.pointer (some ad):=hx
 have e:=tmps_getD (ρ:=ρ) ha
 rw [hx] at e
 have hl:=loadVar_agg (P:=P) hg hs hsp hrow
 simp only [results,hr]
 simp at e
 simp [e,asAddr,hl]
end
section
variable {P:Program} {N:Nat} {L:List Oper} {Q:Exit→Env→World→Prop} {l:List Oper} {ρ:Env} {w:World} {d:Tmp} {t u s:TypeId} {p:String} {af:Array Edge} {x y z:Operand} {k:IntKind} {a b:Int} {c e:Bool} {o:Option Addr} {n m:Nat}
theorem oI (hx:tm ρ x=.int k a) (h:VL P N L Q l (upd ρ d (.int k a)) w):VL P N L Q ({dst:=some d,op:=.move x,type:=s,pos:=p,after:=af,guard:=none}::l) ρ w:=VL.op (R.mvI hx) h
theorem oJ (hx:tm ρ x=.int k a) (h:VL P N L Q l (upd ρ d (.int k a)) w):VL P N L Q ({dst:=some d,op:=.assign x,type:=s,pos:=p,after:=af,guard:=none}::l) ρ w:=VL.op (R.asI hx) h
theorem oA (hx:tm ρ x=.bool c) (h:VL P N L Q l (upd ρ d (.bool c)) w):VL P N L Q ({dst:=some d,op:=.assign x,type:=s,pos:=p,after:=af,guard:=none}::l) ρ w:=VL.op (R.asB hx) h
theorem oB (hx:tm ρ x=.bool c) (h:VL P N L Q l (upd ρ d (.bool c)) w):VL P N L Q ({dst:=some d,op:=.move x,type:=s,pos:=p,after:=af,guard:=none}::l) ρ w:=VL.op (R.mvB hx) h
theorem oS (hx:tm ρ x=.slice o n m) (h:VL P N L Q l (upd ρ d (.slice o n m)) w):VL P N L Q ({dst:=some d,op:=.move x,type:=s,pos:=p,after:=af,guard:=none}::l) ρ w:=VL.op (R.mvS hx) h
theorem oT (hx:tm ρ x=.slice o n m) (h:VL P N L Q l (upd ρ d (.slice o n m)) w):VL P N L Q ({dst:=some d,op:=.assign x,type:=s,pos:=p,after:=af,guard:=none}::l) ρ w:=VL.op (R.asS hx) h
theorem oP (hx:tm ρ x=.bool true) (hy:tm ρ y=.bool c) (h:VL P N L Q l (upd ρ d (.bool c)) w):VL P N L Q ({dst:=some d,op:=.pick x y z,type:=s,pos:=p,after:=af,guard:=none}::l) ρ w:=VL.op (R.pickTB hx hy) h
theorem oQ (hx:tm ρ x=.bool false) (hy:tm ρ z=.bool c) (h:VL P N L Q l (upd ρ d (.bool c)) w):VL P N L Q ({dst:=some d,op:=.pick x y z,type:=s,pos:=p,after:=af,guard:=none}::l) ρ w:=VL.op (R.pickFB hx hy) h
theorem oL (hx:tm ρ x=.int k a) (hy:tm ρ y=.int k b) (h:VL P N L Q l (upd ρ d (.bool (decide (a<b)))) w):VL P N L Q ({dst:=some d,op:=.binOp .lss t x y u,type:=s,pos:=p,after:=af,guard:=none}::l) ρ w:=VL.op (R.lss hx hy) h
abbrev Vr:=@V.region
abbrev Vs:=@V.seq
abbrev Vn:=@VL.nil
abbrev Vo:=@VL.op
end
section
variable {P:Program} {N:Nat} {L:List Oper} {Q:Exit→Env→World→Prop} {l:List Oper} {ρ:Env} {w:World} {d:Tmp} {t u s T:TypeId} {p:String} {af:Array Edge} {x y z:Operand} {k:IntKind} {a b:Int} {c e:Bool} {o:Option Addr} {n m S:Nat} {q:Op} {C C0 C1:World→Prop} {K:Env→Prop} {j i dj:Nat} {dd:Option Tmp} {g:Bool}
theorem oD (hx:tm ρ x=.int .i64 a) (hy:tm ρ y=.int .i64 b) (h:VL P N L Q l (upd ρ d (.int .i64 (a+b))) w) (h1:-9223372036854775808≤a+b:=by omega) (h2:a+b≤9223372036854775807:=by omega):VL P N L Q ({dst:=some d,op:=.binOp .add t x y u,type:=s,pos:=p,after:=af,guard:=none}::l) ρ w:=VL.op (R.add hx hy h1 h2) h
theorem qI (hx:tm ρ x=.int k a) (h:VQ P L C j l (upd ρ d (.int k a)) K):VQ P L C (j+1) ({dst:=some d,op:=.move x,type:=s,pos:=p,after:=af,guard:=none}::l) ρ K:=VQ.op (fun _ _=>R.mvI hx) h
theorem qS (hx:tm ρ x=.slice o n m) (h:VQ P L C j l (upd ρ d (.slice o n m)) K):VQ P L C (j+1) ({dst:=some d,op:=.move x,type:=s,pos:=p,after:=af,guard:=none}::l) ρ K:=VQ.op (fun _ _=>R.mvS hx) h
theorem wI (hx:tm ρ x=.int k a) (h:VW P L C0 C1 n j (i+1) l (upd ρ d (.int k a)) K) (hi:Nat.beq i n=false:=by rfl):VW P L C0 C1 n (j+1) i ({dst:=some d,op:=.move x,type:=s,pos:=p,after:=af,guard:=none}::l) ρ K:=VW.op (fun _ _=>R.mvI hx) h hi
theorem wS {sa:Option Addr} {sn sm:Nat} (hx:tm ρ x=.slice sa sn sm) (h:VW P L C0 C1 n j (i+1) l (upd ρ d (.slice sa sn sm)) K) (hi:Nat.beq i n=false:=by rfl):VW P L C0 C1 n (j+1) i ({dst:=some d,op:=.move x,type:=s,pos:=p,after:=af,guard:=none}::l) ρ K:=VW.op (fun _ _=>R.mvS hx) h hi
theorem lF (h:VL P N L Q l (upd ρ d undef) w) (h1:dstAt L i=some dj:=by exact rfl) (h2:tm ρ (.tmp dj)=.bool (!g):=by exact rfl):VL P N L Q ({dst:=some d,op:=q,type:=s,pos:=p,after:=af,guard:=some (i,g)}::l) ρ w:=VL.gF h1 h2 h
theorem qF (h:VQ P L C j l (upd ρ d undef) K) (h1:dstAt L i=some dj:=by exact rfl) (h2:tm ρ (.tmp dj)=.bool (!g):=by exact rfl):VQ P L C (j+1) ({dst:=some d,op:=q,type:=s,pos:=p,after:=af,guard:=some (i,g)}::l) ρ K:=VQ.gF h1 h2 h
theorem lT (h:VL P N L Q ({dst:=dd,op:=q,type:=s,pos:=p,after:=af,guard:=none}::l) ρ w) (h1:dstAt L i=some dj:=by exact rfl) (h2:tm ρ (.tmp dj)=.bool g:=by exact rfl):VL P N L Q ({dst:=dd,op:=q,type:=s,pos:=p,after:=af,guard:=some (i,g)}::l) ρ w:=VL.gT h1 h2 h
theorem qT (h:VQ P L C (j+1) ({dst:=dd,op:=q,type:=s,pos:=p,after:=af,guard:=none}::l) ρ K) (h1:dstAt L i=some dj:=by exact rfl) (h2:tm ρ (.tmp dj)=.bool g:=by exact rfl):VQ P L C (j+1) ({dst:=dd,op:=q,type:=s,pos:=p,after:=af,guard:=some (i,g)}::l) ρ K:=VQ.gT h1 h2 h
theorem iX (hu:∀ w,(underlying T).run P w=.ok (.slice u) w) (hs:∀ w,(sizeOf u).run P w=.ok S w) (hx:tm ρ x=.slice o n m) (hy:tm ρ y=.int k b) (ha:∃ b off,o=some ⟨b,off,none⟩) (h0:0≤b:=by omega) (h1:b<n:=by omega):run1 P ρ (.indexAddr T x y) t w=.ok (.value (.pointer (some (eAddr o S b.toNat)))) w:=R.ixS hu hs hx hy h0 h1 ha
theorem tB {fn:Func} {R:Value→World→Prop} {r:Nat} (hr:fn.results=#[.tmp r]) (ht:Nat.blt r N=true) (hv:tm ρ (.tmp r)=.bool c) (h:R (.bool c) w):fpost P N fn R .ret ρ w:=fret1 hr ht hv h
theorem eN {f:FuncId} {fn:Func} {cc:Code} {args:List Value} {R:Value→World→Prop} (hf:P.funcs[f]?=some fn) (hb:fn.body=some cc) (hN:fn.ntmps=N) (h:V P N cc (fpost P N fn R) (env0 args) w) (hok:okCode N cc=true:=by kernel_rfl) (hl:Nat.ble args.length N=true:=by rfl):Rets P f args.toArray w R:=enter hf hb hN hok hl h
theorem RowAt.c0a {bb off:Nat} {cs:List Value} {v:Value} (h:RowAt w bb off cs) (hi:cs[0]?=some v):w.cell? ⟨bb,off+0,none⟩=some v:=h.cell hi
abbrev Vb:=@V.block
abbrev Vd:=@V.condP
abbrev Vk:=@V.skip
abbrev Ve:=@V.exit
abbrev Vp:=@VL.callP
abbrev Vt:=@V.ret
abbrev Vl:=@V.loop
abbrev Vg:=@V.condT
abbrev Vh:=@V.cond
abbrev Vj:=@VQ.nil
abbrev Vq:=@VQ.op
abbrev rla:=@R.ld1
abbrev pA (b:Nat):Value:=.pointer (some ⟨b,0,none⟩)
end
end Go.Vc
