/- Own library: functions that defer a call. -/
import Derived.Test.YtjocoefpnboccaaGreatDoorXVcLaw2
import Derived.Defers
namespace Go.Vc
set_option maxHeartbeats 16000000
set_option maxRecDepth 100000
def callsF (P:Program) (o:Oper):Prop:=∃ f l ts,o.op=.call { callee:=.value (.func f),args:=l,argTypes:=ts }∧IsFn P f
theorem calls_no {P:Program} {o:Oper} (h:callsF P o) (a:Act) (w:World):∀ d w',(execOp a.eval o).run P w≠.ok (.defer d) w':=by
 obtain ⟨f,l,ts,ho,hf⟩:=h
 intro d w' e
 unfold execOp at e
 rw [ho] at e
 have h2:=hf (#[]++l.map a.eval++#[]) w
 simp only [resolve,Act.eval,Deferred.ofValue,invoke,Sem.run_bind,Sem.run_pure,Result.andThen_ok] at e
 rw [h2] at e
 cases e
def okD (P:Program) (o:Oper):Prop:=plainOp o=true∨callsF P o
theorem list_defers2 {P:Program} {ops:Array Oper} {ds:List Deferred} {Q:Exit→Act→World→Prop}:∀ (L:List Oper) (t:Array Value) (w:World),(∀ o∈L,okD P o) →
  wpList P ops (fun e a w=>Q e { a with defers:=ds } w) L { tmps:=t,defers:=[] } w→wpList P ops Q L { tmps:=t,defers:=ds } w
 | [],_,_,_,h=>h
 | o :: L,t,w,hp,h=>by
  have ih:=list_defers2 (P:=P) (ops:=ops) (ds:=ds) (Q:=Q) L
  have hpL:∀ o∈L,okD P o:=fun x hx=>hp x (by simp [hx])
  have ev:({ tmps:=t,defers:=ds }:Act).eval=({ tmps:=t,defers:=[] }:Act).eval:=by funext x;cases x <;> rfl
  have hno:∀ d w',(execOp ({ tmps:=t,defers:=[] }:Act).eval o).run P w≠.ok (.defer d) w':=by
   rcases hp o (by simp) with h1 | h1
   ·exact plain_no h1 _ _ _
   ·exact calls_no h1 _ _
  unfold wpList at h ⊢
  split at h
  ·rename_i hw
   rw [if_pos hw]
   rcases h with h | ⟨h1,x,y,h2⟩
   ·left
    unfold Oper.wp at h ⊢
    rw [ev]
    exact upon_defers (fun t w hk=>ih t w hpL hk) hno h
   ·right
    refine ⟨?_,_,y,h2⟩
    unfold Oper.asks at h1 ⊢
    rw [ev];exact h1
  ·rename_i hw
   rw [if_neg hw]
   have:=ih (({ tmps:=t,defers:=ds }:Act).put o.dst undef).tmps w hpL
   cases hd:o.dst with
   | none=>rw [hd] at h this;exact this h
   | some d=>rw [hd] at h this;exact this h
structure DW (P:Program) (N:Nat) (c:Code) (QQ:Exit→Act→World→Prop) (ds:List Deferred) (ρ:Env) (w:World):Prop where
 go:c.wp P QQ { act N ρ with defers:=ds } w
structure DL (P:Program) (N:Nat) (L:List Oper) (QQ:Exit→Act→World→Prop) (l:List Oper) (ρ:Env) (w:World):Prop where
 go:okOps N L=true→okOps N l=true→wpList P L.toArray QQ l (act N ρ) w
def nxD (P:Program) (N:Nat) (y:Code) (QQ:Exit→Act→World→Prop):Exit→Env→World→Prop
 | .normal,ρ,w=>DW P N y QQ [] ρ w
 | e,ρ,w=>QQ e (act N ρ) w
section
variable {P:Program} {N:Nat} {QQ:Exit→Act→World→Prop} {ρ:Env} {w:World} {ds:List Deferred}
theorem DW.seqV {x y:Code} (ok:okCode N x=true) (h:V P N x (nxD P N y QQ) ρ w):DW P N (.seq x y) QQ [] ρ w :=
 ⟨wp_seq (wp_mono (h.go ok) (by
  rintro e a w' ⟨ρ',rfl,hQ⟩
  cases e with
  | normal=>exact hQ.go
  | _=>exact hQ))⟩
theorem DW.retD {id:Nat} {L:List Oper} (hp:∀ o∈L,okD P o) (ok:okOps N L=true)
  (h:VL P N L (fun e ρ' w'=>e=.normal∧QQ .ret { act N ρ' with defers:=ds } w') L ρ w):DW P N (.seq (.region id L.toArray false) .ret) QQ ds ρ w:=by
 refine ⟨wp_seq (wp_region_lit (list_defers2 L _ w hp (wpList_mono ?_ _ _ _ (h.go ok ok))))⟩
 rintro e a w' ⟨ρ',rfl,⟨rfl,hQ⟩,_⟩
 exact wp_ret hQ
theorem DW.region {id:Nat} {L:List Oper} {y:Code} (ok:okOps N L=true) (h:DL P N L (Exit.then (y.wp P QQ) QQ) L ρ w):DW P N (.seq (.region id L.toArray false) y) QQ [] ρ w :=
 ⟨wp_seq (wp_region_lit (h.go ok ok))⟩
theorem DL.op {L rest:List Oper} {d:Nat} {q:Op} {ty:TypeId} {p:String} {af:Array Edge} {v:Value} {w':World} (hr:run1 P ρ q ty w=.ok (.value v) w') (h:DL P N L QQ rest (upd ρ d v) w') :
  DL P N L QQ ({ dst:=some d,op:=q,type:=ty,pos:=p,after:=af,guard:=none } :: rest) ρ w:=by
 refine ⟨fun okL okl=>?_⟩
 obtain ⟨ho,hrest⟩:=okOps_cons okl
 refine wpList_plain rfl fun K hK=>?_
 unfold Oper.wp
 rw [exec_act ho,run1_eq,hr]
 simp only [Oper.upon,act_put]
 exact hK _ _ (h.go okL hrest)
theorem DL.defer {L:List Oper} {c:Call} {ty:TypeId} {p:String} {af:Array Edge} {dst:Option Tmp} {d:Deferred} (hr:run1 P ρ (.defer c) ty w=.ok (.defer d) w) (h:QQ .normal { act N (put ρ dst undef) with defers:=[d] } w) :
  DL P N L QQ [{ dst:=dst,op:=.defer c,type:=ty,pos:=p,after:=af,guard:=none }] ρ w:=by
 refine ⟨fun okL okl=>?_⟩
 obtain ⟨ho,hrest⟩:=okOps_cons okl
 refine wpList_plain rfl fun K hK=>?_
 unfold Oper.wp
 rw [exec_act ho,run1_eq,hr,Oper.upon_defer]
 refine hK _ _ ?_
 have e:(({ act N ρ with defers:=d :: (act N ρ).defers }:Act).put dst undef)={ act N (put ρ dst undef) with defers:=[d] }:=by
  rw [←act_put]
  cases dst <;> rfl
 rw [e]
 exact h
theorem DL.deferW {L:List Oper} {c:Call} {y:Code} {ty:TypeId} {p:String} {af:Array Edge} {dst:Option Tmp} {d:Deferred} (hr:run1 P ρ (.defer c) ty w=.ok (.defer d) w) (h:DW P N y QQ [d] (put ρ dst undef) w) :
  DL P N L (Exit.then (y.wp P QQ) QQ) [{ dst:=dst,op:=.defer c,type:=ty,pos:=p,after:=af,guard:=none }] ρ w:=DL.defer hr h.go
theorem enterDf {f:FuncId} {fn:Func} {c:Code} {args:List Value} {RR:Value→World→Prop}
  (hf:P.funcs[f]?=some fn) (hb:fn.body=some c) (hN:fn.ntmps=N) (hl:Nat.ble args.length N=true)
  (h:DW P N c (bodyPostD P fn fun e w'=>∃ v,e=.returned v∧RR v w') [] (env0 args) w):Rets P f args.toArray w RR:=by
 refine calls_of_wp_defers hf hb ?_
 subst hN
 have ha:({ tmps:=args.toArray++Array.replicate (fn.ntmps-args.toArray.size) undef,defers:=[] }:Act)={ act fn.ntmps (env0 args) with defers:=[] }:=by
  show Act.mk _ _=Act.mk _ _
  rw [List.size_toArray,env0_act _ _ (by simpa using hl)]
 rw [ha]
 exact h.go
theorem R.deferC {f:FuncId} {x:Operand} {l:List Operand} {Fv Cv vs:List Value} {ts:Array TypeId} {ty:TypeId} (hx:tm ρ x=.func (.func f) Fv.toArray Cv.toArray) (ha:l.map (tm ρ)=vs) :
  run1 P ρ (.defer { callee:=.value x,args:=l.toArray,argTypes:=ts }) ty w=.ok (.defer { target:=.fn (.func f) Cv.toArray,args:=(Fv++vs).toArray }) w:=by
 subst ha
 simp only [run1,execOp,resolve,hx,Deferred.ofValue,Sem.run_bind,Sem.run_pure,Result.andThen_ok,List.map_toArray]
 simp
end
end Go.Vc
