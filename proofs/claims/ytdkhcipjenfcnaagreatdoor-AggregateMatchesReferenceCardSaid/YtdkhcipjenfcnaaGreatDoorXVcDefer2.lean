/- Own library: a range over a function whose rounds turn blocks of their own, and whose iterator keeps blocks of its own. -/
import Derived.Test.YtdkhcipjenfcnaaGreatDoorXVcLaw
import Derived.Defers
import Derived.Recover
namespace Go.Vc
set_option maxRecDepth 100000
set_option maxHeartbeats 16000000
theorem upon_defers {P:Program} {o:Oper} {t:Array Value} {ds:List Deferred} {K:Act→World→Prop} {K':Act→World→Prop} {Q:Exit→Act→World→Prop} {r:Result Next}
  (hK:∀ t w,K { tmps:=t,defers:=[] } w→K' { tmps:=t,defers:=ds } w) (hr:∀ d w,r≠.ok (.defer d) w)
  (h:Oper.upon P o { tmps:=t,defers:=[] } K (fun e a w=>Q e { a with defers:=ds } w) r):Oper.upon P o { tmps:=t,defers:=ds } K' Q r:=by
 have put:∀ (d:Option Tmp) (v:Value) (x:List Deferred),({ tmps:=t,defers:=x }:Act).put d v={ tmps:=(({ tmps:=t,defers:=x }:Act).put d v).tmps,defers:=x }:=fun d v x=>by cases d <;> rfl
 have putT:∀ (d:Option Tmp) (v:Value),(({ tmps:=t,defers:=[] }:Act).put d v).tmps=(({ tmps:=t,defers:=ds }:Act).put d v).tmps:=fun d v=>by cases d <;> rfl
 have step:∀ (d:Option Tmp) (v:Value) (w:World),K (({ tmps:=t,defers:=[] }:Act).put d v) w→K' (({ tmps:=t,defers:=ds }:Act).put d v) w:=fun d v w hk=>by
  rw [put d v []] at hk
  rw [put d v ds,←putT d v]
  exact hK _ _ hk
 cases r with
 | ok n w' =>
  cases n with
  | value v=>exact step _ _ _ h
  | skip=>exact step _ _ _ h
  | defer d=>exact absurd rfl (hr d w')
  | enter f args =>
   refine Calls.mono h fun e w'' he=>?_
   cases e with
   | returned v=>exact step _ _ _ he
   | panicked ch=>exact he
   | outgrown=>obtain ⟨x,y,hxy⟩:=he;exact ⟨_,y,hxy⟩
  | row row args=>exact Rows.mono h fun v w'' he=>step _ _ _ he
  | _=>exact h.elim
 | halt x w'=>cases x <;> exact h
def plainOp (o:Oper):Bool:=match o.op with
 | .move _ | .assign _ | .load _ _ | .store _ _ _ | .build _ _ | .alloc _ | .box _ _ | .extract _ _ | .fieldAddr _ _ _ | .indexAddr _ _ _=>true
 | _=>false
theorem plain_no {o:Oper} (h:plainOp o=true) (ev:Operand→Value) (P:Program) (w:World):∀ d w',(execOp ev o).run P w≠.ok (.defer d) w':=by
 have hv:∀ (s:Sem Value) d w',(do pure (Next.value (←s)):Sem Next).run P w≠.ok (.defer d) w':=fun s d w' e=>by
  rw [Sem.run_bind] at e
  cases hs:s.run P w with
  | ok v w2=>rw [hs] at e;simp [Sem.run_pure] at e
  | halt x w2=>rw [hs] at e;simp at e
 have hu:∀ (s:Sem Unit) d w',(do s;pure Next.skip:Sem Next).run P w≠.ok (.defer d) w':=fun s d w' e=>by
  rw [Sem.run_bind] at e
  cases hs:s.run P w with
  | ok v w2=>rw [hs] at e;simp [Sem.run_pure] at e
  | halt x w2=>rw [hs] at e;simp at e
 intro d w' e
 unfold plainOp at h
 unfold execOp at e
 split at h
 all_goals first | (rename_i hop;rw [hop] at e;first | exact hv _ _ _ e | exact hu _ _ _ e | (simp [Sem.run_pure] at e)) | (cases h)
def callsF (P:Program) (o:Oper):Prop:=∃ f l ts,o.op=.call { callee:=.value (.func f),args:=l,argTypes:=ts }∧IsFn P f
theorem calls_no {P:Program} {o:Oper} (h:callsF P o) (a:Act) (w:World):∀ d w',(execOp a.eval o).run P w≠.ok (.defer d) w':=by
 obtain ⟨f,l,ts,ho,hf⟩:=h
 intro d w' e
 unfold execOp at e
 rw [ho] at e
 have h2:=hf (#[]++l.map a.eval++#[]) w
 simp only [resolve,Act.eval,Deferred.ofValue,invoke,Sem.run_bind,Sem.run_pure,Result.andThen_ok] at e
 rw [h2] at e
 cases e
def okD (P:Program) (o:Oper):Prop:=plainOp o=true∨callsF P o
structure DW (P:Program) (N:Nat) (c:Code) (QQ:Exit→Act→World→Prop) (ds:List Deferred) (ρ:Env) (w:World):Prop where
 go:c.wp P QQ { act N ρ with defers:=ds } w
structure DL (P:Program) (N:Nat) (L:List Oper) (QQ:Exit→Act→World→Prop) (l:List Oper) (ρ:Env) (w:World):Prop where
 go:okOps N L=true→okOps N l=true→wpList P L.toArray QQ l (act N ρ) w
def nxD (P:Program) (N:Nat) (y:Code) (QQ:Exit→Act→World→Prop):Exit→Env→World→Prop
 | .normal,ρ,w=>DW P N y QQ [] ρ w
 | e,ρ,w=>QQ e (act N ρ) w
section
variable {P:Program} {N:Nat} {QQ:Exit→Act→World→Prop} {ρ:Env} {w:World} {ds:List Deferred}
theorem DW.seqV {x y:Code} (ok:okCode N x=true) (h:V P N x (nxD P N y QQ) ρ w):DW P N (.seq x y) QQ [] ρ w :=
 ⟨wp_seq (wp_mono (h.go ok) (by
  rintro e a w' ⟨ρ',rfl,hQ⟩
  cases e with
  | normal=>exact hQ.go
  | _=>exact hQ))⟩
theorem DW.region {id:Nat} {L:List Oper} {y:Code} (ok:okOps N L=true) (h:DL P N L (Exit.then (y.wp P QQ) QQ) L ρ w):DW P N (.seq (.region id L.toArray false) y) QQ [] ρ w :=
 ⟨wp_seq (wp_region_lit (h.go ok ok))⟩
theorem DL.op {L rest:List Oper} {d:Nat} {q:Op} {ty:TypeId} {p:String} {af:Array Edge} {v:Value} {w':World} (hr:run1 P ρ q ty w=.ok (.value v) w') (h:DL P N L QQ rest (upd ρ d v) w') :
  DL P N L QQ ({ dst:=some d,op:=q,type:=ty,pos:=p,after:=af,guard:=none } :: rest) ρ w:=by
 refine ⟨fun okL okl=>?_⟩
 obtain ⟨ho,hrest⟩:=okOps_cons okl
 refine wpList_plain rfl fun K hK=>?_
 unfold Oper.wp
 rw [exec_act ho,run1_eq,hr]
 simp only [Oper.upon,act_put]
 exact hK _ _ (h.go okL hrest)
theorem DL.defer {L:List Oper} {c:Call} {ty:TypeId} {p:String} {af:Array Edge} {dst:Option Tmp} {d:Deferred} (hr:run1 P ρ (.defer c) ty w=.ok (.defer d) w) (h:QQ .normal { act N (put ρ dst undef) with defers:=[d] } w) :
  DL P N L QQ [{ dst:=dst,op:=.defer c,type:=ty,pos:=p,after:=af,guard:=none }] ρ w:=by
 refine ⟨fun okL okl=>?_⟩
 obtain ⟨ho,hrest⟩:=okOps_cons okl
 refine wpList_plain rfl fun K hK=>?_
 unfold Oper.wp
 rw [exec_act ho,run1_eq,hr,Oper.upon_defer]
 refine hK _ _ ?_
 have e:(({ act N ρ with defers:=d :: (act N ρ).defers }:Act).put dst undef)={ act N (put ρ dst undef) with defers:=[d] }:=by
  rw [←act_put]
  cases dst <;> rfl
 rw [e]
 exact h
theorem DL.deferW {L:List Oper} {c:Call} {y:Code} {ty:TypeId} {p:String} {af:Array Edge} {dst:Option Tmp} {d:Deferred} (hr:run1 P ρ (.defer c) ty w=.ok (.defer d) w) (h:DW P N y QQ [d] (put ρ dst undef) w) :
  DL P N L (Exit.then (y.wp P QQ) QQ) [{ dst:=dst,op:=.defer c,type:=ty,pos:=p,after:=af,guard:=none }] ρ w:=DL.defer hr h.go
def RetsD (P:Program) (f:FuncId) (args:Array Value) (w:World) (K:World→Prop):Prop:=CallsD P f args .returning w fun e u w'=>u=.returning∧∃ v,e=.returned v∧K w'
theorem enterDef {f:FuncId} {fn:Func} {c:Code} {args:List Value} {K:World→Prop}
  (hf:P.funcs[f]?=some fn) (hb:fn.body=some c) (hN:fn.ntmps=N) (hok:okCode N c=true) (hl:Nat.ble args.length N=true)
  (h:V P N c (fpost P N fn fun _ w'=>K w') (env0 args) w):RetsD P f args.toArray w K:=by
 subst hN
 have ha:({ tmps:=args.toArray++Array.replicate (fn.ntmps-args.toArray.size) undef,defers:=[] }:Act)=act fn.ntmps (env0 args):=by
  show Act.mk _ _=Act.mk _ _
  rw [List.size_toArray,env0_act _ _ (by simpa using hl)]
  rfl
 refine (callsD_of_wp (R:=fun e w'=>∃ v,e=.returned v∧K w') hf hb ?_).mono fun e u' w' h=>h
 rw [ha]
 refine wp_mono (h.go hok) ?_
 rintro e a w' ⟨ρ',rfl,hQ⟩
 cases e with
 | normal=>obtain ⟨v,hr,hR⟩:=hQ.go;exact ⟨rfl,v,hr,v,rfl,hR⟩
 | ret=>obtain ⟨v,hr,hR⟩:=hQ.go;exact ⟨rfl,v,hr,v,rfl,hR⟩
 | _=>exact hQ.go.elim
theorem enterDf {f:FuncId} {fn:Func} {c:Code} {args:List Value} {RR:Value→World→Prop}
  (hf:P.funcs[f]?=some fn) (hb:fn.body=some c) (hN:fn.ntmps=N) (hl:Nat.ble args.length N=true)
  (h:DW P N c (bodyPostD P fn fun e w'=>∃ v,e=.returned v∧RR v w') [] (env0 args) w):Rets P f args.toArray w RR:=by
 refine calls_of_wp_defers hf hb ?_
 subst hN
 have ha:({ tmps:=args.toArray++Array.replicate (fn.ntmps-args.toArray.size) undef,defers:=[] }:Act)={ act fn.ntmps (env0 args) with defers:=[] }:=by
  show Act.mk _ _=Act.mk _ _
  rw [List.size_toArray,env0_act _ _ (by simpa using hl)]
 rw [ha]
 exact h.go
theorem R.deferC {f:FuncId} {x:Operand} {l:List Operand} {Fv Cv vs:List Value} {ts:Array TypeId} {ty:TypeId} (hx:tm ρ x=.func (.func f) Fv.toArray Cv.toArray) (ha:l.map (tm ρ)=vs) :
  run1 P ρ (.defer { callee:=.value x,args:=l.toArray,argTypes:=ts }) ty w=.ok (.defer { target:=.fn (.func f) Cv.toArray,args:=(Fv++vs).toArray }) w:=by
 subst ha
 simp only [run1,execOp,resolve,hx,Deferred.ofValue,Sem.run_bind,Sem.run_pure,Result.andThen_ok,List.map_toArray]
 simp
theorem res1 {fn:Func} {t:Nat} {v:Value} (hr:fn.results=#[.tmp t]) (ht:Nat.blt t N=true) (hv:tm ρ (.tmp t)=v):(results fn (act N ρ).tmps).run P w=.ok v w:=by
 have hv:ρ t=v:=hv
 rw [results_tmp hr,tmps_getD ht,hv]
theorem leaves1 {fn:Func} {tmps:Array Value} {RR:Value→World→Prop} {G:FuncId} {cap dargs args:List Value} {K:World→Prop} (hG:IsFn P G) (ha:dargs++cap=args) (hd:RetsD P G args.toArray w K)
  (h:∀ w',K w'→∃ v,(results fn tmps).run P w'=.ok v w'∧RR v w') :
  Leaves P fn tmps (fun e w'=>∃ v,e=.returned v∧RR v w') [{ target:=.fn (.func G) cap.toArray,args:=dargs.toArray }] .returning w:=by
 subst ha
 refine leaves_cons (by simp) (f:=G) (args:=(dargs++cap).toArray) (by simpa [invoke] using hG (dargs++cap).toArray w) (hd.mono fun e u' w' ⟨hu,v,he,hK⟩=>?_)
 subst hu he
 obtain ⟨v2,h1,h2⟩:=h w' hK
 exact ⟨v2,h1,v2,rfl,h2⟩
end
section
variable {P:Program} {N:Nat} {L:List Oper} {Q:Exit→Env→World→Prop} {rest:List Oper} {ρ:Env} {w w':World}
 {d:Nat} {q:Op} {ty:TypeId} {p:String} {af:Array Edge} {v:Value}
end
def noD (P:Program) (o:Oper):Prop:=∀ (a:Act) (w:World) d w',(execOp a.eval o).run P w≠.ok (.defer d) w'
theorem noD_ok {P:Program} {o:Oper} (h:okD P o):noD P o:=fun a w=>by
 rcases h with h | h
 ·exact plain_no h _ _ _
 ·exact calls_no h _ _
theorem noD_plain {P:Program} {o:Oper} (h:plainOp o=true):noD P o:=noD_ok (.inl h)
theorem noD_call {P:Program} {o:Oper} {f:FuncId} {l:Array Operand} {ts:Array TypeId} (h:o.op=.call { callee:=.value (.func f),args:=l,argTypes:=ts }) (hf:IsFn P f):noD P o:=noD_ok (.inr ⟨f,l,ts,h,hf⟩)
theorem noD_bin {P:Program} {o:Oper} {op:BinOp} {t t2:TypeId} {x y:Operand} (h:o.op=.binOp op t x y t2):noD P o:=fun a w d w' e=>by
 unfold execOp at e
 rw [h] at e
 dsimp only at e
 rw [Sem.run_bind] at e
 revert e
 cases hs:(do eqGuard op t x y (a.eval x) (a.eval y);binOp op t (a.eval x) (a.eval y):Sem Value).run P w with
 | ok v w2=>intro e;simp [Sem.run_pure] at e
 | halt x w2=>intro e;simp at e
theorem noD_nil {P:Program} {o:Oper} {x:Operand} (h:o.op=.nilCheck x):noD P o:=fun a w d w' e=>by
 unfold execOp at e
 rw [h] at e
 dsimp only at e
 split at e
 ·simp [runtimePanic,go_sem] at e
 ·simp [runtimePanic,go_sem] at e
 ·simp [runtimePanic,go_sem] at e
 ·split at e
  ·simp [runtimePanic,go_sem] at e
  ·rename_i t0 w0 _
   rw [Sem.run_bind] at e
   revert e
   cases program.run P w with
   | halt x w2=>intro e;simp at e
   | ok p w2 =>
    intro e
    rw [Result.andThen_ok,Sem.run_bind] at e
    revert e
    cases (nilAhead (p.types.size+Made.depth) t0 w0 _).run P w2 with
    | halt x w3=>intro e;simp at e
    | ok b w3 =>
     intro e
     rw [Result.andThen_ok] at e
     split at e
     ·rw [Sem.run_bind] at e
      simp [unsupported,go_sem] at e
     ·simp [Sem.run_pure] at e
  ·simp [Sem.run_pure] at e
 ·simp [Sem.run_pure] at e
def noB (o:Oper):Bool:=match o.op with
 | .nilCheck _ | .binOp ..=>true
 | _=>plainOp o
theorem noB_no {P:Program} {o:Oper} (h:noB o=true):noD P o:=by
 unfold noB at h
 split at h
 ·rename_i hop;exact noD_nil hop
 ·rename_i hop;exact noD_bin hop
 ·exact noD_plain h
theorem noD_of {P:Program} {L:List Oper} (h:L.all noB=true):∀ o∈L,noD P o:=fun o ho=>noB_no (List.all_eq_true.1 h o ho)
def noBc (f:FuncId) (o:Oper):Bool:=match o.op with
 | .call ⟨.value (.func g),_,_⟩=>Nat.beq g f
 | _=>noB o
theorem noD_ofc {P:Program} {L:List Oper} {f:FuncId} (hf:IsFn P f) (h:L.all (noBc f)=true):∀ o∈L,noD P o:=fun o ho=>by
 have h:=List.all_eq_true.1 h o ho
 unfold noBc at h
 split at h
 ·rename_i hop
  have e:=Nat.eq_of_beq_eq_true h
  subst e
  exact noD_call hop hf
 ·exact noB_no h
theorem list_defers3 {P:Program} {ops:Array Oper} {ds:List Deferred} {Q:Exit→Act→World→Prop}:∀ (L:List Oper) (t:Array Value) (w:World),(∀ o∈L,noD P o) →
  wpList P ops (fun e a w=>Q e { a with defers:=ds } w) L { tmps:=t,defers:=[] } w→wpList P ops Q L { tmps:=t,defers:=ds } w
 | [],_,_,_,h=>h
 | o :: L,t,w,hp,h=>by
  have ih:=list_defers3 (P:=P) (ops:=ops) (ds:=ds) (Q:=Q) L
  have hpL:∀ o∈L,noD P o:=fun x hx=>hp x (by simp [hx])
  have ev:({ tmps:=t,defers:=ds }:Act).eval=({ tmps:=t,defers:=[] }:Act).eval:=by funext x;cases x <;> rfl
  have hno:∀ d w',(execOp ({ tmps:=t,defers:=[] }:Act).eval o).run P w≠.ok (.defer d) w':=hp o (by simp) _ _
  unfold wpList at h ⊢
  split at h
  ·rename_i hw
   rw [if_pos hw]
   rcases h with h | ⟨h1,x,y,h2⟩
   ·left
    unfold Oper.wp at h ⊢
    rw [ev]
    exact upon_defers (fun t w hk=>ih t w hpL hk) hno h
   ·right
    refine ⟨?_,_,y,h2⟩
    unfold Oper.asks at h1 ⊢
    rw [ev];exact h1
  ·rename_i hw
   rw [if_neg hw]
   have:=ih (({ tmps:=t,defers:=ds }:Act).put o.dst undef).tmps w hpL
   cases hd:o.dst with
   | none=>rw [hd] at h this;exact this h
   | some d=>rw [hd] at h this;exact this h
theorem any_defers2 {P:Program} {ops:Array Oper} {ds:List Deferred} {Q:Exit→Act→World→Prop} (hp:∀ o∈ops.toList,noD P o):∀ (fuel:Nat) (listed:Array Bool) (t:Array Value) (w:World),
  wpAny P .any ops (fun e a w=>Q e { a with defers:=ds } w) fuel listed { tmps:=t,defers:=[] } w→wpAny P .any ops Q fuel listed { tmps:=t,defers:=ds } w
 | 0,_,_,_,h=>h
 | fuel+1,listed,t,w,h=>by
  refine ⟨fun hr=>h.1 hr,fun i hi=>?_⟩
  have h2:=h.2 i hi
  have ih:=any_defers2 (P:=P) (ops:=ops) (ds:=ds) (Q:=Q) hp fuel (listed.setIfInBounds i true)
  unfold wpOp at h2 ⊢
  cases ho:ops[i]? with
  | none=>rw [ho] at h2;exact ih t w h2
  | some o =>
   rw [ho] at h2
   dsimp only at h2 ⊢
   have ev:({ tmps:=t,defers:=ds }:Act).eval=({ tmps:=t,defers:=[] }:Act).eval:=by funext x;cases x <;> rfl
   have hno:∀ d w',(execOp ({ tmps:=t,defers:=[] }:Act).eval o).run P w≠.ok (.defer d) w':=by
    exact hp o (by rw [←Array.getElem?_toList] at ho;exact List.mem_of_getElem? ho) _ _
   split at h2
   ·rename_i hw
    rw [if_pos hw]
    rcases h2 with h2 | ⟨h1,x,y,h2⟩
    ·left
     unfold Oper.wp at h2 ⊢
     rw [ev]
     exact upon_defers (fun t w hk=>ih t w hk) hno h2
    ·right
     refine ⟨?_,_,y,h2⟩
     unfold Oper.asks at h1 ⊢
     rw [ev];exact h1
   ·rename_i hw
    rw [if_neg hw]
    have:=ih (({ tmps:=t,defers:=ds }:Act).put o.dst undef).tmps w
    cases hd:o.dst with
    | none=>rw [hd] at h2 this;exact this h2
    | some d=>rw [hd] at h2 this;exact this h2
theorem wpAny_mono2 {P:Program} {md:Region.Mode} {ops:Array Oper} {Q Q':Exit→Act→World→Prop} (hQ:∀ e a w,Q e a w→Q' e a w):∀ (fuel:Nat) (listed:Array Bool) (a:Act) (w:World),wpAny P md ops Q fuel listed a w→wpAny P md ops Q' fuel listed a w
 | 0,_,_,_,h=>⟨h.1,hQ _ _ _ h.2⟩
 | fuel+1,listed,a,w,h=>by
  refine ⟨fun hr=>hQ _ _ _ (h.1 hr),fun i hi=>?_⟩
  have h2:=h.2 i hi
  have ih:=wpAny_mono2 (P:=P) (md:=md) (ops:=ops) hQ fuel (listed.setIfInBounds i true)
  unfold wpOp at h2 ⊢
  cases ho:ops[i]? with
  | none=>rw [ho] at h2;exact ih a w h2
  | some o =>
   rw [ho] at h2
   dsimp only at h2 ⊢
   split at h2
   ·rename_i hw
    rw [if_pos hw]
    rcases h2 with h2 | ⟨h1,x,y,h2⟩
    ·left;unfold Oper.wp at h2 ⊢;exact upon_mono ih hQ h2
    ·right;exact ⟨h1,x,y,hQ _ _ _ h2⟩
   ·rename_i hw
    rw [if_neg hw]
    exact ih _ _ h2
section
variable {P:Program} {N:Nat} {L:List Oper} {Q:Exit→Env→World→Prop} {vals:Nat→Value} {ρ:Env} {k:Nat}
theorem anyA {w:World} (k m:Nat) (hr:regOk L k=true) (C0 C1:World→Prop)
  (h0:C0 { w with drawn:=w.drawn+1 })
  (h:VA P L (ancs L []) C0 C1 m k 0 L ρ fun ρ'=>∀ w',(bif Nat.blt m k then C1 w' else C0 w')→VL P N L Q (L.drop k) ρ' w') :
  okOps N L=true→wpAny P .any L.toArray (lift N Q) L.toArray.size (Array.replicate L.toArray.size false) (act N ρ) { w with drawn:=w.drawn+1 }:=by
 intro okL
 have R:=regOk_spec hr
 obtain ⟨vs,hl,hll,hobs,hK⟩:=VA_spec k 0 L ρ _ h
 let vals:Nat→Value:=fun x=>vs.getD x undef
 have henv:∀ x,x≤k→envL L vals ρ x=ch ρ L vs x:=by
  intro x
  induction x with
  | zero=>intro _;rw [envL_zero,ch_zero]
  | succ x ih =>
   intro hx
   have ho:L[x]?=some L[x]:=List.getElem?_eq_getElem (by omega)
   rw [envL_succ ho,ih (by omega),ch_succ L ρ vs x L[x] (vs.getD x undef) ho (by simp [List.getD,List.getElem?_eq_getElem (by omega:x<vs.length)])]
 have start:=wpAny_any (P:=P) (N:=N) (vals:=vals) (ρ:=ρ) R okL hll (C:=stage C0 C1 m) (QQ:=lift N Q) ?_ ?_ k L.toArray.size (Array.replicate L.toArray.size false) { w with drawn:=w.drawn+1 } (by simp) ?_ ?_ ?_ (by simp;omega) ?_
 ·have e:lst (Array.replicate L.toArray.size false)=fun _=>false:=by
   funext j;unfold lst;simp [Array.getElem?_replicate];split <;> rfl
  rw [e,envD_none] at start
  exact start
 ·intro i o ho hik D hcl hDi hdeps hsuf w' hC
  have hob:=hobs i o hik ho
  rw [Nat.zero_add,←henv i (by omega)] at hob
  have hil:i<L.length:=(List.getElem?_eq_some_iff.1 ho).1
  constructor
  ·intro hw
   have h1:=hob.1 hw
   by_cases him:i=m
   ·subst him
    rw [Nat.beq_refl,cond_true] at h1
    have hC':C0 w':=by unfold stage at hC;rw [hDi] at hC;exact hC
    have:=h1 w' hC'
    have e:stage C0 C1 i (setD D i)=C1:=by funext w;unfold stage setD;simp
    rw [e];exact this
   ·rw [nbeq_ne him,cond_false] at h1
    have e:∀ w,stage C0 C1 m (setD D i) w=bif D m then C1 w else C0 w:=by
     intro w;unfold stage setD;rw [nbeq_ne (fun e=>him e.symm),Bool.false_or]
    cases hDm:D m with
    | true =>
     have hC':C1 w':=by unfold stage at hC;rw [hDm] at hC;exact hC
     have hml:m<L.length:=by
      rcases Nat.lt_or_ge m k with h | h
      ·omega
      ·rw [hsuf m h] at hDm;cases hDm
     have hb:((ancs L []).getD m 0).testBit i=false:=by
      cases hb:((ancs L []).getD m 0).testBit i with
      | false=>rfl
      | true=>rw [anc_closed hcl hml hb hDm] at hDi;cases hDi
     have h2:=h1.2
     rw [hb,cond_false] at h2
     have e':stage C0 C1 m (setD D i)=C1:=by funext w;rw [e w,hDm];rfl
     rw [e'];exact h2 w' hC'
    | false =>
     have hC':C0 w':=by unfold stage at hC;rw [hDm] at hC;exact hC
     have hb:((ancs L []).getD i 0).testBit m=false:=by
      cases hb:((ancs L []).getD i 0).testBit m with
      | false=>rfl
      | true=>rw [anc_done R hcl ho hdeps hb] at hDm;cases hDm
     have h2:=h1.1
     rw [hb,cond_false] at h2
     have e':stage C0 C1 m (setD D i)=C0:=by funext w;rw [e w,hDm];rfl
     rw [e'];exact h2 w' hC'
  ·intro hw
   obtain ⟨h1,h2⟩:=hob.2 hw
   refine ⟨h1,?_⟩
   by_cases him:i=m
   ·subst him
    rw [Nat.beq_refl,cond_true] at h2
    have hC':C0 w':=by unfold stage at hC;rw [hDi] at hC;exact hC
    have e:stage C0 C1 i (setD D i)=C1:=by funext w;unfold stage setD;simp
    rw [e];exact h2 w' hC'
   ·have e:stage C0 C1 m (setD D i) w'=stage C0 C1 m D w':=by
     unfold stage setD;rw [nbeq_ne (fun e=>him e.symm),Bool.false_or]
    rw [e];exact hC
 ·intro w' hC
  have hC':bif Nat.blt m k then C1 w' else C0 w':=hC
  have hv:=hK w' hC'
  rw [←henv k (Nat.le_refl _)] at hv
  have hdrop:okOps N (L.drop k)=true:=by
   unfold okOps at *
   rw [List.all_eq_true] at *
   exact fun o ho=>okL o (List.mem_of_mem_drop ho)
  have:=wpList_mono (lift_mono fun _ _ _ h=>h.1) _ _ _ (hv.go okL hdrop)
  rw [←wpOps_eq_wpList (L.drop k) k (by intro j;simp)] at this
  simpa using this
 ·intro i o _ hi
  unfold lst at hi
  simp [Array.getElem?_replicate] at hi
  split at hi <;> cases hi
 ·intro j _;unfold lst;simp [Array.getElem?_replicate];split <;> rfl
 ·have:((List.range k).filter fun j=>!lst (Array.replicate L.toArray.size false) j)=List.range k:=by
   rw [List.filter_eq_self]
   intro j _;unfold lst;simp [Array.getElem?_replicate];split <;> rfl
  rw [this,List.length_range]
 ·have e:lst (Array.replicate L.toArray.size false)=fun _=>false:=by
   funext j;unfold lst;simp [Array.getElem?_replicate];split <;> rfl
  rw [e];exact h0
theorem anyQ {w:World} (k:Nat) (hr:regOk L k=true) (hk:Nat.ble k L.length=true) (C:World→Prop)
  (h0:C { w with drawn:=w.drawn+1 })
  (h:VQ P L C k L ρ fun ρ'=>∀ w',C w'→VL P N L Q (L.drop k) ρ' w') :
  okOps N L=true→wpAny P .any L.toArray (lift N Q) L.toArray.size (Array.replicate L.toArray.size false) (act N ρ) { w with drawn:=w.drawn+1 }:=by
 have hk':k≤L.length:=Nat.le_of_ble_eq_true hk
 refine anyA k k hr C (fun _=>False) h0 ?_
 have:=h.go 0 (by omega)
 rw [Nat.add_zero] at this
 have e:Nat.blt k k=false:=nblt_no (Nat.lt_irrefl k)
 rw [e]
 exact this
end
section
variable {P:Program} {N:Nat} {QQ:Exit→Act→World→Prop} {ρ:Env} {w:World} {ds:List Deferred}
theorem DW.seq {x y:Code} (h:DW P N x (Exit.then (y.wp P QQ) QQ) ds ρ w):DW P N (.seq x y) QQ ds ρ w:=⟨wp_seq h.go⟩
theorem DW.condT {c:Operand} {x y:Code} (hc:tm ρ c=.bool true) (ok:okX N c=true) (h:DW P N x QQ ds ρ w):DW P N (.cond c x y) QQ ds ρ w :=
 ⟨wp_cond_true (by have:=eval_act ok (ρ:=ρ);exact (show ({ act N ρ with defers:=ds }:Act).eval c=(act N ρ).eval c from by cases c <;> rfl).trans (this.trans hc)) h.go⟩
theorem DW.condF {c:Operand} {x y:Code} (hc:tm ρ c=.bool false) (ok:okX N c=true) (h:DW P N y QQ ds ρ w):DW P N (.cond c x y) QQ ds ρ w :=
 ⟨wp_cond_false (by have:=eval_act ok (ρ:=ρ);exact (show ({ act N ρ with defers:=ds }:Act).eval c=(act N ρ).eval c from by cases c <;> rfl).trans (this.trans hc)) h.go⟩
theorem DW.skip (h:QQ .normal { act N ρ with defers:=ds } w):DW P N .skip QQ ds ρ w:=⟨wp_skip h⟩
theorem DW.ret (h:QQ .ret { act N ρ with defers:=ds } w):DW P N .ret QQ ds ρ w:=⟨wp_ret h⟩
theorem DW.reg {id:Nat} {L:List Oper} (hp:∀ o∈L,noD P o) (ok:okOps N L=true) (h:VL P N L (fun e ρ' w'=>e=.normal∧QQ .normal { act N ρ' with defers:=ds } w') L ρ w):DW P N (.region id L.toArray false) QQ ds ρ w:=by
 refine ⟨wp_region_lit (list_defers3 L _ w hp (wpList_mono ?_ _ _ _ (h.go ok ok)))⟩
 rintro e a w' ⟨ρ',rfl,hQ,_⟩
 obtain ⟨rfl,hQ⟩:=hQ
 exact hQ
theorem DW.regionQ {id:Nat} {L:List Oper} (hm:P.follows .mixedOrders=true) (k:Nat) (hr:regOk L k=true) (hk:Nat.ble k L.length=true) (hp:∀ o∈L,noD P o) (ok:okOps N L=true) (C:World→Prop) (h0:C { w with drawn:=w.drawn+1 })
  (h:VQ P L C k L ρ fun ρ'=>∀ w',C w'→VL P N L (fun e ρ' w'=>e=.normal∧QQ .normal { act N ρ' with defers:=ds } w') (L.drop k) ρ' w'):DW P N (.region id L.toArray true) QQ ds ρ w:=by
 have h1:=anyQ k hr hk C h0 h ok
 refine ⟨wp_region_any hm (any_defers2 (by simpa using hp) _ _ _ _ (wpAny_mono2 ?_ _ _ _ _ h1))⟩
 rintro e a w' ⟨ρ',rfl,hQ⟩
 obtain ⟨rfl,hQ⟩:=hQ
 exact hQ
def cutD {ι:Type} (N:Nat) (W:List Nat) (vals:ι→List Value) (F:ι→World→Prop) (ds:List Deferred) (QQ:Exit→Act→World→Prop):Exit→Act→World→Prop
 | .normal,a,w=>∃ ρ i,a={ act N ρ with defers:=ds }∧W.map ρ=vals i∧F i w
 | e,a,w=>QQ e a w
theorem DW.cut {ι:Type} {x y:Code} (W:List Nat) (vals:ι→List Value) (F:ι→World→Prop) (h:DW P N x (cutD N W vals F ds QQ) ds ρ w) (k:∀ ρ' i w',F i w'→DW P N y QQ ds (setL W (vals i) ρ') w'):DW P N (.seq x y) QQ ds ρ w:=by
 refine ⟨wp_seq (wp_mono h.go ?_)⟩
 rintro e a w' hQ
 cases e with
 | normal =>
  obtain ⟨ρ',i,rfl,hW,hF⟩:=hQ
  have:=k ρ' i w' hF
  rw [setL_self _ _ _ hW] at this
  exact this.go
 | _=>exact hQ
theorem cutD.mk {ι:Type} {W:List Nat} {vals:ι→List Value} {F:ι→World→Prop} (i:ι) (hW:W.map ρ=vals i) (hF:F i w):cutD N W vals F ds QQ .normal { act N ρ with defers:=ds } w:=⟨ρ,i,rfl,hW,hF⟩
theorem DW.thenN {y:Code} (h:DW P N y QQ ds ρ w):Exit.then (y.wp P QQ) QQ .normal { act N ρ with defers:=ds } w:=h.go
end
end Go.Vc
