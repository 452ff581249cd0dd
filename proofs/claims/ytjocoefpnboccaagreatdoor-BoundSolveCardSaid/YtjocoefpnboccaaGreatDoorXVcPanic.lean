/- Own library: calls that return or panic; a deferred function that recovers. -/
import Derived.Test.YtjocoefpnboccaaGreatDoorXVcDefer
import Derived.Recover
namespace Go.Vc
set_option maxHeartbeats 16000000
set_option maxRecDepth 100000
def Ends (P:Program) (f:FuncId) (args:Array Value) (w:World) (Rv:Value→World→Prop) (Rp:List PanicEntry→World→Prop):Prop :=
 Calls P f args w fun e w'=>(∃ v,e=.returned v∧Rv v w')∨∃ ch,e=.panicked ch∧Rp ch w'
theorem Ends.mono {P:Program} {f:FuncId} {args:Array Value} {w:World} {Rv Rv':Value→World→Prop} {Rp Rp':List PanicEntry→World→Prop} (h:Ends P f args w Rv Rp) (hv:∀ v w',Rv v w'→Rv' v w') (hp:∀ c w',Rp c w'→Rp' c w'):Ends P f args w Rv' Rp' :=
 Calls.mono h fun _ _ h=>h.imp (fun ⟨v,he,hR⟩=>⟨v,he,hv _ _ hR⟩) fun ⟨c,he,hR⟩=>⟨c,he,hp _ _ hR⟩
def fpostE (P:Program) (N:Nat) (fn:Func) (Rv:Value→World→Prop) (Rp:List PanicEntry→World→Prop):Exit→Env→World→Prop
 | .panic ch,_,w=>Rp ch w
 | .normal,ρ,w=>fpost P N fn Rv .normal ρ w
 | .ret,ρ,w=>fpost P N fn Rv .ret ρ w
 | _,_,_=>False
theorem enterE {P:Program} {f:FuncId} {fn:Func} {c:Code} {N:Nat} {args:List Value} {w:World} {Rv:Value→World→Prop} {Rp:List PanicEntry→World→Prop}
  (hf:P.funcs[f]?=some fn) (hb:fn.body=some c) (hN:fn.ntmps=N) (hok:okCode N c=true) (hl:Nat.ble args.length N=true)
  (h:V P N c (fpostE P N fn Rv Rp) (env0 args) w):Ends P f args.toArray w Rv Rp:=by
 refine calls_of_wp hf hb ?_
 subst hN
 have ha:({ tmps:=args.toArray++Array.replicate (fn.ntmps-args.toArray.size) undef,defers:=[] }:Act)=act fn.ntmps (env0 args):=by
  show Act.mk _ _=Act.mk _ _
  rw [List.size_toArray,env0_act _ _ (by simpa using hl)]
  rfl
 rw [ha]
 refine wp_mono (h.go hok) ?_
 rintro e a w' ⟨ρ',rfl,hQ⟩
 cases e with
 | normal=>obtain ⟨v,hr,hR⟩:=hQ.go;exact ⟨rfl,v,hr,.inl ⟨v,rfl,hR⟩⟩
 | ret=>obtain ⟨v,hr,hR⟩:=hQ.go;exact ⟨rfl,v,hr,.inl ⟨v,rfl,hR⟩⟩
 | panic ch=>exact ⟨rfl,.inr ⟨ch,rfl,hQ⟩⟩
 | _=>exact hQ.elim
theorem R.panic {P:Program} {ρ:Env} {x:Operand} {ty:TypeId} {t:TypeId} {v:Value} {w:World} (hx:tm ρ x=.iface t v):run1 P ρ (.panic x) ty w=.halt (.panic (.iface t v)) w:=by
 simp [run1,execOp,Instr.panic,goPanic,hx,go_sem]
section
variable {P:Program} {N:Nat} {L:List Oper} {Q:Exit→Env→World→Prop} {rest:List Oper} {ρ:Env} {w w':World}
 {d:Nat} {q:Op} {ty:TypeId} {p:String} {af:Array Edge} {v:Value}
theorem VL.enterE {f:FuncId} {args:Array Value} {dst:Option Tmp} (hr:run1 P ρ q ty w=.ok (.enter f args) w')
  (h:Ends P f args w' (fun v w''=>VL P N L Q rest (put ρ dst v) w'') fun ch w''=>Q (.panic ch) ρ w'') :
  VL P N L Q ({ dst:=dst,op:=q,type:=ty,pos:=p,after:=af,guard:=none } :: rest) ρ w:=by
 refine ⟨fun okL okl=>VL.step rfl okl fun hr'=>?_⟩
 have e0:(execOp (tm ρ) { dst:=dst,op:=q,type:=ty,pos:=p,after:=af,guard:=none }).run P w=.ok (.enter f args) w':=hr
 rw [e0]
 simp only [Oper.upon]
 refine Calls.mono h ?_
 rintro e w'' (⟨v,rfl,hv⟩ | ⟨ch,rfl,hp⟩)
 ·simp only
  rw [act_put]
  exact VL.cons (o:={ dst:=dst,op:=q,type:=ty,pos:=p,after:=af,guard:=none }) hv okL hr'
 ·exact ⟨ρ,rfl,hp,Agree.refl _ _⟩
theorem VL.callE {f:FuncId} {l:List Operand} {vs:List Value} {ts:Array TypeId} {dst:Option Tmp} {Rv:Value→World→Prop} {Rp:List PanicEntry→World→Prop} (hc:IsFn P f) (ha:l.map (tm ρ)=vs)
  (hf:Ends P f vs.toArray w Rv Rp) (hp:∀ ch w',Rp ch w'→Q (.panic ch) ρ w') (h:∀ v w',Rv v w'→VL P N L Q rest (put ρ dst v) w') :
  VL P N L Q ({ dst:=dst,op:=.call { callee:=.value (.func f),args:=l.toArray,argTypes:=ts },type:=ty,pos:=p,after:=af,guard:=none } :: rest) ρ w :=
 VL.enterE (R.call hc ha) (hf.mono h hp)
theorem VL.callCE {f:FuncId} {x:Operand} {l:List Operand} {Fv Cv vs:List Value} {ts:Array TypeId} {dst:Option Tmp} {Rv:Value→World→Prop} {Rp:List PanicEntry→World→Prop} (hx:tm ρ x=.func (.func f) Fv.toArray Cv.toArray) (hc:IsFn P f) (ha:l.map (tm ρ)=vs)
  (hf:Ends P f (Fv++vs++Cv).toArray w Rv Rp) (hp:∀ ch w',Rp ch w'→Q (.panic ch) ρ w') (h:∀ v w',Rv v w'→VL P N L Q rest (put ρ dst v) w') :
  VL P N L Q ({ dst:=dst,op:=.call { callee:=.value x,args:=l.toArray,argTypes:=ts },type:=ty,pos:=p,after:=af,guard:=none } :: rest) ρ w :=
 VL.enterE (R.callC hc hx ha) (hf.mono h hp)
theorem VL.halts {dst:Option Tmp} (hr:run1 P ρ q ty w=.halt (.panic v) w') (h:Q (.panic [{ v,recovered:=false }]) ρ w') :
  VL P N L Q ({ dst:=dst,op:=q,type:=ty,pos:=p,after:=af,guard:=none } :: rest) ρ w:=by
 refine ⟨fun okL okl=>VL.step rfl okl fun _=>?_⟩
 have e0:(execOp (tm ρ) { dst:=dst,op:=q,type:=ty,pos:=p,after:=af,guard:=none }).run P w=.halt (.panic v) w':=hr
 rw [e0]
 exact ⟨ρ,rfl,h,Agree.refl _ _⟩
end
section
variable {P:Program} {N:Nat} {QQ:Exit→Act→World→Prop} {ρ:Env} {w:World} {ds:List Deferred}
theorem DW.regP {id:Nat} {L:List Oper} {y:Code} (hp:∀ o∈L,okD P o) (ok:okOps N L=true)
  (h:VL P N L (fun e ρ' w'=>match e with | .normal=>DW P N y QQ ds ρ' w' | .panic ch=>QQ (.panic ch) { act N ρ' with defers:=ds } w' | _=>False) L ρ w):DW P N (.seq (.region id L.toArray false) y) QQ ds ρ w:=by
 refine ⟨wp_seq (wp_region_lit (list_defers2 L _ w hp (wpList_mono ?_ _ _ _ (h.go ok ok))))⟩
 rintro e a w' ⟨ρ',rfl,hQ,_⟩
 cases e with
 | normal=>exact hQ.go
 | panic ch=>exact hQ
 | _=>exact hQ.elim
def rcM:FrameMode→Option (Value×FrameMode)
 | .panicking ({ v,recovered:=false,goexit:=false } :: older)=>some (v,.panicking ({ v,recovered:=true } :: older))
 | _=>none
theorem recD_some {c:Frame} {cs:List Frame} {v:Value} {m:FrameMode} (h:rcM c.mode=some (v,m)):recoverD (c :: cs)=some (v,{ c with mode:=m } :: cs):=by
 obtain ⟨md,hm⟩:∃ md,md=c.mode:=⟨_,rfl⟩
 unfold recoverD
 dsimp only
 rw [←hm] at h ⊢
 unfold rcM at h
 split at h
 ·injection h with h
  injection h with h1 h2
  subst h1;subst h2
  rfl
 ·cases h
theorem recD_none {c:Frame} {cs:List Frame} (h:rcM c.mode=none):recoverD (c :: cs)=none:=by
 obtain ⟨md,hm⟩:∃ md,md=c.mode:=⟨_,rfl⟩
 unfold recoverD
 dsimp only
 rw [←hm] at h ⊢
 unfold rcM at h
 split at h
 ·cases h
 ·rename_i h1
  split
  ·exact absurd rfl (h1 _ _)
  ·rfl
theorem enterRec {f:FuncId} {fn:Func} {id d d':Nat} {ty ty':TypeId} {p p':String} {af af':Array Edge} {y:Code} {args:List Value} {u u':FrameMode} {v:Value} {K:World→Prop}
  (hf:P.funcs[f]?=some fn) (hb:fn.body=some (.seq (.region id #[{ dst:=some d,op:=.call { callee:=.builtin .recover,args:=#[],argTypes:=#[] },type:=ty,pos:=p,after:=af,guard:=none },{ dst:=some d',op:=.assign (.tmp d),type:=ty',pos:=p',after:=af',guard:=none }] false) y))
  (hN:fn.ntmps=N) (hd:Nat.blt d N=true) (hok:okCode N y=true) (hl:Nat.ble args.length N=true)
  (hrc:rcM u=some (v,u')∨(rcM u=none∧v=.nilIface∧u'=u)) (hv:∀ ρ:Env,tm ρ (.tmp d)=v→∀ w,run1 P ρ (.assign (.tmp d)) ty' w=.ok (.value v) w)
  (h:V P N y (fpost P N fn fun _ w'=>K w') (upd (upd (env0 args) d v) d' v) w):CallsD P f args.toArray u w fun e m w'=>m=u'∧∃ r,e=.returned r∧K w':=by
 subst hN
 have ha:({ tmps:=args.toArray++Array.replicate (fn.ntmps-args.toArray.size) undef,defers:=[] }:Act)=act fn.ntmps (env0 args):=by
  show Act.mk _ _=Act.mk _ _
  rw [List.size_toArray,env0_act _ _ (by simpa using hl)]
  rfl
 refine callsD_of_wpS hf hb fun c₀ cs hu=>?_
 rw [ha]
 have hd1:okX fn.ntmps (.tmp d)=true:=hd
 have hput:∀ (e:Nat) (ρ:Env) (x:Value),(act fn.ntmps ρ).put (some e) x=act fn.ntmps (upd ρ e x):=fun e ρ x=>act_put fn.ntmps ρ (some e) x
 have ht:tm (upd (env0 args) d v) (.tmp d)=v:=by
  show upd (env0 args) d v d=v
  unfold upd
  rw [Nat.beq_refl];rfl
 have hr:=hv (upd (env0 args) d v) ht w
 have he:(execOp (act fn.ntmps (upd (env0 args) d v)).eval { dst:=some d',op:=.assign (.tmp d),type:=ty',pos:=p',after:=af',guard:=none }).run P w=.ok (.value v) w:=by
  have e1:(act fn.ntmps (upd (env0 args) d v)).eval (.tmp d)=tm (upd (env0 args) d v) (.tmp d):=eval_act hd1
  have e2:execOp (act fn.ntmps (upd (env0 args) d v)).eval { dst:=some d',op:=.assign (.tmp d),type:=ty',pos:=p',after:=af',guard:=none }=execOp (tm (upd (env0 args) d v)) { dst:=some d',op:=.assign (.tmp d),type:=ty',pos:=p',after:=af',guard:=none }:=by
   simp only [execOp,e1]
  rw [e2];exact hr
 have key:wpOpsS P #[{ dst:=some d,op:=.call { callee:=.builtin .recover,args:=#[],argTypes:=#[] },type:=ty,pos:=p,after:=af,guard:=none },{ dst:=some d',op:=.assign (.tmp d),type:=ty',pos:=p',after:=af',guard:=none }]
   (Exit.thenS (y.wpS P (bodyPostS P fn c₀ cs fun e m w'=>m=u'∧∃ r,e=.returned r∧K w')) (bodyPostS P fn c₀ cs fun e m w'=>m=u'∧∃ r,e=.returned r∧K w')) [1] (act fn.ntmps (upd (env0 args) d v)) ({ c₀ with mode:=u' } :: cs) w:=by
  simp only [wpOpsS]
  simp only [List.getElem?_toArray,List.getElem?_cons_succ,List.getElem?_cons_zero,Region.wanted,if_true]
  rw [he]
  simp only [Oper.upon,hput,Exit.thenS]
  refine wpS_of_wp (wp_mono (h.go hok) ?_)
  rintro e a w' ⟨ρ',rfl,hQ⟩
  cases e with
  | normal=>obtain ⟨r,hr,hR⟩:=hQ.go;exact ⟨rfl,u',rfl,r,hr,rfl,r,rfl,hR⟩
  | ret=>obtain ⟨r,hr,hR⟩:=hQ.go;exact ⟨rfl,u',rfl,r,hr,rfl,r,rfl,hR⟩
  | _=>exact hQ.go.elim
 refine wpS_seq (wpS_region ?_)
 rw [show List.range (#[({ dst:=some d,op:=.call { callee:=.builtin .recover,args:=#[],argTypes:=#[] },type:=ty,pos:=p,after:=af,guard:=none }:Oper),{ dst:=some d',op:=.assign (.tmp d),type:=ty',pos:=p',after:=af',guard:=none }]).size=[0,1] from rfl]
 rw [wpOpsS]
 simp only [List.getElem?_toArray,List.getElem?_cons_zero,Region.wanted,if_true]
 have hx:(execOp (act fn.ntmps (env0 args)).eval { dst:=some d,op:=.call { callee:=.builtin .recover,args:=#[],argTypes:=#[] },type:=ty,pos:=p,after:=af,guard:=none }).run P w=.ok .recover w:=by
  simp [go_sem]
 rw [hx]
 rcases hrc with h1 | ⟨h1,h2,h3⟩
 ·rw [recD_some (c:=c₀) (cs:=cs) (by rw [hu];exact h1)]
  simp only [hput]
  exact key
 ·rw [recD_none (c:=c₀) (cs:=cs) (by rw [hu];exact h1)]
  subst h2;subst h3
  simp only [hput]
  have:({ c₀ with mode:=u' }:Frame)=c₀:=by subst hu;rfl
  rw [this] at key
  exact key
end
theorem res_cell1 {N:Nat} {P:Program} {ρ:Env} {w:World} {fn:Func} {a1 t1 b1:Nat} {v1:Value} (hres:fn.results=#[.cell a1 t1]) (ha1:Nat.blt a1 N=true) (hx1:ρ a1=.pointer (some ⟨b1,0,none⟩))
  (hB1:Blk w b1 (.cells #[v1] t1 (0,0))) (hg1:∀ w,(isAgg t1).run P w=.ok false w) :
  (results fn (act N ρ).tmps).run P w=.ok v1 w:=by
 have e1:=tmps_getD (ρ:=ρ) ha1
 rw [hx1] at e1
 have hc1:w.cell? ⟨b1,0,none⟩=some v1:=hB1.cell _
 rw [Array.getD_eq_getD_getElem?] at e1
 simp only [results,hres]
 simp [e1,go_sem,loadVar,hg1,hc1]
theorem leavesR {P:Program} {w:World} {fn:Func} {tmps:Array Value} {RR:Value→World→Prop} {G:FuncId} {cap dargs args:List Value} {u u':FrameMode} {K:World→Prop} (hG:IsFn P G) (ha:dargs++cap=args) (hu:u≠.run)
  (hd:CallsD P G args.toArray u w fun e m w'=>m=u'∧∃ r,e=.returned r∧K w') (hs:settle u'=.returning) (h:∀ w',K w'→∃ v,(results fn tmps).run P w'=.ok v w'∧RR v w') :
  Leaves P fn tmps (fun e w'=>∃ v,e=.returned v∧RR v w') [{ target:=.fn (.func G) cap.toArray,args:=dargs.toArray }] u w:=by
 subst ha
 refine leaves_cons hu (f:=G) (args:=(dargs++cap).toArray) (by simpa [invoke] using hG (dargs++cap).toArray w) (hd.mono fun e m w' ⟨hm,v,he,hK⟩=>?_)
 subst hm he
 obtain ⟨v2,h1,h2⟩:=h w' hK
 dsimp only
 rw [hs]
 exact ⟨v2,h1,v2,rfl,h2⟩
end Go.Vc
