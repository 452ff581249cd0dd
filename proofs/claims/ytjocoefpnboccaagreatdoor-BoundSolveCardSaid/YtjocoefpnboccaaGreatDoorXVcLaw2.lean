/- Own library: a range over a function whose rounds turn blocks of their own, and whose iterator keeps blocks of its own. -/
import Derived.Test.YtjocoefpnboccaaGreatDoorXVcLaw
namespace Go.Vc
set_option maxHeartbeats 16000000
set_option maxRecDepth 100000
theorem upon_defers {P:Program} {o:Oper} {t:Array Value} {ds:List Deferred} {K:Act→World→Prop} {K':Act→World→Prop} {Q:Exit→Act→World→Prop} {r:Result Next}
  (hK:∀ t w,K { tmps:=t,defers:=[] } w→K' { tmps:=t,defers:=ds } w) (hr:∀ d w,r≠.ok (.defer d) w)
  (h:Oper.upon P o { tmps:=t,defers:=[] } K (fun e a w=>Q e { a with defers:=ds } w) r):Oper.upon P o { tmps:=t,defers:=ds } K' Q r:=by
 have put:∀ (d:Option Tmp) (v:Value) (x:List Deferred),({ tmps:=t,defers:=x }:Act).put d v={ tmps:=(({ tmps:=t,defers:=x }:Act).put d v).tmps,defers:=x }:=fun d v x=>by cases d <;> rfl
 have putT:∀ (d:Option Tmp) (v:Value),(({ tmps:=t,defers:=[] }:Act).put d v).tmps=(({ tmps:=t,defers:=ds }:Act).put d v).tmps:=fun d v=>by cases d <;> rfl
 have step:∀ (d:Option Tmp) (v:Value) (w:World),K (({ tmps:=t,defers:=[] }:Act).put d v) w→K' (({ tmps:=t,defers:=ds }:Act).put d v) w:=fun d v w hk=>by
  rw [put d v []] at hk
  rw [put d v ds,←putT d v]
  exact hK _ _ hk
 cases r with
 | ok n w' =>
  cases n with
  | value v=>exact step _ _ _ h
  | skip=>exact step _ _ _ h
  | defer d=>exact absurd rfl (hr d w')
  | enter f args =>
   refine Calls.mono h fun e w'' he=>?_
   cases e with
   | returned v=>exact step _ _ _ he
   | panicked ch=>exact he
   | outgrown=>obtain ⟨x,y,hxy⟩:=he;exact ⟨_,y,hxy⟩
  | row row args=>exact Rows.mono h fun v w'' he=>step _ _ _ he
  | _=>exact h.elim
 | halt x w'=>cases x <;> exact h
def plainOp (o:Oper):Bool:=match o.op with
 | .move _ | .assign _ | .load _ _ | .store _ _ _ | .build _ _ | .alloc _ | .box _ _ | .extract _ _ | .fieldAddr _ _ _ | .indexAddr _ _ _=>true
 | _=>false
theorem plain_no {o:Oper} (h:plainOp o=true) (ev:Operand→Value) (P:Program) (w:World):∀ d w',(execOp ev o).run P w≠.ok (.defer d) w':=by
 have hv:∀ (s:Sem Value) d w',(do pure (Next.value (←s)):Sem Next).run P w≠.ok (.defer d) w':=fun s d w' e=>by
  rw [Sem.run_bind] at e
  cases hs:s.run P w with
  | ok v w2=>rw [hs] at e;simp [Sem.run_pure] at e
  | halt x w2=>rw [hs] at e;simp at e
 have hu:∀ (s:Sem Unit) d w',(do s;pure Next.skip:Sem Next).run P w≠.ok (.defer d) w':=fun s d w' e=>by
  rw [Sem.run_bind] at e
  cases hs:s.run P w with
  | ok v w2=>rw [hs] at e;simp [Sem.run_pure] at e
  | halt x w2=>rw [hs] at e;simp at e
 intro d w' e
 unfold plainOp at h
 unfold execOp at e
 split at h
 all_goals first | (rename_i hop;rw [hop] at e;first | exact hv _ _ _ e | exact hu _ _ _ e | (simp [Sem.run_pure] at e)) | (cases h)
end Go.Vc
