/- Own library: three results, of which the middle one lies in memory. -/
import Derived.Test.YtjocoefpnboccaaGreatDoorXVcGuard
import Derived.Test.YtjocoefpnboccaaGreatDoorXVcOwn
namespace Go.Vc
set_option maxHeartbeats 16000000
set_option maxRecDepth 100000
section
variable {P:Program} {N:Nat} {ρ:Env} {w:World} {t:TypeId}
theorem fretTCT {fn:Func} {R:Value→World→Prop} {b a u s:Nat} {ad:Addr} {cs:List Value} {v x:Value} (hr:fn.results=#[.tmp b,.cell a t,.tmp u]) (hb:Nat.blt b N=true) (ha:Nat.blt a N=true) (hu:Nat.blt u N=true) (hz:tm ρ (.tmp b)=x) (hx:tm ρ (.tmp a)=.pointer (some ad)) (hv:tm ρ (.tmp u)=v) (hg:∀ w,(isAgg t).run P w=.ok true w) (hs:∀ w,(sizeOf t).run P w=.ok s w)
  (hsp:ad.spot=none) (hrow:RowAt w ad.block ad.off cs) (hl:cs.length=s) (h:R (.tuple #[x,.agg cs.toArray,v]) w):fpost P N fn R .ret ρ w:=by
 subst hl
 refine ⟨⟨.tuple #[x,.agg cs.toArray,v],?_,h⟩⟩
 have hz:ρ b=x:=hz
 have hx:ρ a=.pointer (some ad):=hx
 have hv:ρ u=v:=hv
 have e0:=tmps_getD (ρ:=ρ) hb
 have e:=tmps_getD (ρ:=ρ) ha
 have e2:=tmps_getD (ρ:=ρ) hu
 rw [hz] at e0
 rw [hx] at e
 rw [hv] at e2
 have hl:=loadVar_agg (P:=P) hg hs hsp hrow
 simp only [results,hr]
 simp at e0 e e2
 simp [e0,e,e2,asAddr,hl,Result.andThen_ok]
end
section
variable {P:Program} {ρ:Env} {w:World} {ty t ty2:TypeId} {x y:Operand} {e:TypeId}
theorem R.eqlPn {a:Option Addr} (hu:∀ w,(underlying t).run P w=.ok (.pointer e) w) (hx:tm ρ x=.pointer a) (hy:tm ρ y=.pointer none):run1 P ρ (.binOp .eql t x y ty2) ty w=.ok (.value (.bool (decide (a=none)))) w:=by
 have hp:(eqGuard .eql t x y (.pointer a) (.pointer none)).run P w=.ok () w:=by
  simp [eqGuard,go_sem]
 have h:(Op.equal t (.pointer a) (.pointer none)).run P w=.ok (decide (a=none)) w:=by
  show (Op.equalIn (9999+1) t _ _).run P w=_
  unfold Op.equalIn
  cases a <;> simp [go_sem,hu]
 simp only [run1,execOp,hx,hy,Sem.run_bind,hp,Result.andThen_ok,binOp,h,Sem.run_pure]
end
section
variable {P:Program} {ρ:Env} {w:World} {ty t:TypeId} {x y:Operand}
theorem R.storeB {ad:Addr} {v:Value} {c:Array Value} {T:TypeId} {s:Nat} {C:World→Prop} (hsz:∀ w,(sizeOf t).run P w=.ok s w) (hl:v.cells.size=s) (hx:tm ρ x=.pointer (some ad)) (hsp:ad.spot=none) (hy:tm ρ y=v)
  (hB:Blk w ad.block (.cells c T (0,0))) (hfit:Nat.ble (ad.off+v.cells.size) c.size=true) (h1:allOne v.cells.toList=true)
  (h:∀ w',Mod (one ad.block) w w'→Blk w' ad.block (.cells (putCells c ad.off v.cells.toList) T (0,0))→C w'):∃ w',run1 P ρ (.store t x y) ty w=.ok .skip w'∧C w':=by
 subst hl
 obtain ⟨b,off,sp⟩:=ad
 cases hsp
 refine ⟨w.setRow b (putCells c off v.cells.toList),?_,h _ (setRow_mod _ _ _) (setRow_heap w b c _ T _ hB)⟩
 have:=storeVar_run (P:=P) (t:=t) hsz hB (Nat.le_of_ble_eq_true hfit) ((allOne_iff _).1 h1)
 simp only [run1,execOp,hx,hy,Instr.storeAt,Instr.sureAddr,Sem.run_bind,Sem.run_pure,Result.andThen_ok,this]
end
def PutC (w:World) (b:Nat) (c:Array Value) (T:TypeId) (w':World):Prop:=Mod (one b) w w'∧Blk w' b (.cells c T (0,0))
end Go.Vc
