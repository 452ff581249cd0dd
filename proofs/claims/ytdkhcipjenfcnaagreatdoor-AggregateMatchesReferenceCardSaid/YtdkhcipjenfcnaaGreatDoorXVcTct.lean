/- Own library: three results, of which the middle one lies in memory. -/
import Derived.Test.YtdkhcipjenfcnaaGreatDoorXVcGuard
namespace Go.Vc
set_option maxRecDepth 100000
set_option maxHeartbeats 16000000
section
variable {P:Program} {ρ:Env} {w:World} {ty t:TypeId} {x y:Operand}
theorem R.storeB {ad:Addr} {v:Value} {c:Array Value} {T:TypeId} {s:Nat} {C:World→Prop} (hsz:∀ w,(sizeOf t).run P w=.ok s w) (hl:v.cells.size=s) (hx:tm ρ x=.pointer (some ad)) (hsp:ad.spot=none) (hy:tm ρ y=v)
  (hB:Blk w ad.block (.cells c T (0,0))) (hfit:Nat.ble (ad.off+v.cells.size) c.size=true) (h1:allOne v.cells.toList=true)
  (h:∀ w',Mod (one ad.block) w w'→Blk w' ad.block (.cells (putCells c ad.off v.cells.toList) T (0,0))→C w'):∃ w',run1 P ρ (.store t x y) ty w=.ok .skip w'∧C w':=by
 subst hl
 obtain ⟨b,off,sp⟩:=ad
 cases hsp
 refine ⟨w.setRow b (putCells c off v.cells.toList),?_,h _ (setRow_mod _ _ _) (setRow_heap w b c _ T _ hB)⟩
 have:=storeVar_run (P:=P) (t:=t) hsz hB (Nat.le_of_ble_eq_true hfit) ((allOne_iff _).1 h1)
 simp only [run1,execOp,hx,hy,Instr.storeAt,Instr.sureAddr,Sem.run_bind,Sem.run_pure,Result.andThen_ok,this]
end
def PutC (w:World) (b:Nat) (c:Array Value) (T:TypeId) (w':World):Prop:=Mod (one b) w w'∧Blk w' b (.cells c T (0,0))
end Go.Vc
