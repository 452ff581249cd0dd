/- Repair: what the search asks of a vertex that is left out. -/
import Derived.Test.YtdbcfpcicjgghaaGreatDoorXN9
import Derived.Test.YtdbcfpcicjgghaaGreatDoorXVcRepP
import Derived.Test.YtdbcfpcicjgghaaGreatDoorXVcInR
namespace Go.Proofs.YtdbcfpcicjgghaaGreatDoor
set_option maxHeartbeats 16000000
set_option maxRecDepth 100000
open Go.Vc
end Go.Proofs.YtdbcfpcicjgghaaGreatDoor

/- Repair: the search's state. -/
namespace Go.Proofs.YtdbcfpcicjgghaaGreatDoor
open Go.Vc
structure FxR where
 g:GrW
 N:Nat
 l:Nat
 ne:Nat
 B:Nat
 U:Nat
 gb:Nat
 yb:Nat
 sb:Nat
 vb:Nat
 ob:Nat
 pb:Nat
 oB:Nat
def FxR.T (x:FxR) (k:Nat):Prop:=(x.B≤k∧k<x.U)∨k=x.gb
end Go.Proofs.YtdbcfpcicjgghaaGreatDoor

/- Repair: the search. -/
namespace Go.Proofs.YtdbcfpcicjgghaaGreatDoor
open Go.Vc
end Go.Proofs.YtdbcfpcicjgghaaGreatDoor

/- Repair: the iterator over all repairs. -/
namespace Go.Proofs.YtdbcfpcicjgghaaGreatDoor
open Go.Vc
end Go.Proofs.YtdbcfpcicjgghaaGreatDoor

/- Repair: Independent, Is. -/
namespace Go.Proofs.YtdbcfpcicjgghaaGreatDoor
open Go.Vc
def isB (g:Gr) (S:List Int):Bool:=loadB g S&&(List.range g.n.toNat).all fun v=>decide ((v:Int)∈S)||blkB g.edges S (v:Int)
theorem isB_iff {g:Gr} (hg:validG g=true) {S:List Int}:isB g S=true↔IsRep g S:=by
 unfold isB
 rw [Bool.and_eq_true,loadB_iff,List.all_eq_true]
 constructor
 ·rintro ⟨⟨_,hs,hi⟩,hall⟩
  refine ⟨hs,indB_iff.1 hi,fun v h0 h1 hv=>?_⟩
  have:=hall v.toNat (List.mem_range.2 (by omega))
  rw [show ((v.toNat:Nat):Int)=v by omega,decide_eq_false hv,Bool.false_or] at this
  exact blkB_iff.1 this
 ·rintro ⟨hs,hi,hm⟩
  refine ⟨⟨hg,hs,indB_iff.2 hi⟩,fun u hu=>?_⟩
  have hu:=List.mem_range.1 hu
  by_cases h:(u:Int)∈S
  ·rw [decide_eq_true h];rfl
  ·rw [show blkB g.edges S (u:Int)=true from blkB_iff.2 (hm u (by omega) (by omega) h),Bool.or_true]
end Go.Proofs.YtdbcfpcicjgghaaGreatDoor

/- Repair: List. -/
namespace Go.Proofs.YtdbcfpcicjgghaaGreatDoor
open Go.Vc
def listG (g:Gr):List (List Int)×Int:=if validG g=true then (if (repsG g).length≤1000 then (repsG g,0) else ([],3)) else ([],1)
structure LsR where
 a:Option Addr
 c:Nat
 L:List SlI
 e:Int
end Go.Proofs.YtdbcfpcicjgghaaGreatDoor
