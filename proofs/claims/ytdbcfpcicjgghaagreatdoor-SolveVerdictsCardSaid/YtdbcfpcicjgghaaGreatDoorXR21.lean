/- Repair: the vertices that a list of truth values selects. -/
import Derived.Test.YtdbcfpcicjgghaaGreatDoorXR18
import Derived.Test.YtdbcfpcicjgghaaGreatDoorXH22a
import Derived.Test.YtdbcfpcicjgghaaGreatDoorXR17
namespace Go.Proofs.YtdbcfpcicjgghaaGreatDoor
set_option maxHeartbeats 16000000
set_option maxRecDepth 100000
open Go.Vc
end Go.Proofs.YtdbcfpcicjgghaaGreatDoor

/- Repair: the walk of law RepairAll. -/
namespace Go.Proofs.YtdbcfpcicjgghaaGreatDoor
open Go.Vc
theorem list_is {w:World} {B:Nat} {g:Gr} {x:LsR} (hg:validG g = true) (_ho:LsOk B w x.a x.c x.L) (hv:(vals x.L, x.e) = listG g) :
  (x.e = 0 ∧ (∀ R, R ∈ vals x.L ↔ IsRep g R) ∧ Up lexB (vals x.L) ∧ 0 < x.L.length ∧ x.L.length ≤ 1000) ∨ x.e = 3:=by
 unfold listG at hv
 rw [if_pos hg] at hv
 by_cases h:(repsG g).length ≤ 1000
 ·rw [if_pos h] at hv
  have h1:vals x.L = repsG g:=congrArg Prod.fst hv
  have h2:x.e = 0:=congrArg Prod.snd hv
  have h3:x.L.length = (repsG g).length:=by rw [← h1]; exact (List.length_map _).symm
  have h4:0 < (repsG g).length:=List.length_pos_iff.2 (reps_ne hg)
  exact .inl ⟨h2, fun R=>by rw [h1]; exact reps_mem hg, by rw [h1]; exact reps_up hg, by omega, by omega⟩
 ·rw [if_neg h] at hv
  exact .inr (congrArg Prod.snd hv)
theorem rep_len {g:Gr} {R:List Int} (hR:IsRep g R) (h0:0 ≤ g.n):(R.length:Int) ≤ g.n:=by
 have h5:=setB_iff.1 hR.set
 exact set_len h5.1 h5.2 h0
end Go.Proofs.YtdbcfpcicjgghaaGreatDoor
