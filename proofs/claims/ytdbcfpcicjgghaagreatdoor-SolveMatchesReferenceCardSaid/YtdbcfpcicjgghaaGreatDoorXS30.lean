/- Solve: the same ways in another order, more ways. Plain. -/
import Derived.Test.YtdbcfpcicjgghaaGreatDoorXS28
namespace Go.Proofs.YtdbcfpcicjgghaaGreatDoor
set_option maxHeartbeats 16000000
set_option maxRecDepth 100000
open Go.Vc
theorem named_len {g:Gr} {W:List Wy} (hr:readyG g W=true):(ptI g W).length≤g.n.toNat:=by
 have hv:=(ready_ok hr true []).v
 have hn0:=(costB_iff.1 (validG_iff.1 hv).1).1
 have:=set_len (srt_lt (ptL_nd hv W)) (fun v hvm=>ptI_rng hv hvm) hn0
 unfold ptI
 omega
theorem dc_small {g:Gr} {W:List Wy} (he:errG g W=0) (hn:g.n≤4000) (hp:(ptI g W).length≤15):(decideF g W).2=0:=by
 rcases decide_cases he with ⟨R,Q,h1,_⟩ | ⟨R,S,h1,_⟩ | ⟨Q,S,h1,_⟩ | ⟨h1,h2 | h2⟩
 ·rw [h1]
 ·rw [h1]
 ·rw [h1]
 ·exact absurd h2 (exists_small he hn hp)
 ·exact absurd h2 (exists_small he hn hp)
theorem dc_code {g:Gr} {W:List Wy} (hn:g.n≤4000) (hp:(ptI g W).length≤15):(decideF g W).2=errG g W:=by
 by_cases he:errG g W=0
 ·rw [dc_small he hn hp,he]
 ·rw [decide_err he]
theorem ready_len {g:Gr} {W:List Wy} (hn:g.n≤15):errG g W=(if readyG g W=true then 0 else 1)∧(decideF g W).2=errG g W:=by
 by_cases hr:readyG g W=true
 ·have h1:=named_len hr
  have h2:errG g W=0:=by
   unfold errG
   rw [if_pos hr,if_neg (by omega)]
  exact ⟨by rw [h2,if_pos hr],dc_code (by omega) (by omega)⟩
 ·have h2:errG g W=1:=by unfold errG;rw [if_neg hr]
  exact ⟨by rw [h2,if_neg hr],by rw [decide_err (by rw [h2];decide)]⟩
theorem fst_uniq {g:Gr} {W V:List Wy} {h:Bool} {R Q:List Int} (hR:FstR g W h R) (hQ:FstR g V h Q) (hs:∀ X,someW W X=someW V X):R=Q:=by
 rcases hR.f Q hQ.r (by rw [hs];exact hQ.s) with e | e
 ·exact e.symm
 ·rcases hQ.f R hR.r (by rw [←hs];exact hR.s) with e2 | e2
  ·exact e2
  ·have:=lexB_sto.trans _ _ _ e e2
   rw [lexB_sto.irr] at this;cases this
end Go.Proofs.YtdbcfpcicjgghaaGreatDoor
