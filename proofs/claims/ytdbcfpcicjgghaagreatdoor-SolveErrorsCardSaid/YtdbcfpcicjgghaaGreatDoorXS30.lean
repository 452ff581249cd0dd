/- Solve: the same ways in another order, more ways. Plain. -/
import Derived.Test.YtdbcfpcicjgghaaGreatDoorXS28
namespace Go.Proofs.YtdbcfpcicjgghaaGreatDoor
set_option maxHeartbeats 16000000
set_option maxRecDepth 100000
open Go.Vc
theorem dc_small {g:Gr} {W:List Wy} (he:errG g W = 0) (hn:g.n ≤ 4000) (hp:(ptI g W).length ≤ 15):(decideF g W).2 = 0:=by
 rcases decide_cases he with ⟨R, Q, h1, _⟩ | ⟨R, S, h1, _⟩ | ⟨Q, S, h1, _⟩ | ⟨h1, h2 | h2⟩
 ·rw [h1]
 ·rw [h1]
 ·rw [h1]
 ·exact absurd h2 (exists_small he hn hp)
 ·exact absurd h2 (exists_small he hn hp)
theorem dc_code {g:Gr} {W:List Wy} (hn:g.n ≤ 4000) (hp:(ptI g W).length ≤ 15):(decideF g W).2 = errG g W:=by
 by_cases he:errG g W = 0
 ·rw [dc_small he hn hp, he]
 ·rw [decide_err he]
end Go.Proofs.YtdbcfpcicjgghaaGreatDoor
