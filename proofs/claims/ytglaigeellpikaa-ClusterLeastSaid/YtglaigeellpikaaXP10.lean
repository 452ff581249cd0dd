/- Cluster: components: marks, and edges within them. No program. -/
import Derived.Test.YtglaigeellpikaaXP8
namespace Go.Proofs.Ytglaigeellpikaa
open Go.Vc

theorem gdE {α : Type} [Inhabited α] {l : List α} {i : Nat} (h : i < l.length) : l.getD i default = l[i] := by simp [List.getD, h]
theorem pos_join {same : List Int} {edges : List Ed} {other : List (Int × Int)} (k : OkG same edges other) {a b : Int} (h : 0 < wtG same edges a b) : rG same edges a.toNat = rG same edges b.toNat := (cmpR_is k.v k.ok).join _ ((jC_wt same edges).2 (.inr ⟨a, b, h, rfl⟩))
end Go.Proofs.Ytglaigeellpikaa

/- Cluster: the walk of ClusterComponents. -/
namespace Go.Proofs.Ytglaigeellpikaa
open Go.Vc

end Go.Proofs.Ytglaigeellpikaa
