/- Own library: parts of graphs, plainly. No program. -/
import Derived.Test.YtglaigeellpikaaXVcComp
namespace Go.Vc
theorem getI {l : List Int} {i : Nat} (h : i < l.length) : l.getD i default = l[i] := by simp [List.getD, h]
theorem inc_at {l : List Int} (h : Inc l) {i j : Nat} (hij : i < j) (hj : j < l.length) : l.getD i default < l.getD j default := by
  rw [getI (Nat.lt_trans hij hj), getI hj]
  exact List.pairwise_iff_getElem.1 h i j (Nat.lt_trans hij hj) hj hij
end Go.Vc
