/- Repair: the plain values at the head's examples. -/
import Derived.Test.YtlnbkoojelhjdaaGreatDoorXR13
namespace Go.Proofs.YtlnbkoojelhjdaaGreatDoor
open Go.Vc
abbrev gA : Gr := ⟨3, [0, 0, 0], [[0, 1], [1, 2]]⟩
abbrev gB : Gr := ⟨4, [0, 1, 2, 2], [[0, 1], [2, 3]]⟩
abbrev gC : Gr := ⟨3, [0, 0, 0], [[0, 1, 2]]⟩
abbrev gD : Gr := ⟨2, [0, 0], [[1]]⟩
abbrev gE : Gr := ⟨0, [], []⟩
set_option maxRecDepth 100000
set_option maxHeartbeats 4000000
theorem lA : listG gA = ([[0, 2], [1]], 0) := by decide
theorem cA : countG gA = (2, 0) := by decide
theorem lC : listG gC = ([[0, 1], [0, 2], [1, 2]], 0) := by decide
theorem cC : countG gC = (3, 0) := by decide
theorem lD : listG gD = ([[0]], 0) := by decide
theorem cD : countG gD = (1, 0) := by decide
theorem lE : listG gE = ([[]], 0) := by decide
theorem cE : countG gE = (1, 0) := by decide
theorem lB : listG gB = ([[0, 2], [0, 3], [1, 2], [1, 3]], 0) := by decide
theorem cB : countG gB = (4, 0) := by decide
theorem eA : loadB gA [1] = true ∧ extF gA [1] = [1] := by decide
theorem iA1 : isB gA [1] = true := by decide
theorem iA0 : isB gA [0] = false := by decide
theorem nA0 : loadB gA [0] = true := by decide
theorem nA1 : loadB gA [0, 1] = false := by decide
theorem pB : (partsC gB) = ([([0], 0), ([2], 2)], 0) := by decide
theorem chB : cheapG gB = (([0, 2], 2), 0) := by
  unfold cheapG
  rw [if_pos (by decide), pB]
  refine Prod.ext (Prod.ext ?_ ?_) rfl
  · show srtF [0, 2] = [0, 2]
    exact List.mergeSort_of_pairwise (by decide)
  · decide
end Go.Proofs.YtlnbkoojelhjdaaGreatDoor
