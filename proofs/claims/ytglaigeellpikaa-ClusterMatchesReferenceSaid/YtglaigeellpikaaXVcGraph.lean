/- Own library: containing, freedom of conflicts, graphs, components, plainly. No program. -/
import Derived.Test.YtglaigeellpikaaXVcSet
namespace Go.Vc
structure Gr where
  n : Int
  cost : List Int
  edges : List (List Int)
  deriving DecidableEq
instance : Inhabited Gr := ⟨⟨0, [], []⟩⟩
end Go.Vc
