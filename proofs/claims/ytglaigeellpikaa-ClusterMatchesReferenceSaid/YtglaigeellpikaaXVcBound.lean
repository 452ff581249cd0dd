/- Own library: ways, repairs, and what bounds say, plainly. No program. -/
import Derived.Test.YtglaigeellpikaaXVcFix
namespace Go.Vc
structure Wy where
  pos : List Int
  neg : List Int
instance : Inhabited Wy := ⟨⟨[], []⟩⟩
end Go.Vc
