/- Repair: vertices in every repair, in none. (Printed by mkB.py.) -/
import Derived.Test.YtdkhcipjenfcnaaGreatDoorXA47
namespace Go.Proofs.YtdkhcipjenfcnaaGreatDoor
set_option maxRecDepth 100000
set_option maxHeartbeats 16000000
open Go.Vc
/-! ### Components -/
/-! ### Counts -/
end Go.Proofs.YtdkhcipjenfcnaaGreatDoor
