/- Aggregate: the walk of law AggregatePeaks. -/
import Derived.Test.YtdkhcipjenfcnaaGreatDoorXA56
namespace Go.Proofs.YtdkhcipjenfcnaaGreatDoor
set_option maxRecDepth 100000
set_option maxHeartbeats 16000000
open Go.Vc
theorem peakS {g:GrW} {wa:Option Addr} {wc:Nat} {ws:List Int} {n:Int} {B:Nat} {w w':World} (hI:GIn w g) (hs:smallB (grV g) n=true) (hW:IntSl w' wa ws) (hwl:ws.length≤1000000) (hB:B≤w.heap.size) (hT:TabW B w) (e:Ext w w') :
  RetsX Tryz.prog 15 #[.agg (encGr g).toArray,.slice wa ws.length wc] w' (fun z:SpX×Int=>.tuple #[.agg (encSp z.1).toArray,.int .i64 z.2]) (fun z w2=>SpOk w'.heap.size w2 z.1∧PeakR (grV g) ws z.1 z.2) :=
 peak31_spec g wa wc ws B w' (hI.ok.ext e) (small_glen hI hs) hW hwl (Nat.le_trans hB e.size) (hT.ext hB e)
end Go.Proofs.YtdkhcipjenfcnaaGreatDoor
