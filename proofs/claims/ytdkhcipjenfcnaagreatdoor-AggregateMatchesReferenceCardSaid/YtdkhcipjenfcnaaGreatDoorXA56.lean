/- Aggregate: the walk of law AggregateSound. -/
import Derived.Test.YtdkhcipjenfcnaaGreatDoorXA53
import Derived.Test.YtdkhcipjenfcnaaGreatDoorXA54
namespace Go.Proofs.YtdkhcipjenfcnaaGreatDoor
set_option maxRecDepth 100000
set_option maxHeartbeats 16000000
open Go.Vc
theorem small31_iff {g:Gr} {n:Int} {wl:Nat} (h:small31 g n wl=true):smallB g n=true∧confI g.edges g.n.toNat≤12∧(wl:Int)≤n+1:=by
 unfold small31 at h
 simp only [Bool.and_eq_true,decide_eq_true_eq] at h
 exact ⟨h.1,h.2.1,h.2.2⟩
theorem sumS {g:GrW} {wa:Option Addr} {wc:Nat} {ws:List Int} {n:Int} {B:Nat} {w w':World} (hI:GIn w g) (hs:small31 (grV g) n ws.length=true) (hn:n≤20) (hW:IntSl w' wa ws) (hB:B≤w.heap.size) (hT:TabW B w) (e:Ext w w') :
  RetsX Tryz.prog 13 #[.agg (encGr g).toArray,.slice wa ws.length wc] w' (fun z:SpX×Int=>.tuple #[.agg (encSp z.1).toArray,.int .i64 z.2]) (fun z w2=>SpOk w'.heap.size w2 z.1∧SumR (grV g) ws z.1 z.2):=by
 obtain ⟨h1,h2,h3⟩:=small31_iff hs
 exact sum31_spec g wa wc ws B w' (hI.ok.ext e) (small_glen hI h1) hW (by omega) (Nat.le_trans hB e.size) (hT.ext hB e) fun _=>h2
end Go.Proofs.YtdkhcipjenfcnaaGreatDoor
