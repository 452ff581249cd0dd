/- Repair: a set with a further vertex, in the reference. -/
import Derived.Test.YtdbcfpcicjgghaaGreatDoorXHG
namespace Go.Proofs.YtdbcfpcicjgghaaGreatDoor
open Go.Vc
set_option maxRecDepth 100000
set_option maxHeartbeats 16000000
theorem rsetN_spec (a : Option Addr) (c n : Nat) (l : List Int) (w : World) (hn : n = l.length) (hm : l.length ≤ 1000000) (hS : IntSl w a l) :
  RetsX Tryz.prog 113 #[.slice a n c] w (fun x : Option Addr × Nat => .slice x.1 (setF l).length x.2) (fun x w' => OwnT Vc.encI 1 3 w.heap.size w' x.1 x.2 (setF l)) := by
 subst hn
 exact rset_spec a c l w hm hS
theorem put28_spec (a : Option Addr) (c : Nat) (S : List Int) (v : Int) (w : World) (hm : S.length ≤ 100000) (hax : a = none → c = 0) (hS : IntSl w a S) :
  RetsX Tryz.prog 87 #[.slice a S.length c, .int .i64 v] w (fun x : Option Addr × Nat => .slice x.1 (setF (S ++ [v])).length x.2) (fun x w' => OwnT Vc.encI 1 3 w.heap.size w' x.1 x.2 (setF (S ++ [v]))) := by
 refine enter (args := [_, _]) Tryz.func87 rfl Tryz.ntmps87 (by kernel_rfl) rfl ?_
 refine V.seq (V.region (VL.op (R.asS rfl) (VL.nil (V.seq (V.region (VL.buildSl Tryz.runUnderlying22 Tryz.sizeOf3 Tryz.zeroValue3 rfl rfl rfl fun b1 w1 hb1 e1 hB1 => VL.op (R.mvS rfl) (VL.appendT el22 (fun _ => rfl) rfl (rfl) ((OwnT.of0 Vc.encI 1 hB1 (Nat.le_of_eq hb1.symm))) rfl (rfl) ((hS.ext e1)) (hax) (by simp; omega) (by simp [maxLen]; omega) e1.size (show 0 + S.length = ([] ++ S : List Int).length by simp) fun a2 c2 w2 ho2 m2 hf2 => VL.op (R.mvI rfl) (VL.append1 el22 Tryz.runUnderlying22 Tryz.sizeOf3 Tryz.zeroValue3 rfl (v) rfl rfl rfl ho2 rfl rfl rfl (by simp; omega) (by simp [maxLen]; omega) (Nat.le_trans e1.size m2.size) fun a3 c3 w3 vt3 ho3 m3 hf3 => VL.callX Tryz.call113 rfl (rsetN_spec a3 c3 (([] ++ S : List Int).length + 1) (([] ++ S) ++ [v]) w3 (by simp) (by simp; omega) (OwnT.sl ho3)) fun s4 w4 hS4 e4 => VL.op (R.asS rfl) (VL.nil (V.ret (fret1 (v := .slice _ _ _) rfl rfl rfl (?_))))))))))))
 have E1 : Ext w w3 := ((e1.ownA m2 fun q hq => by have := aBlk_some hq; omega).ownA m3 fun q hq => ho2.ge q hq)
 rw [List.nil_append] at hS4 ⊢
 exact ⟨s4, rfl, hS4.weaken E1.size, E1.trans e4⟩
end Go.Proofs.YtdbcfpcicjgghaaGreatDoor
