/- Repair: the vertices that a list of truth values selects. -/
import Derived.Test.YtlnbkoojelhjdaaGreatDoorXR18
import Derived.Test.YtlnbkoojelhjdaaGreatDoorXH22a
namespace Go.Proofs.YtlnbkoojelhjdaaGreatDoor
open Go.Vc
set_option maxRecDepth 100000 in
set_option maxHeartbeats 4000000 in
theorem some28_spec (N : Nat) (a : Option Addr) (c : Nat) (bs : List Bool) (w : World) (hS : TSl encBo 1 w a bs) (hN : N ≤ 40) (_hm : bs.length ≤ 9223372036854775807) :
    RetsX Tryz.prog 29 #[.int .i64 (N : Nat), .slice a bs.length c] w (fun y : SlI => .slice y.a y.l.length y.c) (fun y w' => OwnT Vc.encI 1 3 w.heap.size w' y.a y.c y.l ∧ setB y.l (N : Int) = true ∧ y.l.length ≤ N) := by
  refine enter (args := [_, _]) Tryz.func29 rfl Tryz.ntmps29 (by kernel_rfl) rfl ?_
  refine V.seq (V.region (VL.op (R.asS rfl) (VL.nil (V.seq (V.region (VL.op (R.asS rfl) (VL.nil (V.seq (V.seq (V.region (VL.op (R.asI rfl) (VL.nil (V.block (?_))))))))))))))
  refine V.loop [0, 1, 5, 6] (fun x : Nat × SlI => [.int .i64 (N : Nat), .slice a bs.length c, .slice x.2.a x.2.l.length x.2.c, .int .i64 (x.1 : Nat)]) (fun x w' => x.1 ≤ N ∧ OwnT Vc.encI 1 3 w.heap.size w' x.2.a x.2.c x.2.l ∧ Inc x.2.l ∧ (∀ v ∈ x.2.l, 0 ≤ v ∧ v < (x.1 : Int)) ∧ x.2.l.length ≤ x.1 ∧ Ext w w') (fun x => N - x.1) (0, ⟨none, 0, []⟩) rfl ⟨Nat.zero_le _, OwnT.nil _ _ _ _ _, List.Pairwise.nil, (fun v h => nomatch h), Nat.le_refl _, Vc.Mod.refl _ _⟩ ?_
  rintro ρ ⟨k, y⟩ w1 ⟨hk, ho, hi, hr, hl, e⟩
  dsimp only at hk ho hi hr hl e ⊢
  have hS1 := hS.ext e
  refine V.seq (V.seq (V.region (VL.op (R.mvI rfl) (VL.op (R.mvI rfl) (VL.op (R.lss rfl rfl) (VL.op (R.mvB rfl) (VL.andP rfl rfl (fun g3_3 => VL.op (R.mvI rfl) (VL.gT rfl rfl (VL.op (R.mvS rfl) (VL.gT rfl rfl (VL.op (R.lenS Tryz.runUnderlying41 rfl) (VL.gT rfl rfl (VL.op (R.lss rfl rfl) (VL.op (R.pickTB rfl rfl) (VL.nil (V.condP rfl (fun c15 => V.skip (V.seq (V.block (V.seq (V.region (VL.op (R.mvS rfl) (VL.op (R.mvI rfl) (VL.op (R.ixS Tryz.runUnderlying41 Tryz.sizeOf4 rfl rfl (by omega) (by omega) ((hS1).some (i := k) (by omega))) (VL.op (R.ld1 Tryz.isAgg4 rfl (((((hS1).ext (Mod.refl _ _)).row (i := k) (by omega)).cell (i := 0) rfl))) (VL.nil (V.cond rfl (fun c21 => V.region (VL.op (R.mvS rfl) (VL.op (R.mvI rfl) (VL.append1 el22 Tryz.runUnderlying22 Tryz.sizeOf3 Tryz.zeroValue3 rfl (((k : Nat) : Int)) rfl rfl rfl ho rfl rfl rfl (by omega) (by unfold maxLen; omega) e.size fun a6 c6 w6 vt6 ho6 m6 hf6 => VL.op (R.asS rfl) (VL.nil (V.region (VL.op (R.mvI rfl) (VL.op (R.add rfl rfl (by omega) (by omega)) (VL.op (R.asI rfl) (VL.nil (?_))))))))))) (fun c21 => V.skip (V.region (VL.op (R.mvI rfl) (VL.op (R.add rfl rfl (by omega) (by omega)) (VL.op (R.asI rfl) (VL.nil (?_)))))))))))))))))) (fun c15 => V.exit (V.seq (V.region (VL.op (R.mvS rfl) (VL.op (R.asS rfl) (VL.nil (V.ret (fret1 (v := .slice _ _ _) rfl rfl rfl (?_))))))))))))))))))) (fun g3_3 => VL.gF rfl rfl (VL.gF rfl rfl (VL.gF rfl rfl (VL.op (R.pickFB rfl rfl) (VL.nil (V.condF rfl (V.exit (V.seq (V.region (VL.op (R.mvS rfl) (VL.op (R.asS rfl) (VL.nil (V.ret (fret1 (v := .slice _ _ _) rfl rfl rfl (?_))))))))))))))))))))))
  · refine ⟨(k + 1, ⟨a6, c6, y.l ++ [((k : Nat) : Int)]⟩), ?_, ⟨by dsimp only; omega, ho6, ?_, ?_, ?_, e.ownA m6 fun q hq => ho.ge q hq⟩, by dsimp only; omega⟩
    · dsimp only; rw [List.length_append]; rfl
    · dsimp only
      exact List.pairwise_append.2 ⟨hi, List.pairwise_singleton _ _, fun x hx z hz => by rw [List.mem_singleton.1 hz]; exact (hr x hx).2⟩
    · dsimp only
      intro v hv
      rcases List.mem_append.1 hv with h | h
      · have := hr v h; omega
      · rw [List.mem_singleton.1 h]; omega
    · dsimp only; rw [List.length_append]; simp only [List.length_singleton]; omega
  · exact ⟨(k + 1, y), rfl, ⟨by dsimp only; omega, ho, hi, fun v hv => by have := hr v hv; dsimp only; omega, by dsimp only; omega, e⟩, by dsimp only; omega⟩
  all_goals exact ⟨y, rfl, ⟨ho, setB_iff.2 ⟨hi, fun v hv => by have := hr v hv; omega⟩, by omega⟩, e⟩
end Go.Proofs.YtlnbkoojelhjdaaGreatDoor
