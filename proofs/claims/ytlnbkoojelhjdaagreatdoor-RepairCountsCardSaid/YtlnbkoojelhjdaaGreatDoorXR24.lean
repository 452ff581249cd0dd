/- Repair: graphs whose components are small; the count of a component. -/
import Derived.Test.YtlnbkoojelhjdaaGreatDoorXR12
import Derived.Test.YtlnbkoojelhjdaaGreatDoorXR18
import Derived.Test.YtlnbkoojelhjdaaGreatDoorXQ6
namespace Go.Proofs.YtlnbkoojelhjdaaGreatDoor
open Go.Vc
set_option maxRecDepth 100000
set_option maxHeartbeats 16000000
def narrowB (g : Gr) : Bool := (compsG g).all fun c => decide (c.length ≤ 10)
theorem narrowB_iff {g : Gr} : narrowB g = true ↔ ∀ c ∈ compsG g, c.length ≤ 10 := by simp [narrowB]
theorem narrow_spec (g : GrW) (w : World) (hG : GOk w g) (hl : GLen g) (hn : g.n ≤ 100) :
  RetsP Tryz.prog 22 #[.agg (encGr g).toArray] w (.bool (narrowB (grV g))) := by
 refine enter (args := [_]) Tryz.func22 rfl Tryz.ntmps22 (by kernel_rfl) rfl ?_
 refine V.seq (V.region (VL.box (v := .agg _) rfl fun b0_0 w0_0 hb0_0 e0_0 hB0_0 => VL.op (R.asB rfl) (VL.nil (V.seq (V.region (VL.op (R.ldA Tryz.isAgg25 Tryz.sizeOf25 rfl rfl ((show RowAt _ _ _ (encGr g) from (hB0_0.rowAt 0 3))) rfl) (VL.callX Tryz.call53 rfl (rcomps_spec g _ (hG.ext e0_0) hl) fun z w1 ⟨hz, hL⟩ e1 => VL.op (R.asS rfl) (VL.nil (V.seq (V.seq (?_)))))))))))
 have hzl : z.1.length = (compsG (grV g)).length := by rw [← hz]; exact (List.length_map _).symm
 have hb : (compsG (grV g)).length ≤ 100 ∧ ∀ c ∈ compsG (grV g), c.length ≤ 100 := by
  have hgn : (grV g).n = g.n := rfl
  unfold compsG
  split
  ·refine ⟨by rw [grpsK_len]; exact Nat.le_trans (hdsK_len _ _) (by omega), fun e he => ?_⟩
   obtain ⟨hh, _, rfl⟩ := List.mem_map.1 he
   exact Nat.le_trans (memsK_len _ _ _) (by omega)
  ·exact ⟨Nat.zero_le _, fun e he => by cases he⟩
 have hat : ∀ i, i < z.1.length → (compsG (grV g)).getD i default = (z.1.getD i default).l := fun i hi => by rw [← hz]; exact gmap SlI.l z.1 default hi
 refine V.region (VL.op (R.asI rfl) (VL.nil (V.block (?_))))
 refine V.loop [3, 4] (fun k : Nat => [.slice z.2.1 z.1.length z.2.2, .int .i64 (k : Nat)]) (fun k w' => k ≤ z.1.length ∧ (∀ i, i < k → (z.1.getD i default).l.length ≤ 10) ∧ Ext w1 w') (fun k => z.1.length - k) 0 rfl ⟨Nat.zero_le _, fun i h => absurd h (Nat.not_lt_zero i), Vc.Mod.refl _ _⟩ ?_
 rintro ρ k w2 ⟨hk, hs, e2⟩
 have hL2 := hL.ext e2
 refine V.seq (V.seq (V.region (VL.op (R.mvI rfl) (VL.op (R.mvS rfl) (VL.op (R.lenS Tryz.runUnderlying23 rfl) (VL.op (R.lss rfl rfl) (VL.nil (V.condP rfl (fun c10 => V.skip (V.seq (V.block (V.seq (?_))))) (fun c10 => V.exit (V.seq (V.region (VL.op (R.asB rfl) (VL.nil (V.ret (fret1 (v := .bool _) rfl rfl rfl (?_))))))))))))))))
 ·have hkl : k < z.1.length := by omega
  have hxl : (z.1.getD k default).l.length ≤ 100 := by rw [← hat k hkl]; exact hb.2 _ (gmem (by omega))
  refine V.region (VL.op (R.mvS rfl) (VL.op (R.mvI rfl) (VL.op (R.ixS Tryz.runUnderlying23 Tryz.sizeOf22 rfl rfl (by omega) (by omega) ((hL2.sl).some (i := k) (by omega))) (VL.op (R.ld1 Tryz.isAgg22 rfl (((((hL2.sl).ext (Mod.refl _ _)).row (i := k) (by omega)).cell (i := 0) rfl))) (VL.op (R.lenS Tryz.runUnderlying22 rfl) (VL.op (R.gtr rfl rfl) (VL.nil (V.condP rfl (fun c18 => V.seq (V.region (VL.op (R.asB rfl) (VL.nil (V.ret (fret1 (v := .bool _) rfl rfl rfl (⟨?_, (e0_0.trans e1).trans e2⟩))))))) (fun c18 => V.skip (V.region (VL.op (R.mvI rfl) (VL.op (R.add rfl rfl (by omega) (by omega)) (VL.op (R.asI rfl) (VL.nil (?_)))))))))))))))
  ·have : narrowB (grV g) = false := Bool.eq_false_iff.2 fun hh => by
    have := narrowB_iff.1 hh ((compsG (grV g)).getD k default) (gmem (by omega))
    rw [hat k hkl] at this
    omega
   rw [this]
  ·refine ⟨k + 1, rfl, ⟨by omega, fun i hi => ?_, e2⟩, by omega⟩
   by_cases h : i = k
   ·subst h; omega
   ·exact hs i (by omega)
 ·have hke : k = z.1.length := by omega
  subst hke
  refine ⟨?_, (e0_0.trans e1).trans e2⟩
  have : narrowB (grV g) = true := narrowB_iff.2 fun c hc => by
   obtain ⟨i, hi, rfl⟩ := List.getElem_of_mem hc
   have := hs i (by omega)
   rwa [← hat i (by omega), gget hi] at this
  rw [this]
theorem cnt_comp {g : Gr} (hg : validG g = true) {c : List Int} (hc : c ∈ compsG g) (hl : c.length ≤ 10) : countG (partG g c) = (cntL (partG g c), 0) ∧ 1 ≤ cntL (partG g c) ∧ cntL (partG g c) ≤ 1024 := by
 have hpv := part_valid hg (comps_set hg hc)
 have hn : (partG g c).n = ((c.length : Nat) : Int) := rfl
 have h1 := part_comp1 hg hc
 have hpa := part_all hpv hn
 have hlen : (repsG (partG g c)).length ≤ 2 ^ c.length := repK_len _ _ _ _
 have hpow : 2 ^ c.length ≤ 2 ^ 10 := Nat.pow_le_pow_right (by decide) hl
 have hpos : 0 < (repsG (partG g c)).length := List.length_pos_iff.2 (reps_ne hpv)
 have hk : 1 ≤ cntL (partG g c) ∧ cntL (partG g c) ≤ 1024 := by unfold cntL; omega
 refine ⟨?_, hk⟩
 have hpe : partsE (partG g c) = 0 := by
  unfold partsE
  rw [if_pos hpv, h1, if_neg]
  simp [rngI_len]; omega
 unfold countG
 rw [if_pos hpe, h1]
 show cntR [cntL (partG (partG g c) (rngI c.length))] 1 = _
 rw [hpa, cntR_cons, if_neg (by omega), Int.one_mul]
 rfl
end Go.Proofs.YtlnbkoojelhjdaaGreatDoor
