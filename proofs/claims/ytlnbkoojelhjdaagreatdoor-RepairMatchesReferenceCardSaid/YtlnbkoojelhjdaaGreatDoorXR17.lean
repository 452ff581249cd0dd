/- Repair: small graphs. -/
import Derived.Test.YtlnbkoojelhjdaaGreatDoorXHG
import Derived.Test.YtlnbkoojelhjdaaGreatDoorXR15
import Derived.Test.YtlnbkoojelhjdaaGreatDoorXJ
namespace Go.Proofs.YtlnbkoojelhjdaaGreatDoor
open Go.Vc
set_option maxRecDepth 100000
set_option maxHeartbeats 16000000
def smallB (g : Gr) (n : Int) : Bool := decide (g.n ≤ n) && (decide ((g.cost.length : Int) ≤ n + 1) && (decide (g.edges.length ≤ 30) && g.edges.all fun e => decide (e.length ≤ 6)))
theorem smallB_iff {g : Gr} {n : Int} : smallB g n = true ↔ g.n ≤ n ∧ (g.cost.length : Int) ≤ n + 1 ∧ g.edges.length ≤ 30 ∧ ∀ e ∈ g.edges, e.length ≤ 6 := by
 unfold smallB
 simp only [Bool.and_eq_true, decide_eq_true_eq, List.all_eq_true]
theorem small_spec (g : GrW) (n : Int) (w : World) (hG : GOk w g) (_hlc : g.cost.length ≤ 9223372036854775807) (hle : g.edges.length ≤ 9223372036854775807) (hlk : ∀ x ∈ g.edges, x.l.length ≤ 9223372036854775807) (hn0 : 0 ≤ n) (hn1 : n ≤ 1000000) :
  RetsP Tryz.prog 12 #[.agg (encGr g).toArray, .int .i64 n] w (.bool (smallB (grV g) n)) := by
 have hev : (grV g).edges.length = g.edges.length := List.length_map _
 refine enter (args := [_, _]) Tryz.func12 rfl Tryz.ntmps12 (by kernel_rfl) rfl ?_
 refine V.seq (V.region (VL.box (v := .agg _) rfl fun b0_0 w0_0 hb0_0 e0_0 hB0_0 => VL.op (R.asB rfl) (VL.nil (V.seq (V.seq (V.region (VL.op (R.fld' (o := 0) Tryz.runUnderlying25 rfl rfl Tryz.sizeOf3 rfl rfl) (VL.op (R.ld1 Tryz.isAgg3 rfl ((show w0_0.cell? ⟨b0_0, 0, none⟩ = some (Value.int .i64 g.n) from hB0_0.cell 0))) (VL.op (R.mvI rfl) (VL.op (R.gtr rfl rfl) (VL.op (R.mvB rfl) (VL.orP rfl rfl (fun g1_4 => VL.op (R.fld' (o := 1) Tryz.runUnderlying25 rfl rfl Tryz.sizeOf22 rfl rfl) (VL.gT rfl rfl (VL.op (R.ld1 Tryz.isAgg22 rfl ((show w0_0.cell? ⟨b0_0, 1, none⟩ = some (Value.slice g.ca g.cost.length g.cc) from hB0_0.cell 1))) (VL.gT rfl rfl (VL.op (R.lenS Tryz.runUnderlying22 rfl) (VL.gT rfl rfl (VL.op (R.mvI rfl) (VL.gT rfl rfl (VL.op (R.add rfl rfl (by omega) (by omega)) (VL.gT rfl rfl (VL.op (R.gtr rfl rfl) (VL.op (R.pickFB rfl rfl) (VL.op (R.mvB rfl) (VL.orP rfl rfl (fun g1_12 => VL.op (R.fld' (o := 2) Tryz.runUnderlying25 rfl rfl Tryz.sizeOf23 rfl rfl) (VL.gT rfl rfl (VL.op (R.ld1 Tryz.isAgg23 rfl ((show w0_0.cell? ⟨b0_0, 2, none⟩ = some (Value.slice g.ea g.edges.length g.ec) from hB0_0.cell 2))) (VL.gT rfl rfl (VL.op (R.lenS Tryz.runUnderlying23 rfl) (VL.gT rfl rfl (VL.op (R.gtr rfl rfl) (VL.op (R.pickFB rfl rfl) (VL.nil (V.condP rfl (fun c23 => V.seq (V.region (VL.op (R.asB rfl) (VL.nil (V.ret (fret1 (v := .bool _) rfl rfl rfl (⟨?_, e0_0⟩))))))) (fun c23 => V.skip (V.seq (V.seq (?_)))))))))))))) (fun g1_12 => VL.gF rfl rfl (VL.gF rfl rfl (VL.gF rfl rfl (VL.op (R.pickTB rfl rfl) (VL.nil (V.condT rfl (V.seq (V.region (VL.op (R.asB rfl) (VL.nil (V.ret (fret1 (v := .bool _) rfl rfl rfl (⟨?_, e0_0⟩))))))))))))))))))))))))))) (fun g1_4 => VL.gF rfl rfl (VL.gF rfl rfl (VL.gF rfl rfl (VL.gF rfl rfl (VL.gF rfl rfl (VL.op (R.pickTB rfl rfl) (VL.op (R.mvB rfl) (VL.gF rfl rfl (VL.gF rfl rfl (VL.gF rfl rfl (VL.gF rfl rfl (VL.op (R.pickTB rfl rfl) (VL.nil (V.condT rfl (V.seq (V.region (VL.op (R.asB rfl) (VL.nil (V.ret (fret1 (v := .bool _) rfl rfl rfl (⟨?_, e0_0⟩)))))))))))))))))))))))))))))))))
 ·have : smallB (grV g) n = false := Bool.eq_false_iff.2 fun hh => by have h3 := (smallB_iff.1 hh).2.2.1; rw [hev] at h3; omega
  rw [this]
 ·refine V.region (VL.op (R.asI rfl) (VL.nil (V.block (?_))))
  have hE := hG.e
  refine V.loop [2, 5] (fun k : Nat => [.pointer (some ⟨b0_0, 0, none⟩), .int .i64 (k : Nat)]) (fun k w' => k ≤ g.edges.length ∧ (∀ i, i < k → (g.edges.getD i default).l.length ≤ 6) ∧ Ext w0_0 w') (fun k => g.edges.length - k) 0 rfl ⟨Nat.zero_le _, fun i h => absurd h (Nat.not_lt_zero i), Vc.Mod.refl _ _⟩ ?_
  rintro ρ k w5 ⟨hk, hs, e5⟩
  have hX5 := hB0_0.ext e5
  have hE5 := hE.ext (e0_0.trans e5)
  refine V.seq (V.seq (V.region (VL.op (R.mvI rfl) (VL.op (R.fld' (o := 2) Tryz.runUnderlying25 rfl rfl Tryz.sizeOf23 rfl rfl) (VL.op (R.ld1 Tryz.isAgg23 rfl ((show w5.cell? ⟨b0_0, 2, none⟩ = some (Value.slice g.ea g.edges.length g.ec) from hX5.cell 2))) (VL.op (R.lenS Tryz.runUnderlying23 rfl) (VL.op (R.lss rfl rfl) (VL.nil (V.condP rfl (fun c28 => V.skip (V.seq (V.block (V.seq (?_))))) (fun c28 => V.exit (V.seq (?_))))))))))))
  ·have hkl : k < g.edges.length := by omega
   have hkm := hlk _ (gmem hkl)
   refine V.region (VL.op (R.fld' (o := 2) Tryz.runUnderlying25 rfl rfl Tryz.sizeOf23 rfl rfl) (VL.op (R.ld1 Tryz.isAgg23 rfl ((show w5.cell? ⟨b0_0, 2, none⟩ = some (Value.slice g.ea g.edges.length g.ec) from hX5.cell 2))) (VL.op (R.mvI rfl) (VL.op (R.ixS Tryz.runUnderlying23 Tryz.sizeOf22 rfl rfl (by omega) (by omega) (hE5.sl.some (i := k) hkl)) (VL.op (R.ld1 Tryz.isAgg22 rfl (((hE5.sl.row (i := k) hkl).cell (i := 0) rfl))) (VL.op (R.lenS Tryz.runUnderlying22 rfl) (VL.op (R.gtr rfl rfl) (VL.nil (V.condP rfl (fun c37 => V.seq (V.region (VL.op (R.asB rfl) (VL.nil (V.ret (fret1 (v := .bool _) rfl rfl rfl (⟨?_, e0_0.trans e5⟩))))))) (fun c37 => V.skip (V.region (VL.op (R.mvI rfl) (VL.op (R.add rfl rfl (by omega) (by omega)) (VL.op (R.asI rfl) (VL.nil (?_))))))))))))))))
   ·have : smallB (grV g) n = false := Bool.eq_false_iff.2 fun hh => by
     have h3 := (smallB_iff.1 hh).2.2.2 (g.edges.getD k default).l (List.mem_map_of_mem (gmem hkl))
     omega
    rw [this]
   ·refine ⟨k + 1, rfl, ⟨by omega, fun i hi => ?_, e5⟩, by omega⟩
    by_cases h : i = k
    ·subst h; omega
    ·exact hs i (by omega)
  ·have hke : k = g.edges.length := by omega
   subst hke
   refine V.region (VL.op (R.asB rfl) (VL.nil (V.ret (fret1 (v := .bool _) rfl rfl rfl (⟨?_, e0_0.trans e5⟩)))))
   have : smallB (grV g) n = true := smallB_iff.2 ⟨by show g.n ≤ n; omega, by show (g.cost.length : Int) ≤ n + 1; omega, by rw [hev]; omega, fun e he => by
    obtain ⟨x, hx, rfl⟩ := List.mem_map.1 he
    obtain ⟨i, hi, rfl⟩ := List.getElem_of_mem hx
    have := hs i hi
    rwa [gget hi] at this⟩
   rw [this]
 ·have : smallB (grV g) n = false := Bool.eq_false_iff.2 fun hh => by have h3 : (g.cost.length : Int) ≤ n + 1 := (smallB_iff.1 hh).2.1; omega
  rw [this]
 ·have : smallB (grV g) n = false := Bool.eq_false_iff.2 fun hh => by have h3 : g.n ≤ n := (smallB_iff.1 hh).1; omega
  rw [this]
end Go.Proofs.YtlnbkoojelhjdaaGreatDoor

/- Repair: the walk of law RepairExtends. -/
namespace Go.Proofs.YtlnbkoojelhjdaaGreatDoor
open Go.Vc
theorem small_glen {w : World} {g : GrW} {n : Int} (hI : GIn w g) (h : smallB (grV g) n = true) : GLen g :=
 ⟨hI.c, hI.e.len, fun x hx => ⟨by have : x.l.length ≤ 6 := (smallB_iff.1 h).2.2.2 x.l (List.mem_map_of_mem hx); omega, (hI.e.each x hx).2.1⟩⟩
end Go.Proofs.YtlnbkoojelhjdaaGreatDoor
