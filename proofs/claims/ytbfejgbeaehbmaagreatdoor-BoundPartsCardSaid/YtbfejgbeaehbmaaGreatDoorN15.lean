/- Bound: the walk of law BoundRange. -/
import Derived.Test.YtbfejgbeaehbmaaGreatDoorN14
import Derived.Test.YtbfejgbeaehbmaaGreatDoorVcBlk
namespace Go.Proofs.YtbfejgbeaehbmaaGreatDoor
open Go.Vc
theorem WIn.nil (w : World) : WIn w none [] := ⟨⟨TSl.nil _ _ _ _, fun x h => by cases h⟩, by decide, fun x h => by cases h⟩
theorem sm_part {α : Type} [Inhabited α] {f : α → Int} {M : Int} {z : List α} (h : ∀ i, i < z.length → -M ≤ f (z.getD i default) ∧ f (z.getD i default) ≤ M) {k : Nat} (hk : k ≤ z.length) : -(M * (k : Int)) ≤ sm ((z.take k).map f) ∧ sm ((z.take k).map f) ≤ M * (k : Int) := by
  have := sm_bnd (M := M) (l := (z.take k).map f) fun x hx => by
    obtain ⟨y, hy, rfl⟩ := List.mem_map.1 hx
    obtain ⟨i, hil, rfl⟩ := List.getElem_of_mem (List.mem_of_mem_take hy)
    rw [← gget hil]; exact h i hil
  rw [List.length_map, List.length_take, Nat.min_eq_left hk] at this
  exact this
set_option maxRecDepth 100000 in
set_option maxHeartbeats 8000000 in
theorem range_law (g : GrW) (wa sa : Option Addr) (wc sc B : Nat) (ws S : List Int) (w : World) (hI : GIn w g) (hW : IntSl w wa ws) (hwl : ws.length ≤ 9223372036854775807) (hS : IntSl w sa S) (hsl : S.length ≤ 9223372036854775807) (hB : B ≤ w.heap.size) (hT : TabW B w) :
    RetsP Tryz.prog 7 #[.agg (encGr g).toArray, .slice wa ws.length wc, .slice sa S.length sc] w (.bool true) := by
  refine enter (args := [_, _, _]) Tryz.func7 rfl Tryz.ntmps7 (by kernel_rfl) rfl ?_
  refine V.seq (V.region (VL.box (v := .agg _) rfl fun b0_0 w0_0 hb0_0 e0_0 hB0_0 => VL.op (R.asB rfl) (VL.nil (V.seq (V.region (VL.callP Tryz.call10 rfl (head32_spec B _ (Nat.le_trans hB (e0_0).size) (hT.ext hB e0_0)) fun w1_0 e1_0 => VL.op (R.asB rfl) (VL.nil (V.seq (V.seq (V.region (VL.op (R.ldA Tryz.isAgg25 Tryz.sizeOf25 rfl rfl ((show RowAt _ _ _ (encGr g) from ((hB0_0.ext e1_0).rowAt 0 3))) rfl) (VL.callX Tryz.call11 rfl (few32_spec g [] none 0 45 _ (hI.ext (e0_0.trans e1_0)) (WIn.nil _)) fun b2 w2 h2 e2 => VL.op (R.not rfl) (VL.op (R.mvB rfl) (VL.or rfl rfl (fun g2_3 => VL.op (R.mvS rfl) (VL.gT rfl rfl (VL.op (R.lenS Tryz.runUnderlying22 rfl) (VL.gT rfl rfl (VL.op (R.gtr rfl rfl) (VL.op (R.pickFB rfl rfl) (VL.op (R.mvB rfl) (VL.orP rfl rfl (fun g2_8 => VL.op (R.mvS rfl) (VL.gT rfl rfl (VL.op (R.lenS Tryz.runUnderlying22 rfl) (VL.gT rfl rfl (VL.op (R.gtr rfl rfl) (VL.op (R.pickFB rfl rfl) (VL.nil (V.condP rfl (fun c28 => V.seq (V.region (VL.op (R.mvB rfl) (VL.op (R.asB rfl) (VL.nil (V.ret (fret1 (v := .bool _) rfl rfl rfl (⟨rfl, ((e0_0.trans e1_0).trans e2)⟩)))))))) (fun c28 => V.skip (V.seq (?_))))))))))) (fun g2_8 => VL.gF rfl rfl (VL.gF rfl rfl (VL.op (R.pickTB rfl rfl) (VL.nil (V.condT rfl (V.seq (V.region (VL.op (R.mvB rfl) (VL.op (R.asB rfl) (VL.nil (V.ret (fret1 (v := .bool _) rfl rfl rfl (⟨rfl, ((e0_0.trans e1_0).trans e2)⟩))))))))))))))))))))) (fun g2_3 => VL.gF rfl rfl (VL.gF rfl rfl (VL.op (R.pickTB rfl rfl) (VL.op (R.mvB rfl) (VL.gF rfl rfl (VL.gF rfl rfl (VL.gF rfl rfl (VL.op (R.pickTB rfl rfl) (VL.nil (V.condT rfl (V.seq (V.region (VL.op (R.mvB rfl) (VL.op (R.asB rfl) (VL.nil (V.ret (fret1 (v := .bool _) rfl rfl rfl (⟨rfl, ((e0_0.trans e1_0).trans e2)⟩))))))))))))))))))))))))))))))))
  have hsm := h2 (by simpa using g2_3)
  have hgl := hI.glen hsm.2.2.1
  have hvn : ws.length ≤ 60 := by omega
  have E2 := (e0_0.trans e1_0).trans e2
  have hX2 : Blk w2 b0_0 (.cells (Value.agg (encGr g).toArray).cells 25 (0, 0)) := hB0_0.ext (e1_0.trans e2)
  refine V.region (VL.op (R.ldA Tryz.isAgg25 Tryz.sizeOf25 rfl rfl ((show RowAt _ _ _ (encGr g) from hX2.rowAt 0 3)) rfl) (VL.op (R.mvS rfl) (VL.callP Tryz.call12 rfl (range_spec g wa wc ws B w2 (hI.ok.ext E2) hgl (hW.ext E2) (by omega) (Nat.le_trans hB E2.size) (hT.ext hB E2)) fun w4_2 e4_2 => VL.op (R.mvT rfl) (VL.op (R.extr rfl rfl) (VL.op (R.extr rfl rfl) (VL.op (R.extr rfl rfl) (VL.op (R.asI rfl) (VL.op (R.asI rfl) (VL.op (R.asI rfl) (VL.nil (V.seq (V.region (VL.op (R.ldA Tryz.isAgg25 Tryz.sizeOf25 rfl rfl ((show RowAt _ _ _ (encGr g) from (hX2.ext e4_2).rowAt 0 3)) rfl) (VL.op (R.mvS rfl) (VL.callX Tryz.call19 rfl (extend_spec g sa sc S B w4_2 (hI.ok.ext (E2.trans e4_2)) hgl (hS.ext (E2.trans e4_2)) (by omega) (Nat.le_trans hB (E2.trans e4_2).size) (hT.ext hB (E2.trans e4_2))) fun x5 w5 h5 e5 => VL.op (R.mvT rfl) (VL.op (R.extr rfl rfl) (VL.op (R.extr rfl rfl) (VL.op (R.asS rfl) (VL.op (R.asI rfl) (VL.nil (V.seq (V.seq (V.region (VL.op (R.mvI rfl) (VL.op (R.neq rfl rfl) (VL.op (R.mvB rfl) (VL.orP rfl rfl (fun g6_2 => VL.op (R.mvI rfl) (VL.gT rfl rfl (VL.op (R.neq rfl rfl) (VL.op (R.pickFB rfl rfl) (VL.nil (V.condP rfl (fun c48 => V.seq (V.region (VL.op (R.mvB rfl) (VL.op (R.asB rfl) (VL.nil (V.ret (fret1 (v := .bool _) rfl rfl rfl (⟨rfl, E2.trans (e4_2.trans e5)⟩)))))))) (fun c48 => V.skip (V.seq (?_))))))))) (fun g6_2 => VL.gF rfl rfl (VL.op (R.pickTB rfl rfl) (VL.nil (V.condT rfl (V.seq (V.region (VL.op (R.mvB rfl) (VL.op (R.asB rfl) (VL.nil (V.ret (fret1 (v := .bool _) rfl rfl rfl (⟨rfl, E2.trans (e4_2.trans e5)⟩)))))))))))))))))))))))))))))))))))))))
  have hz : (sumsF (grV g) ws).2.2 = 0 := by omega
  have hwt : wtB (grV g) ws = true := by
    cases hb : wtB (grV g) ws with
    | true => rfl
    | false => unfold sumsF at hz; rw [hb, if_neg (by decide)] at hz; cases hz
  have hld : loadB (grV g) S = true := by
    cases hb : loadB (grV g) S with
    | true => rfl
    | false =>
      have := h5.2
      rw [hb, if_neg (by decide)] at this
      exact absurd (show x5.2 = 1 from congrArg Prod.snd this) (by omega)
  have hx5 := h5.2
  rw [if_pos hld] at hx5
  have hxl : x5.1.l = extF (grV g) S := congrArg Prod.fst hx5
  have hrep := (ext_rep hld).1
  rw [← hxl] at hrep
  have hrb := (setB_iff.1 hrep.set).2
  have hwn := (wtB_iff.1 hwt).2.1
  rw [show (grV g).n = g.n from rfl] at hrb hwn
  have hxn : x5.1.l.length ≤ 1000000 := by
    rw [hxl]; unfold extF
    have := memK_len (extK (grV g).edges S (grV g).n.toNat) (grV g).n.toNat
    have h1 := hsm.1
    rw [show (grV g).n = g.n from rfl] at this ⊢
    omega
  have hwb : ∀ i, i < x5.1.l.length → -1000000000 ≤ wtF ws (x5.1.l.getD i default) ∧ wtF ws (x5.1.l.getD i default) ≤ 1000000000 := fun i hi => by
    have := hrb _ (gmem hi)
    exact (wtB_iff.1 hwt).2.2 _ (wtF_at this.1 (by omega))
  have hsb : ∀ k, k ≤ x5.1.l.length → -(1000000000 * (k : Int)) ≤ sm ((x5.1.l.take k).map (wtF ws)) ∧ sm ((x5.1.l.take k).map (wtF ws)) ≤ 1000000000 * (k : Int) := fun k hk => sm_part hwb hk
  have E5 := (E2.trans e4_2).trans e5
  have hW5 := hW.ext E5
  refine V.region (VL.op (R.asI rfl) (VL.nil (V.seq (V.seq (V.region (VL.op (R.asI rfl) (VL.nil (V.block (?_)))))))))
  refine V.loop [1, 7, 8, 9, 11, 13, 14] (fun k : Nat => [.slice wa ws.length wc, .bool true, .int .i64 (sumsF (grV g) ws).1, .int .i64 (sumsF (grV g) ws).2.1, .slice x5.1.a x5.1.l.length x5.1.c, .int .i64 (sm ((x5.1.l.take k).map (wtF ws))), .int .i64 (k : Nat)]) (fun k w' => k ≤ x5.1.l.length ∧ Ext w5 w') (fun k => x5.1.l.length - k) 0 rfl ⟨Nat.zero_le _, Vc.Mod.refl _ _⟩ ?_
  rintro ρ k w6 ⟨hk, e6⟩
  have hx6 := h5.1.sl.ext e6
  have hW6 := hW5.ext e6
  refine V.seq (V.seq (V.region (VL.op (R.mvI rfl) (VL.op (R.mvS rfl) (VL.op (R.lenS Tryz.runUnderlying22 rfl) (VL.op (R.lss rfl rfl) (VL.nil (V.condP rfl (fun c53 => V.skip (V.seq (V.block (V.seq (V.seq (?_)))))) (fun c53 => V.exit (V.seq (?_)))))))))))
  · have hkl : k < x5.1.l.length := by omega
    have hv := hrb _ (gmem hkl)
    have hwv := hwb k hkl
    have hs := hsb k hk
    unfold wtF at hwv
    refine V.region (VL.op (R.mvS rfl) (VL.op (R.mvI rfl) (VL.op (R.ixS Tryz.runUnderlying22 Tryz.sizeOf3 rfl rfl (by omega) (by omega) ((hx6).some (i := k) (by omega))) (VL.op (R.ld1 Tryz.isAgg3 rfl (((((hx6).ext (Mod.refl _ _)).row (i := k) (by omega)).cell (i := 0) rfl))) (VL.op (R.lss rfl rfl) (VL.op (R.mvB rfl) (VL.orP rfl rfl (fun g12_5 => VL.op (R.mvS rfl) (VL.gT rfl rfl (VL.op (R.mvI rfl) (VL.gT rfl rfl (VL.op (R.ixS Tryz.runUnderlying22 Tryz.sizeOf3 rfl rfl (by omega) (by omega) ((hx6).some (i := k) (by omega))) (VL.gT rfl rfl (VL.op (R.ld1 Tryz.isAgg3 rfl (((((hx6).ext (Mod.refl _ _)).row (i := k) (by omega)).cell (i := 0) rfl))) (VL.gT rfl rfl (VL.op (R.mvS rfl) (VL.gT rfl rfl (VL.op (R.lenS Tryz.runUnderlying22 rfl) (VL.gT rfl rfl (VL.op (R.geq rfl rfl) (VL.op (R.pickFB rfl rfl) (VL.nil (V.condP rfl (fun c69 => V.seq (V.region (VL.op (R.asB rfl) (VL.nil (V.ret (fret1 (v := .bool _) rfl rfl rfl (?_))))))) (fun c69 => V.skip (V.region (VL.op (R.mvI rfl) (VL.op (R.mvS rfl) (VL.op (R.mvS rfl) (VL.op (R.mvI rfl) (VL.op (R.ixS Tryz.runUnderlying22 Tryz.sizeOf3 rfl rfl (by omega) (by omega) ((hx6).some (i := k) (by omega))) (VL.op (R.ld1 Tryz.isAgg3 rfl (((((hx6).ext (Mod.refl _ _)).row (i := k) (by omega)).cell (i := 0) rfl))) (VL.op (R.ixS Tryz.runUnderlying22 Tryz.sizeOf3 rfl rfl (by omega) (by omega) (hW6.some (i := (x5.1.l.getD k default).toNat) (by omega))) (VL.op (R.ld1 Tryz.isAgg3 rfl (((hW6.row (i := (x5.1.l.getD k default).toNat) (by omega)).cell (i := 0) rfl))) (VL.op (R.add rfl rfl (by omega) (by omega)) (VL.op (R.asI rfl) (VL.nil (V.region (VL.op (R.mvI rfl) (VL.op (R.add rfl rfl (by omega) (by omega)) (VL.op (R.asI rfl) (VL.nil (⟨k + 1, ?_, ⟨by omega, e6.trans (Mod.refl _ _)⟩, by omega⟩))))))))))))))))))))))))))))))))))) (fun g12_5 => VL.gF rfl rfl (VL.gF rfl rfl (VL.gF rfl rfl (VL.gF rfl rfl (VL.gF rfl rfl (VL.gF rfl rfl (VL.op (R.pickTB rfl rfl) (VL.nil (V.condT rfl (V.seq (V.region (VL.op (R.asB rfl) (VL.nil (V.ret (fret1 (v := .bool _) rfl rfl rfl (?_)))))))))))))))))))))))
    · omega
    · have hs1 : sm ((x5.1.l.take (k + 1)).map (wtF ws)) = sm ((x5.1.l.take k).map (wtF ws)) + wtF ws (x5.1.l.getD k default) := by rw [List.take_succ_eq_append_getElem hkl, List.map_append, List.map_cons, List.map_nil, sm_snoc, ← gget hkl]
      rw [hs1]; rfl
    · omega
  · have hke : k = x5.1.l.length := by omega
    subst hke
    rw [List.take_length]
    have hs := sums_rep hwt hrep
    refine V.region (VL.op (R.mvB rfl) (VL.op (R.mvB rfl) (VL.gT rfl rfl (VL.op (R.mvI rfl) (VL.gT rfl rfl (VL.op (R.mvI rfl) (VL.gT rfl rfl (VL.op (R.lit (R.leq rfl rfl) ((decide_eq_true hs.1))) (VL.op (R.pickTB rfl rfl) (VL.op (R.mvB rfl) (VL.gT rfl rfl (VL.op (R.mvI rfl) (VL.gT rfl rfl (VL.op (R.mvI rfl) (VL.gT rfl rfl (VL.op (R.lit (R.leq rfl rfl) ((decide_eq_true hs.2))) (VL.op (R.pickTB rfl rfl) (VL.op (R.asB rfl) (VL.nil (V.ret (fret1 (v := .bool _) rfl rfl rfl (⟨rfl, (E5.trans e6).trans (Mod.refl _ _)⟩))))))))))))))))))))))
end Go.Proofs.YtbfejgbeaehbmaaGreatDoor
