/- Bound: the walk of law BoundTrue. -/
import Derived.Test.YtbfejgbeaehbmaaGreatDoorN13
namespace Go.Proofs.YtbfejgbeaehbmaaGreatDoor
open Go.Vc
theorem GIn.ext {w w' : World} {g : GrW} (h : GIn w g) (e : Ext w w') : GIn w' g := ⟨h.ok.ext e, h.c, h.e, h.hc, h.he⟩
theorem WIn.ext {w w' : World} {a : Option Addr} {W : List WyI} (h : WIn w a W) (e : Ext w w') : WIn w' a W := ⟨h.sl.ext e, h.len, h.each⟩
theorem FewW.wlen {W : List WyI} {n m : Int} (h : FewW W n m) (hm : m ≤ 1000000) : ∀ x ∈ W, WLen x := fun x hx => by
  have := h.e x hx
  exact ⟨by omega, by omega⟩
theorem rsome_is (W : List WyI) (wa a : Option Addr) (wc c : Nat) (S : List Int) (v : Bool) (w : World) (h : someW (W.map wyV) S = v) (hW : WL w wa W) (hwl : W.length ≤ 1000000) (hl : ∀ x ∈ W, WLen x) (hS : IntSl w a S) (hm : S.length ≤ 1000000) :
    RetsP Tryz.prog 20 #[.slice wa W.length wc, .slice a S.length c] w (.bool v) := by
  have := rsome_spec W wa a wc c S w hW hwl hl hS hm
  rwa [h] at this
set_option maxRecDepth 100000 in
set_option maxHeartbeats 8000000 in
theorem true_law (g : GrW) (wa sa : Option Addr) (wc sc B : Nat) (W : List WyI) (S : List Int) (w : World) (hI : GIn w g) (hW : WIn w wa W) (hS : IntSl w sa S) (hsl : S.length ≤ 9223372036854775807) (hB : B ≤ w.heap.size) (hT : TabW B w) :
    RetsP Tryz.prog 5 #[.agg (encGr g).toArray, .slice wa W.length wc, .slice sa S.length sc] w (.bool true) := by
  refine enter (args := [_, _, _]) Tryz.func5 rfl Tryz.ntmps5 (by kernel_rfl) rfl ?_
  refine V.seq (V.region (VL.box (v := .agg _) rfl fun b0_0 w0_0 hb0_0 e0_0 hB0_0 => VL.op (R.asB rfl) (VL.nil (V.seq (V.region (VL.callP Tryz.call10 rfl (head32_spec B _ (Nat.le_trans hB (e0_0).size) (hT.ext hB e0_0)) fun w1_0 e1_0 => VL.op (R.asB rfl) (VL.nil (V.seq (V.seq (V.region (VL.op (R.ldA Tryz.isAgg25 Tryz.sizeOf25 rfl rfl ((show RowAt _ _ _ (encGr g) from ((hB0_0.ext e1_0).rowAt 0 3))) rfl) (VL.op (R.mvS rfl) (VL.callX Tryz.call11 rfl (few32_spec g W wa wc 45 _ (hI.ext (e0_0.trans e1_0)) (hW.ext (e0_0.trans e1_0))) fun b2 w2 h2 e2 => VL.op (R.not rfl) (VL.op (R.mvB rfl) (VL.or rfl rfl (fun g2_4 => VL.op (R.mvS rfl) (VL.gT rfl rfl (VL.op (R.lenS Tryz.runUnderlying22 rfl) (VL.gT rfl rfl (VL.op (R.gtr rfl rfl) (VL.op (R.pickFB rfl rfl) (VL.nil (V.condP rfl (fun c20 => V.seq (V.region (VL.op (R.mvB rfl) (VL.op (R.asB rfl) (VL.nil (V.ret (fret1 (v := .bool _) rfl rfl rfl (⟨rfl, ((e0_0.trans e1_0).trans e2)⟩)))))))) (fun c20 => V.skip (V.seq (?_))))))))))) (fun g2_4 => VL.gF rfl rfl (VL.gF rfl rfl (VL.op (R.pickTB rfl rfl) (VL.nil (V.condT rfl (V.seq (V.region (VL.op (R.mvB rfl) (VL.op (R.asB rfl) (VL.nil (V.ret (fret1 (v := .bool _) rfl rfl rfl (⟨rfl, ((e0_0.trans e1_0).trans e2)⟩))))))))))))))))))))))))))))
  have hsm := h2 (by simpa using g2_4)
  have hgl := hI.glen hsm.2.2.1
  have hwn := hsm.2.2.2.n
  have hwl := hsm.2.2.2.wlen (by decide)
  have E2 := (e0_0.trans e1_0).trans e2
  have hX2 : Blk w2 b0_0 (.cells (Value.agg (encGr g).toArray).cells 25 (0, 0)) := hB0_0.ext (e1_0.trans e2)
  refine V.region (VL.op (R.ldA Tryz.isAgg25 Tryz.sizeOf25 rfl rfl ((show RowAt _ _ _ (encGr g) from hX2.rowAt 0 3)) rfl) (VL.op (R.mvS rfl) (VL.callX Tryz.call19 rfl (extend_spec g sa sc S B w2 (hI.ok.ext E2) hgl (hS.ext E2) (by omega) (Nat.le_trans hB E2.size) (hT.ext hB E2)) fun x4 w4 h4 e4 => VL.op (R.mvT rfl) (VL.op (R.extr rfl rfl) (VL.op (R.extr rfl rfl) (VL.op (R.asS rfl) (VL.op (R.asI rfl) (VL.nil (V.seq (V.region (VL.op (R.ldA Tryz.isAgg25 Tryz.sizeOf25 rfl rfl ((show RowAt _ _ _ (encGr g) from (hX2.ext e4).rowAt 0 3)) rfl) (VL.op (R.mvS rfl) (VL.callP Tryz.call14 rfl (quick_spec g wa wc W B _ ((hI.ok.ext E2).ext e4) hgl ((hW.sl.ext E2).ext e4) (by omega) hwl (Nat.le_trans hB (E2.trans e4).size) (hT.ext hB (E2.trans e4))) fun w5_2 e5_2 => VL.op (R.asI rfl) (VL.nil (V.seq (V.seq (V.region (VL.op (R.mvI rfl) (VL.op (R.neq rfl rfl) (VL.op (R.mvB rfl) (VL.orP rfl rfl (fun g6_2 => VL.op (R.mvI rfl) (VL.gT rfl rfl (VL.op (R.eql rfl rfl) (VL.op (R.pickFB rfl rfl) (VL.nil (V.condP rfl (fun c36 => V.seq (V.region (VL.op (R.mvB rfl) (VL.op (R.asB rfl) (VL.nil (V.ret (fret1 (v := .bool _) rfl rfl rfl (⟨rfl, E2.trans (e4.trans e5_2)⟩)))))))) (fun c36 => V.skip (V.seq (?_))))))))) (fun g6_2 => VL.gF rfl rfl (VL.op (R.pickTB rfl rfl) (VL.nil (V.condT rfl (V.seq (V.region (VL.op (R.mvB rfl) (VL.op (R.asB rfl) (VL.nil (V.ret (fret1 (v := .bool _) rfl rfl rfl (⟨rfl, E2.trans (e4.trans e5_2)⟩)))))))))))))))))))))))))))))))))
  have hld : loadB (grV g) S = true := by
    cases hb : loadB (grV g) S with
    | true => rfl
    | false =>
      have := h4.2
      rw [hb, if_neg (by decide)] at this
      exact absurd (show x4.2 = 1 from congrArg Prod.snd this) (by omega)
  have hx4 := h4.2
  rw [if_pos hld] at hx4
  have hxl : x4.1.l = extF (grV g) S := congrArg Prod.fst hx4
  have hrep := (ext_rep hld).1
  rw [← hxl] at hrep
  have hxn : x4.1.l.length ≤ 1000000 := by
    rw [hxl]; unfold extF
    have := memK_len (extK (grV g).edges S (grV g).n.toNat) (grV g).n.toNat
    have h1 := hsm.1
    rw [show (grV g).n = g.n from rfl] at this ⊢
    omega
  have hS5 := h4.1.sl.ext e5_2
  have hW5 := ((hW.sl.ext E2).ext e4).ext e5_2
  have hE5 : Ext w w5_2 := (E2.trans e4).trans e5_2
  rcases quick_cases (grV g) (W.map wyV) with h0 | ⟨h1, hr, hc⟩ | ⟨h3, hr, _, hc⟩
  · exact absurd h0 c36
  · rw [h1]
    refine V.region (VL.op (R.mvB rfl) (VL.op (R.mvB rfl) (VL.gT rfl rfl (VL.op (R.mvI rfl) (VL.gT rfl rfl (VL.op (R.lit (R.eql rfl rfl) ((decide_eq_true rfl))) (VL.gT rfl rfl (VL.op (R.mvB rfl) (VL.gF rfl rfl (VL.gF rfl rfl (VL.gT rfl rfl (VL.op (R.pickTB rfl rfl) (VL.op (R.pickTB rfl rfl) (VL.op (R.mvB rfl) (VL.gT rfl rfl (VL.op (R.mvS rfl) (VL.gT rfl rfl (VL.op (R.mvS rfl) (VL.gT rfl rfl (VL.callP Tryz.call20 rfl (rsome_is W wa x4.1.a wc x4.1.c x4.1.l true _ (quick_certain hrep hr hc) hW5 (by omega) hwl hS5 hxn) fun w8_12 e8_12 => VL.gT rfl rfl (VL.op (R.mvI rfl) (VL.gT rfl rfl (VL.op (R.lit (R.eql rfl rfl) ((decide_eq_true rfl))) (VL.gT rfl rfl (VL.op (R.lit (R.eqlB eqB4 rfl rfl) (rfl)) (VL.op (R.pickTB rfl rfl) (VL.op (R.asB rfl) (VL.nil (V.ret (fret1 (v := .bool _) rfl rfl rfl (⟨rfl, hE5.trans e8_12⟩)))))))))))))))))))))))))))))))
  · rw [h3]
    refine V.region (VL.op (R.mvB rfl) (VL.op (R.mvB rfl) (VL.gT rfl rfl (VL.op (R.mvI rfl) (VL.gT rfl rfl (VL.op (R.lit (R.eql rfl rfl) ((decide_eq_false (by decide)))) (VL.gT rfl rfl (VL.op (R.mvB rfl) (VL.gT rfl rfl (VL.op (R.mvI rfl) (VL.gT rfl rfl (VL.op (R.lit (R.eql rfl rfl) ((decide_eq_true rfl))) (VL.gT rfl rfl (VL.op (R.pickFB rfl rfl) (VL.op (R.pickTB rfl rfl) (VL.op (R.mvB rfl) (VL.gT rfl rfl (VL.op (R.mvS rfl) (VL.gT rfl rfl (VL.op (R.mvS rfl) (VL.gT rfl rfl (VL.callP Tryz.call20 rfl (rsome_is W wa x4.1.a wc x4.1.c x4.1.l false _ (quick_never hrep hr hc) hW5 (by omega) hwl hS5 hxn) fun w8_12 e8_12 => VL.gT rfl rfl (VL.op (R.mvI rfl) (VL.gT rfl rfl (VL.op (R.lit (R.eql rfl rfl) ((decide_eq_false (by decide)))) (VL.gT rfl rfl (VL.op (R.lit (R.eqlB eqB4 rfl rfl) (rfl)) (VL.op (R.pickTB rfl rfl) (VL.op (R.asB rfl) (VL.nil (V.ret (fret1 (v := .bool _) rfl rfl rfl (⟨rfl, hE5.trans e8_12⟩)))))))))))))))))))))))))))))))))
end Go.Proofs.YtbfejgbeaehbmaaGreatDoor
