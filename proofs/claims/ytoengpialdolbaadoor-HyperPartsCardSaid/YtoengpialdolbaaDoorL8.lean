/- Hyper: the walk of law HyperFixed. -/
import Derived.Test.YtoengpialdolbaaDoorL4
import Derived.Test.YtoengpialdolbaaDoorJ
namespace Go.Proofs.YtoengpialdolbaaDoor
open Go.Vc
theorem GIn.glen {w : World} {g : GrW} {m : Int} (h : GIn w g) (hf : FewE g.edges m) : GLen g := ⟨h.c, h.e.len, fun x hx => ⟨by have := hf.e x hx; omega, (h.e.each x hx).2.1⟩⟩
theorem verts_is (a : Option Addr) (c : Nat) (l : List Int) (n : Int) (w : World) (hl : l.length ≤ 1000000) (hS : IntSl w a l) (h : setB l n = true) :
    RetsP Tryd.prog 23 #[.slice a l.length c, .int .i64 n] w (.bool true) := by
  have := verts_spec a c l n w (by omega) hS
  rwa [h] at this
theorem free_is (E : List SlI) (a b : Option Addr) (ca cb : Nat) (s : List Int) (v : Bool) (w : World) (hl : E.length ≤ 1000000) (he : ∀ x ∈ E, x.l.length ≤ 1000000) (hm : s.length ≤ 1000000) (hE : LL w a E) (hS : IntSl w b s) (h : freeF (vals E) s = v) :
    RetsP Tryd.prog 16 #[.slice a E.length ca, .slice b s.length cb] w (.bool v) := by
  have := free_spec E a b ca cb s w (by omega) (fun x hx => Nat.le_trans (he x hx) (by decide)) (by omega) hE hS
  rwa [h] at this
theorem freeK_set (E : List (List Int)) (N : Nat) : setB (freeK E N) (N : Int) = true := setB_iff.2 ⟨freeK_inc E N, fun x hx => by have := freeK_mem.1 hx; omega⟩
theorem aloneK_set (E : List (List Int)) (N : Nat) : setB (aloneK E N) (N : Int) = true := setB_iff.2 ⟨aloneK_inc E N, fun x hx => by have := aloneK_mem.1 hx; omega⟩
theorem filt_len (p : Nat → Bool) (k : Nat) : (((List.range k).filter p).map fun i => ((i : Nat) : Int)).length ≤ k := by
  rw [List.length_map]; exact Nat.le_trans (List.length_filter_le _ _) (by simp)
set_option maxRecDepth 100000 in
set_option maxHeartbeats 8000000 in
theorem fixed_law (g : GrW) (sa : Option Addr) (sc B : Nat) (s : List Int) (w : World) (hI : GIn w g) (hS : IntSl w sa s) (hsl : s.length ≤ 9223372036854775807) (hB : B ≤ w.heap.size) (hT : TabW B w) :
    RetsP Tryd.prog 8 #[.agg (encGr g).toArray, .slice sa s.length sc] w (.bool true) := by
  have hG := hI.ok
  refine enter (args := [_, _]) Tryd.func8 rfl Tryd.ntmps8 (by kernel_rfl) rfl ?_
  refine V.seq (V.region (VL.box (v := .agg _) rfl fun b0_0 w0_0 hb0_0 e0_0 hB0_0 => VL.op (R.asB rfl) (VL.nil (V.seq (V.region (VL.callP Tryd.call9 rfl (head_spec B _ (Nat.le_trans hB (e0_0).size) (hT.ext hB e0_0)) fun w1_0 e1_0 => VL.op (R.asB rfl) (VL.nil (V.seq (V.seq (V.region (VL.op (R.ldA Tryd.isAgg33 Tryd.sizeOf33 rfl rfl ((show RowAt _ _ _ (encGr g) from ((hB0_0.ext e1_0).rowAt 0 3))) rfl) (VL.callX Tryd.call21 rfl (small_spec g 100 80 _ (hG.ext (e0_0.trans e1_0)) hI.c hI.e.len) fun b2 w2 h2 e2 => VL.op (R.not rfl) (VL.op (R.mvB rfl) (VL.or rfl rfl (fun g2_3 => VL.op (R.mvS rfl) (VL.gT rfl rfl (VL.op (R.lenS Tryd.runUnderlying27 rfl) (VL.gT rfl rfl (VL.op (R.gtr rfl rfl) (VL.op (R.pickFB rfl rfl) (VL.op (R.mvB rfl) (VL.orP rfl rfl (fun g2_8 => VL.op (R.ldA Tryd.isAgg33 Tryd.sizeOf33 rfl rfl ((show RowAt _ _ _ (encGr g) from (((hB0_0.ext e1_0).ext e2).rowAt 0 3))) rfl) (VL.gT rfl rfl (VL.callP Tryd.call19 rfl (valid_spec g B _ (hG.ext ((e0_0.trans e1_0).trans e2)) (hI.glen (h2 (by simpa using g2_3)).2.2) (Nat.le_trans hB (((e0_0.trans e1_0).trans e2)).size) (hT.ext hB ((e0_0.trans e1_0).trans e2))) fun w2_10 e2_10 => VL.gT rfl rfl (VL.op (R.not rfl) (VL.op (R.pickFB rfl rfl) (VL.nil (V.cond rfl (fun c28 => V.seq (V.region (VL.op (R.mvB rfl) (VL.op (R.asB rfl) (VL.nil (V.ret (fret1 (v := .bool _) rfl rfl rfl (⟨rfl, (((e0_0.trans e1_0).trans e2).trans e2_10)⟩)))))))) (fun c28 => V.skip (V.seq (?_)))))))))) (fun g2_8 => VL.gF rfl rfl (VL.gF rfl rfl (VL.op (R.pickTB rfl rfl) (VL.nil (V.condT rfl (V.seq (V.region (VL.op (R.mvB rfl) (VL.op (R.asB rfl) (VL.nil (V.ret (fret1 (v := .bool _) rfl rfl rfl (⟨rfl, ((e0_0.trans e1_0).trans e2)⟩))))))))))))))))))))) (fun g2_3 => VL.gF rfl rfl (VL.gF rfl rfl (VL.op (R.pickTB rfl rfl) (VL.op (R.mvB rfl) (VL.gF rfl rfl (VL.gF rfl rfl (VL.gF rfl rfl (VL.op (R.pickTB rfl rfl) (VL.nil (V.condT rfl (V.seq (V.region (VL.op (R.mvB rfl) (VL.op (R.asB rfl) (VL.nil (V.ret (fret1 (v := .bool _) rfl rfl rfl (⟨rfl, ((e0_0.trans e1_0).trans e2)⟩))))))))))))))))))))))))))))))))
  have hsm := h2 (by simpa using g2_3)
  have hF := hsm.2.2
  have hFn := hF.n
  have hgl := hI.glen hF
  have hv : validG (grV g) = true := by simpa using c28
  have hn := costB_iff.1 (validG_iff.1 hv).1
  obtain ⟨N, hN⟩ : ∃ N : Nat, g.n = (N : Int) := ⟨g.n.toNat, by have h0 : 0 ≤ g.n := hn.1; omega⟩
  have hN1 : N ≤ 100 := by have := hsm.1; omega
  have E2 := e0_0.trans (e1_0.trans (e2.trans e2_10))
  have hb2 : Blk w2_10 b0_0 (.cells (Value.agg (encGr g).toArray).cells 33 (0, 0)) := hB0_0.ext (e1_0.trans (e2.trans e2_10))
  have hsl1 : s.length ≤ 100 := by omega
  have hss := setF_len s
  refine V.region (VL.op (R.ldA Tryd.isAgg33 Tryd.sizeOf33 rfl rfl ((show RowAt _ _ _ (encGr g) from hb2.rowAt 0 3)) rfl) (VL.callX Tryd.call26 rfl (fixed_spec g B w2_10 (hG.ext E2) hgl (Nat.le_trans hB E2.size) (hT.ext hB E2)) fun z w4 ⟨hz, hA, hBl⟩ e4 => VL.op (R.mvT rfl) (VL.op (R.extr rfl rfl) (VL.op (R.extr rfl rfl) (VL.op (R.asS rfl) (VL.op (R.asS rfl) (VL.nil (V.seq (V.region (VL.op (R.mvS rfl) (VL.callX Tryd.call13 rfl (rset_spec sa sc s w4 (by omega) (hS.ext (E2.trans e4))) fun s5 w5 hS5 e5 => VL.op (R.asS rfl) (VL.nil (V.seq (?_))))))))))))))
  have hfx : fixF (grV g) = (freeK (vals g.edges) N, aloneK (vals g.edges) N) := by
    unfold fixF; rw [if_pos hv, show (grV g).n = g.n from rfl, hN]; rfl
  have hz1 : z.1.l = freeK (vals g.edges) N := congrArg Prod.fst (hz.trans hfx)
  have hz2 : z.2.l = aloneK (vals g.edges) N := congrArg Prod.snd (hz.trans hfx)
  have hzl1 : z.1.l.length ≤ 100 := by rw [hz1]; have := filt_len (fun i => !inE (vals g.edges) (i : Nat)) N; unfold freeK; omega
  have hzl2 : z.2.l.length ≤ 100 := by rw [hz2]; have := filt_len (fun i => decide ([((i : Nat) : Int)] ∈ vals g.edges)) N; unfold aloneK; omega
  have E5 := E2.trans (e4.trans e5)
  refine V.region (VL.buildSl Tryd.runUnderlying27 Tryd.sizeOf3 Tryd.zeroValue3 rfl rfl rfl fun b6_0 w6_0 hb6_0 e6_0 hB6_0 => VL.op (R.mvS rfl) (VL.appendT el27 (fun _ => rfl) rfl (rfl) ((OwnT.of0 Vc.encI 1 hB6_0 (Nat.le_of_eq hb6_0.symm))) rfl (rfl) (((OwnT.sl hS5).ext e6_0)) ((OwnT.hax hS5)) (by simp; omega) (by simp [maxLen]; omega) e6_0.size (show 0 + (setF s).length = ([] ++ setF s : List Int).length by simp) fun a6 c6 w6 ho6 m6 hf6 => VL.op (R.mvS rfl) (VL.appendT el27 (fun _ => rfl) rfl (rfl) (ho6) rfl (rfl) ((hA.1.ext ((e5.trans e6_0).ownA m6 fun q hq => by have := hb6_0; have h1 := aBlk_some hq; have := e5.size; omega))) (hA.2) (by simp; omega) (by simp [maxLen]; omega) (Nat.le_trans e6_0.size m6.size) (show (([] ++ setF s : List Int)).length + z.1.l.length = (([] ++ setF s) ++ z.1.l : List Int).length by simp) fun a7 c7 w7 ho7 m7 hf7 => VL.callX Tryd.call13 rfl (rset_spec a7 c7 (([] ++ setF s) ++ z.1.l) w7 (by simp; omega) (OwnT.sl ho7)) fun s6 w8 hS6 e8 => VL.op (R.asS rfl) (VL.nil (V.seq (V.seq (?_)))))))
  have E58 : Ext w5 w8 := ((e6_0.ownA m6 fun q hq => by have := aBlk_some hq; omega).ownA m7 fun q hq => ho6.ge q hq).trans e8
  have E8 := E5.trans E58
  have hb8 : Blk w8 b0_0 (.cells (Value.agg (encGr g).toArray).cells 33 (0, 0)) := hb2.ext (e4.trans (e5.trans E58))
  have hG8 := hG.ext E8
  have hs8 := (OwnT.sl hS5).ext E58
  have hz18 := hA.1.ext (e5.trans E58)
  have hz28 := hBl.ext (e5.trans E58)
  have hms := setF_len (([] ++ setF s) ++ z.1.l)
  have hml : (setF (([] ++ setF s) ++ z.1.l)).length ≤ 1000 := by
    have hll : (([] ++ setF s) ++ z.1.l : List Int).length = (setF s).length + z.1.l.length := by simp
    omega
  have hmore : freeF (vals g.edges) (setF (([] ++ setF s) ++ z.1.l)) = freeF (vals g.edges) (setF s) := by
    have := fix_more (g := grV g) (s := setF s) hv (setF_inc s)
    rw [show (grV g).n = g.n from rfl, hN] at this
    rw [List.nil_append, hz1]; exact this
  have hge : ∀ x ∈ g.edges, x.l.length ≤ 1000000 := fun x hx => (hgl.each x hx).1
  refine V.regionQCut mixed 23 (by kernel_rfl) rfl (fun w' => Ext _ w') (Ext.drawn _) [43, 44, 45, 46, 47, 48, 49, 50, 51, 52, 53, 54, 55, 56, 57, 58, 59, 60, 61, 62, 63, 64, 65] 65 (.bool (false)) rfl (VQ.op (fun wq eq => R.mvS rfl) (VQ.op (fun wq eq => R.fld' (o := 0) Tryd.runUnderlying33 rfl rfl Tryd.sizeOf3 rfl rfl) (VQ.op (fun wq eq => R.ld1 Tryd.isAgg3 rfl ((show wq.cell? ⟨b0_0, 0, none⟩ = some (Value.int .i64 ((N : Nat) : Int)) from by rw [← hN]; exact (hb8.ext eq).cell 0))) (VQ.callP (fun _ _ h k => Mod.trans h k) Tryd.call23 rfl (fun wq eq => (verts_is _ _ _ _ wq (by omega) (hz18.ext eq) (by rw [hz1]; exact freeK_set _ _))) (VQ.op (fun wq eq => R.not rfl) (VQ.op (fun wq eq => R.mvB rfl) (VQ.gT rfl rfl (VQ.op (fun wq eq => R.mvS rfl) (VQ.gT rfl rfl (VQ.op (fun wq eq => R.fld' (o := 0) Tryd.runUnderlying33 rfl rfl Tryd.sizeOf3 rfl rfl) (VQ.gT rfl rfl (VQ.op (fun wq eq => R.ld1 Tryd.isAgg3 rfl ((show wq.cell? ⟨b0_0, 0, none⟩ = some (Value.int .i64 ((N : Nat) : Int)) from by rw [← hN]; exact (hb8.ext eq).cell 0))) (VQ.gT rfl rfl (VQ.callP (fun _ _ h k => Mod.trans h k) Tryd.call23 rfl (fun wq eq => (verts_is _ _ _ _ wq (by omega) (hz28.ext eq) (by rw [hz2]; exact aloneK_set _ _))) (VQ.gT rfl rfl (VQ.op (fun wq eq => R.not rfl) (VQ.op (fun wq eq => R.pickFB rfl rfl) (VQ.op (fun wq eq => R.mvB rfl) (VQ.gT rfl rfl (VQ.op (fun wq eq => R.fld' (o := 2) Tryd.runUnderlying33 rfl rfl Tryd.sizeOf22 rfl rfl) (VQ.gT rfl rfl (VQ.op (fun wq eq => R.ld1 Tryd.isAgg22 rfl ((show wq.cell? ⟨b0_0, 2, none⟩ = some (Value.slice g.ea g.edges.length g.ec) from (hb8.ext eq).cell 2))) (VQ.gT rfl rfl (VQ.op (fun wq eq => R.mvS rfl) (VQ.gT rfl rfl (VQ.callP (fun _ _ h k => Mod.trans h k) Tryd.call16 rfl (fun wq eq => free_is g.edges g.ea s5.1 g.ec s5.2 (setF s) _ wq (by omega) hge (by omega) (hG8.e.ext eq) (hs8.ext eq) rfl) (VQ.gT rfl rfl (VQ.op (fun wq eq => R.fld' (o := 2) Tryd.runUnderlying33 rfl rfl Tryd.sizeOf22 rfl rfl) (VQ.gT rfl rfl (VQ.op (fun wq eq => R.ld1 Tryd.isAgg22 rfl ((show wq.cell? ⟨b0_0, 2, none⟩ = some (Value.slice g.ea g.edges.length g.ec) from (hb8.ext eq).cell 2))) (VQ.gT rfl rfl (VQ.op (fun wq eq => R.mvS rfl) (VQ.gT rfl rfl (VQ.callP (fun _ _ h k => Mod.trans h k) Tryd.call16 rfl (fun wq eq => free_is g.edges g.ea s6.1 g.ec s6.2 (setF (([] ++ setF s) ++ z.1.l)) _ wq (by omega) hge (by omega) (hG8.e.ext eq) ((OwnT.sl hS6).ext eq) hmore) (VQ.gT rfl rfl (VQ.op (fun wq eq => R.lit (R.neqB eqB4 rfl rfl) ((decide_eq_false (fun h => h rfl)))) (VQ.op (fun wq eq => R.pickFB rfl rfl) (VQ.nil (cutB rfl ?_))))))))))))))))))))))))))))))))))))))) (fun rg7 w7c e7c => V.cond rfl (fun c65 => V.seq (V.region (VL.op (R.asB rfl) (VL.nil (V.ret (fret1 (v := .bool _) rfl rfl rfl (?_))))))) (fun c65 => V.skip (V.seq (V.seq (?_)))))
  · rfl
  · nomatch c65
  · refine V.region (VL.op (R.asI rfl) (VL.nil (V.block (?_))))
    refine V.loop [2, 5, 6, 7, 10] (fun v : Nat => [.pointer (some ⟨b0_0, 0, none⟩), .bool true, .slice z.1.a z.1.l.length z.1.c, .slice z.2.a z.2.l.length z.2.c, .int .i64 (v : Nat)]) (fun v w' => v ≤ N ∧ Ext w8 w') (fun v => N - v) 0 rfl ⟨Nat.zero_le _, e7c⟩ ?_
    rintro ρ v w9 ⟨hvN, e9⟩
    have hb9 := hb8.ext e9
    have hG9 := hG8.ext e9
    refine V.seq (V.seq (V.region (VL.op (R.mvI rfl) (VL.op (R.fld' (o := 0) Tryd.runUnderlying33 rfl rfl Tryd.sizeOf3 rfl rfl) (VL.op (R.ld1 Tryd.isAgg3 rfl ((show w9.cell? ⟨b0_0, 0, none⟩ = some (Value.int .i64 ((N : Nat) : Int)) from by rw [← hN]; exact hb9.cell 0))) (VL.op (R.lss rfl rfl) (VL.nil (V.condP rfl (fun c69 => V.skip (V.seq (V.block (V.seq (?_))))) (fun c69 => V.exit (V.seq (V.region (VL.op (R.mvB rfl) (VL.op (R.asB rfl) (VL.nil (V.ret (fret1 (v := .bool _) rfl rfl rfl (⟨rfl, (E8.trans e9).trans (Mod.refl _ _)⟩)))))))))))))))))
    have hvn : v < N := by omega
    obtain ⟨k1, k2, k3⟩ := fix_kinds (g := grV g) hv (v := v) (by rw [show (grV g).n = g.n from rfl, hN]; exact hvn)
    rw [show (grV g).n = g.n from rfl, hN, show ((N : Nat) : Int).toNat = N from rfl, show (grV g).edges = vals g.edges from rfl, ← hz1, ← hz2] at k1 k3
    rw [show (grV g).n = g.n from rfl, hN, show ((N : Nat) : Int).toNat = N from rfl, show (grV g).edges = vals g.edges from rfl, ← hz2] at k2
    refine V.region (VL.op (R.mvS rfl) (VL.op (R.mvI rfl) (VL.callP Tryd.call25 rfl (in_spec z.1.a z.1.c z.1.l (v : Nat) _ (by omega) (hz18.ext e9)) fun w12_2 e12_2 => VL.op (R.mvS rfl) (VL.op (R.mvI rfl) (VL.callP Tryd.call25 rfl (in_spec z.2.a z.2.c z.2.l (v : Nat) _ (by omega) (hz28.ext (e9.trans e12_2))) fun w12_5 e12_5 => VL.op (R.asB rfl) (VL.op (R.asB rfl) (VL.nil (V.seq (V.region (VL.op (R.asB rfl) (VL.nil (V.cut [2, 5, 6, 7, 10, 11, 12, 13] (fun x : Bool × Bool × Bool => [.pointer (some ⟨b0_0, 0, none⟩), .bool true, .slice z.1.a z.1.l.length z.1.c, .slice z.2.a z.2.l.length z.2.c, .int .i64 (v : Nat), .bool x.1, .bool x.2.1, .bool x.2.2]) (fun x w' => x.1 = decide (((v : Nat) : Int) ∈ z.1.l) ∧ x.2.1 = decide (((v : Nat) : Int) ∈ z.2.l) ∧ x.2.2 = bigE (vals g.edges) (v : Nat) ∧ Ext w8 w') (V.seq (V.region (VL.op (R.asI rfl) (VL.nil (V.block (?_)))))) (fun rgB2 xB2 wBB2 hBB2 => V.seq (?_))))))))))))))
    · refine V.loop [2, 5, 6, 7, 10, 11, 12, 13, 14] (fun x : Nat × Bool => [.pointer (some ⟨b0_0, 0, none⟩), .bool true, .slice z.1.a z.1.l.length z.1.c, .slice z.2.a z.2.l.length z.2.c, .int .i64 (v : Nat), .bool (decide (((v : Nat) : Int) ∈ z.1.l)), .bool (decide (((v : Nat) : Int) ∈ z.2.l)), .bool x.2, .int .i64 (x.1 : Nat)]) (fun x w' => x.1 ≤ g.edges.length ∧ x.2 = bigE (vals (g.edges.take x.1)) (v : Nat) ∧ Ext w8 w') (fun x => g.edges.length - x.1) (0, false) rfl ⟨Nat.zero_le _, rfl, e9.trans (e12_2.trans e12_5)⟩ ?_
      rintro ρ ⟨i, b⟩ w10 ⟨hi, hbv, e10⟩
      dsimp only at hi hbv e10 ⊢
      have hb10 := hb8.ext e10
      have hL10 := (hG8.ext e10).e
      refine V.seq (V.seq (V.region (VL.op (R.mvI rfl) (VL.op (R.fld' (o := 2) Tryd.runUnderlying33 rfl rfl Tryd.sizeOf22 rfl rfl) (VL.op (R.ld1 Tryd.isAgg22 rfl ((show w10.cell? ⟨b0_0, 2, none⟩ = some (Value.slice g.ea g.edges.length g.ec) from hb10.cell 2))) (VL.op (R.lenS Tryd.runUnderlying22 rfl) (VL.op (R.lss rfl rfl) (VL.nil (V.condP rfl (fun c82 => V.skip (V.seq (V.block (?_)))) (fun c82 => V.exit (?_)))))))))))
      · have hil : i < g.edges.length := by omega
        have hat : bigE (vals (g.edges.take (i + 1))) (v : Nat) = (b || (decide (1 < (g.edges.getD i default).l.length) && decide (((v : Nat) : Int) ∈ (g.edges.getD i default).l))) := by
          rw [List.take_succ_eq_append_getElem hil, ← gget hil, hbv]; unfold bigE vals; rw [List.map_append, List.any_append]; simp
        have hxe := hge _ (gmem hil)
        cases b with
        | true =>
          refine V.region (VL.op (R.mvB rfl) (VL.op (R.mvB rfl) (VL.gF rfl rfl (VL.gF rfl rfl (VL.gF rfl rfl (VL.gF rfl rfl (VL.gF rfl rfl (VL.gF rfl rfl (VL.gF rfl rfl (VL.gF rfl rfl (VL.gU rfl rfl (VL.gU rfl rfl (VL.gU rfl rfl (VL.gU rfl rfl (VL.gU rfl rfl (VL.gU rfl rfl (VL.gU rfl rfl (VL.gF rfl rfl (VL.op (R.pickTB rfl rfl) (VL.op (R.asB rfl) (VL.nil (V.region (VL.op (R.mvI rfl) (VL.op (R.add rfl rfl (by omega) (by omega)) (VL.op (R.asI rfl) (VL.nil (⟨(i + 1, true), rfl, ⟨by dsimp only; omega, by rw [hat]; rfl, e10⟩, by dsimp only; omega⟩)))))))))))))))))))))))))))
        | false =>
          refine V.region (VL.op (R.mvB rfl) (VL.op (R.mvB rfl) (VL.gT rfl rfl (VL.op (R.fld' (o := 2) Tryd.runUnderlying33 rfl rfl Tryd.sizeOf22 rfl rfl) (VL.gT rfl rfl (VL.op (R.ld1 Tryd.isAgg22 rfl ((show w10.cell? ⟨b0_0, 2, none⟩ = some (Value.slice g.ea g.edges.length g.ec) from hb10.cell 2))) (VL.gT rfl rfl (VL.op (R.mvI rfl) (VL.gT rfl rfl (VL.op (R.ixS Tryd.runUnderlying22 Tryd.sizeOf27 rfl rfl (by omega) (by omega) ((hL10.sl).some (i := i) (by omega))) (VL.gT rfl rfl (VL.op (R.ld1 Tryd.isAgg27 rfl (((((hL10.sl).ext (Mod.refl _ _)).row (i := i) (by omega)).cell (i := 0) rfl))) (VL.gT rfl rfl (VL.op (R.lenS Tryd.runUnderlying27 rfl) (VL.gT rfl rfl (VL.op (R.gtr rfl rfl) (VL.gT rfl rfl (VL.op (R.mvB rfl) (VL.andP rfl rfl (fun g17_9 => VL.op (R.fld' (o := 2) Tryd.runUnderlying33 rfl rfl Tryd.sizeOf22 rfl rfl) (VL.gT rfl rfl (VL.op (R.ld1 Tryd.isAgg22 rfl ((show w10.cell? ⟨b0_0, 2, none⟩ = some (Value.slice g.ea g.edges.length g.ec) from hb10.cell 2))) (VL.gT rfl rfl (VL.op (R.mvI rfl) (VL.gT rfl rfl (VL.op (R.ixS Tryd.runUnderlying22 Tryd.sizeOf27 rfl rfl (by omega) (by omega) ((hL10.sl).some (i := i) (by omega))) (VL.gT rfl rfl (VL.op (R.ld1 Tryd.isAgg27 rfl (((((hL10.sl).ext (Mod.refl _ _)).row (i := i) (by omega)).cell (i := 0) rfl))) (VL.gT rfl rfl (VL.op (R.mvI rfl) (VL.gT rfl rfl (VL.callP Tryd.call25 rfl (in_spec (g.edges.getD i default).a (g.edges.getD i default).c (g.edges.getD i default).l (v : Nat) _ (by omega) (hL10.at hil)) fun w17_16 e17_16 => VL.gT rfl rfl (VL.op (R.pickTB rfl rfl) (VL.op (R.pickFB rfl rfl) (VL.op (R.asB rfl) (VL.nil (V.region (VL.op (R.mvI rfl) (VL.op (R.add rfl rfl (by omega) (by omega)) (VL.op (R.asI rfl) (VL.nil (?_))))))))))))))))))))))) (fun g17_9 => VL.gF rfl rfl (VL.gF rfl rfl (VL.gF rfl rfl (VL.gF rfl rfl (VL.gF rfl rfl (VL.gF rfl rfl (VL.gT rfl rfl (VL.op (R.pickFB rfl rfl) (VL.op (R.pickFB rfl rfl) (VL.op (R.asB rfl) (VL.nil (V.region (VL.op (R.mvI rfl) (VL.op (R.add rfl rfl (by omega) (by omega)) (VL.op (R.asI rfl) (VL.nil (?_))))))))))))))))))))))))))))))))))))
          · exact ⟨(i + 1, decide (((v : Nat) : Int) ∈ (g.edges.getD i default).l)), rfl, ⟨by dsimp only; omega, by rw [hat, decide_eq_true (show 1 < (g.edges.getD i default).l.length by omega)]; rfl, e10.trans e17_16⟩, by dsimp only; omega⟩
          · exact ⟨(i + 1, false), rfl, ⟨by dsimp only; omega, by rw [hat, decide_eq_false (show ¬ 1 < (g.edges.getD i default).l.length by omega)]; rfl, e10⟩, by dsimp only; omega⟩
      · have hie : i = g.edges.length := by omega
        subst hie
        rw [List.take_length] at hbv
        subst hbv
        exact ⟨(_, _, _), rfl, rfl, rfl, rfl, e10⟩
    · obtain ⟨hx1, hx2, hx3, e11⟩ := hBB2
      obtain ⟨x1, x2, x3⟩ := xB2
      dsimp only at hx1 hx2 hx3 ⊢
      have hb11 := hb8.ext e11
      have hG11 := hG8.ext e11
      cases x1 with
      | true =>
        have m1 : ((v : Nat) : Int) ∈ z.1.l := of_decide_eq_true hx1.symm
        have m2 : ¬ ((v : Nat) : Int) ∈ z.2.l := fun h => k1 ⟨m1, h⟩
        rw [decide_eq_false m2] at hx2
        have m3 : x3 = false := by
          cases x3 with
          | false => rfl
          | true => exact absurd (.inl m1) (k3.1 hx3.symm)
        subst hx2
        subst m3
        refine V.regionCut [104, 105, 106, 107, 108, 109, 110, 111, 112, 113, 114, 115, 116, 117, 118, 119, 120, 121, 122, 123, 124, 125] 125 (.bool (false)) (fun w' => Ext _ w') rfl (VL.op (R.mvB rfl) (VL.op (R.mvB rfl) (VL.gT rfl rfl (VL.op (R.mvB rfl) (VL.op (R.pickTB rfl rfl) (VL.op (R.mvB rfl) (VL.gT rfl rfl (VL.op (R.mvB rfl) (VL.gT rfl rfl (VL.op (R.mvB rfl) (VL.gF rfl rfl (VL.gF rfl rfl (VL.gF rfl rfl (VL.gF rfl rfl (VL.gF rfl rfl (VL.gT rfl rfl (VL.op (R.pickFB rfl rfl) (VL.op (R.pickFB rfl rfl) (VL.op (R.mvB rfl) (VL.gT rfl rfl (VL.op (R.mvB rfl) (VL.gT rfl rfl (VL.op (R.mvB rfl) (VL.gT rfl rfl (VL.op (R.mvB rfl) (VL.gF rfl rfl (VL.gT rfl rfl (VL.op (R.pickTB rfl rfl) (VL.gT rfl rfl (VL.op (R.lit (R.eqlB eqB4 rfl rfl) (rfl)) (VL.op (R.pickFB rfl rfl) (VL.nil ⟨rfl, cutB rfl ?_, Mod.refl _ _⟩)))))))))))))))))))))))))))))))) (fun rg18 w18c e18c => V.cond rfl (fun c125 => V.seq (V.region (VL.op (R.asB rfl) (VL.nil (V.ret (fret1 (v := .bool _) rfl rfl rfl (?_))))))) (fun c125 => V.skip (V.region (VL.op (R.mvI rfl) (VL.op (R.add rfl rfl (by omega) (by omega)) (VL.op (R.asI rfl) (VL.nil (⟨v + 1, rfl, ⟨by omega, e11.trans e18c⟩, by omega⟩))))))))
        · rfl
        · nomatch c125
      | false =>
        have m1 : ¬ ((v : Nat) : Int) ∈ z.1.l := of_decide_eq_false hx1.symm
        cases x2 with
        | true =>
          have m2 : ((v : Nat) : Int) ∈ z.2.l := of_decide_eq_true hx2.symm
          have m3 : x3 = false := by
            cases x3 with
            | false => rfl
            | true => exact absurd (.inr m2) (k3.1 hx3.symm)
          subst m3
          refine V.regionCut [104, 105, 106, 107, 108, 109, 110, 111, 112, 113, 114, 115, 116, 117, 118, 119, 120, 121, 122, 123, 124, 125] 125 (.bool (false)) (fun w' => Ext _ w') rfl (VL.op (R.mvB rfl) (VL.op (R.mvB rfl) (VL.gF rfl rfl (VL.op (R.pickFB rfl rfl) (VL.op (R.mvB rfl) (VL.gT rfl rfl (VL.op (R.mvB rfl) (VL.gT rfl rfl (VL.op (R.mvB rfl) (VL.gT rfl rfl (VL.op (R.fld' (o := 2) Tryd.runUnderlying33 rfl rfl Tryd.sizeOf22 rfl rfl) (VL.gT rfl rfl (VL.op (R.ld1 Tryd.isAgg22 rfl ((show wBB2.cell? ⟨b0_0, 2, none⟩ = some (Value.slice g.ea g.edges.length g.ec) from hb11.cell 2))) (VL.gT rfl rfl (VL.op (R.mvI rfl) (VL.gT rfl rfl (VL.buildSl Tryd.runUnderlying27 Tryd.sizeOf3 Tryd.zeroValue3 rfl rfl rfl fun b18_10 w18_10 hb18_10 e18_10 hB18_10 => VL.gT rfl rfl (VL.callP Tryd.call16 rfl ((free_is g.edges g.ea (some ⟨b18_10, 0, none⟩) g.ec 1 [((v : Nat) : Int)] false _ (by omega) hge (Nat.le_of_ble_eq_true rfl) (hG11.e.ext e18_10) (litI (l := [((v : Nat) : Int)]) hB18_10 rfl (Nat.le_of_ble_eq_true rfl)) (k2 m2))) fun w18_11 e18_11 => VL.gT rfl rfl (VL.op (R.pickTB rfl rfl) (VL.op (R.pickFB rfl rfl) (VL.op (R.mvB rfl) (VL.gT rfl rfl (VL.op (R.mvB rfl) (VL.gT rfl rfl (VL.op (R.mvB rfl) (VL.gT rfl rfl (VL.op (R.mvB rfl) (VL.gT rfl rfl (VL.op (R.mvB rfl) (VL.gT rfl rfl (VL.op (R.pickFB rfl rfl) (VL.gT rfl rfl (VL.op (R.lit (R.eqlB eqB4 rfl rfl) (rfl)) (VL.op (R.pickFB rfl rfl) (VL.nil ⟨rfl, cutB rfl ?_, (Mod.trans e18_10 e18_11)⟩))))))))))))))))))))))))))))))))))) (fun rg18 w18c e18c => V.cond rfl (fun c125 => V.seq (V.region (VL.op (R.asB rfl) (VL.nil (V.ret (fret1 (v := .bool _) rfl rfl rfl (?_))))))) (fun c125 => V.skip (V.region (VL.op (R.mvI rfl) (VL.op (R.add rfl rfl (by omega) (by omega)) (VL.op (R.asI rfl) (VL.nil (⟨v + 1, rfl, ⟨by omega, e11.trans e18c⟩, by omega⟩))))))))
          · rfl
          · nomatch c125
        | false =>
          have m2 : ¬ ((v : Nat) : Int) ∈ z.2.l := of_decide_eq_false hx2.symm
          have m3 : x3 = true := hx3.trans (k3.2 fun h => h.elim m1 m2)
          subst m3
          refine V.regionCut [104, 105, 106, 107, 108, 109, 110, 111, 112, 113, 114, 115, 116, 117, 118, 119, 120, 121, 122, 123, 124, 125] 125 (.bool (false)) (fun w' => Ext _ w') rfl (VL.op (R.mvB rfl) (VL.op (R.mvB rfl) (VL.gF rfl rfl (VL.op (R.pickFB rfl rfl) (VL.op (R.mvB rfl) (VL.gT rfl rfl (VL.op (R.mvB rfl) (VL.gT rfl rfl (VL.op (R.mvB rfl) (VL.gF rfl rfl (VL.gF rfl rfl (VL.gF rfl rfl (VL.gF rfl rfl (VL.gF rfl rfl (VL.gT rfl rfl (VL.op (R.pickFB rfl rfl) (VL.op (R.pickFB rfl rfl) (VL.op (R.mvB rfl) (VL.gT rfl rfl (VL.op (R.mvB rfl) (VL.gT rfl rfl (VL.op (R.mvB rfl) (VL.gT rfl rfl (VL.op (R.mvB rfl) (VL.gT rfl rfl (VL.op (R.mvB rfl) (VL.gT rfl rfl (VL.op (R.pickFB rfl rfl) (VL.gT rfl rfl (VL.op (R.lit (R.eqlB eqB4 rfl rfl) (rfl)) (VL.op (R.pickFB rfl rfl) (VL.nil ⟨rfl, cutB rfl ?_, Mod.refl _ _⟩)))))))))))))))))))))))))))))))) (fun rg18 w18c e18c => V.cond rfl (fun c125 => V.seq (V.region (VL.op (R.asB rfl) (VL.nil (V.ret (fret1 (v := .bool _) rfl rfl rfl (?_))))))) (fun c125 => V.skip (V.region (VL.op (R.mvI rfl) (VL.op (R.add rfl rfl (by omega) (by omega)) (VL.op (R.asI rfl) (VL.nil (⟨v + 1, rfl, ⟨by omega, e11.trans e18c⟩, by omega⟩))))))))
          · rfl
          · nomatch c125
end Go.Proofs.YtoengpialdolbaaDoor
