/- Repair: the reference: the graphs of the components. -/
import Derived.Test.YtlnbkoojelhjdaaGreatDoorXR24
import Derived.Test.YtlnbkoojelhjdaaGreatDoorXR28
import Derived.Test.YtlnbkoojelhjdaaGreatDoorXL7
import Derived.Test.YtlnbkoojelhjdaaGreatDoorXQ5
import Derived.Test.YtlnbkoojelhjdaaGreatDoorXR33
namespace Go.Proofs.YtlnbkoojelhjdaaGreatDoor
open Go.Vc
set_option maxRecDepth 100000
set_option maxHeartbeats 16000000
structure PtsR where
 L : List GrW
 a : Option Addr
 c : Nat
 z : List SlI
 za : Option Addr
 zc : Nat
 e : Int
structure PtsOk (g : Gr) (w : World) (x : PtsR) : Prop where
 s : TSl encGr 3 w x.a x.L
 len : x.L.length = (compsG g).length
 at_ : ∀ j, j < x.L.length → PtR (partG g ((compsG g).getD j default)) w (x.L.getD j default)
 zv : vals x.z = compsG g
 zl : LL w x.za x.z
theorem parts28_spec (g : GrW) (w : World) (hG : GOk w g) (hgl : GLen g) (hnw : narrowB (grV g) = true) :
  RetsX Tryz.prog 56 #[.agg (encGr g).toArray] w (fun x : PtsR => .tuple #[.slice x.a x.L.length x.c, .slice x.za x.z.length x.zc, .int .i64 x.e]) (fun x w' => (validG (grV g) = false ∧ x.e = 1) ∨ (validG (grV g) = true ∧ x.e = 0 ∧ PtsOk (grV g) w' x)) := by
 refine enter (args := [_]) Tryz.func56 rfl Tryz.ntmps56 (by kernel_rfl) rfl ?_
 refine V.seq (V.region (VL.box (v := .agg _) rfl fun b0_0 w0_0 hb0_0 e0_0 hB0_0 => VL.op (R.asS rfl) (VL.op (R.asS rfl) (VL.op (R.asI rfl) (VL.nil (V.seq (V.seq (V.region (VL.op (R.ldA Tryz.isAgg25 Tryz.sizeOf25 rfl rfl ((show RowAt _ _ _ (encGr g) from (hB0_0.rowAt 0 3))) rfl) (VL.callP Tryz.call46 rfl (rvalid_spec g _ (hG.ext e0_0) hgl) fun w1_1 e1_1 => VL.op (R.not rfl) (VL.nil (V.cond rfl (fun c13 => V.seq (V.region (VL.op (R.asS rfl) (VL.op (R.asS rfl) (VL.op (R.asI rfl) (VL.nil (V.ret (fret3 (v := .slice _ _ _) (x := .slice _ _ _) (y := .int _ _) rfl rfl rfl rfl rfl rfl rfl (?_))))))))) (fun c13 => V.skip (V.seq (?_)))))))))))))))
 ·have hv : validG (grV g) = false := by simpa using c13
  exact ⟨⟨[], none, 0, [], none, 0, 1⟩, rfl, .inl ⟨hv, rfl⟩, e0_0.trans e1_1⟩
 have hv : validG (grV g) = true := by simpa using c13
 have hcb := costB_iff.1 (validG_iff.1 hv).1
 have hgn : (grV g).n = g.n := rfl
 have hn4 : g.n ≤ 4000 := hcb.2.1
 have hn0 : 0 ≤ g.n := hcb.1
 have hX1 : Blk w1_1 b0_0 (.cells (Value.agg (encGr g).toArray).cells 25 (0, 0)) := hB0_0.ext e1_1
 have E1 := e0_0.trans e1_1
 refine V.region (VL.op (R.ldA Tryz.isAgg25 Tryz.sizeOf25 rfl rfl ((show RowAt _ _ _ (encGr g) from hX1.rowAt 0 3)) rfl) (VL.callX Tryz.call53 rfl (rcomps_spec g w1_1 (hG.ext E1) hgl) fun z w5 ⟨hz, hL⟩ e5 => VL.op (R.asS rfl) (VL.nil (V.seq (?_)))))
 have hX5 := hX1.ext e5
 have E5 := E1.trans e5
 have hzl : z.1.length = (compsG (grV g)).length := by rw [← hz]; exact (List.length_map _).symm
 have hzn : z.1.length ≤ 4000 := by have := comps_len hv; omega
 have hat : ∀ i, i < z.1.length → (compsG (grV g)).getD i default = (z.1.getD i default).l := fun i hi => by rw [← hz]; exact gmap SlI.l z.1 default hi
 have hxl' : ∀ i, i < z.1.length → (z.1.getD i default).l.length ≤ 10 := fun i hi => by
  rw [← hat i hi]; exact narrowB_iff.1 hnw _ (gmem (by omega))
 refine V.region (VL.op (R.asS rfl) (VL.nil (V.seq (V.seq (V.region (VL.op (R.asI rfl) (VL.nil (V.block (?_)))))))))
 refine V.loop [1, 5, 6, 7] (fun k : Nat => [.pointer (some ⟨b0_0, 0, none⟩), .slice z.2.1 z.1.length z.2.2, .slice none 0 0, .int .i64 (k : Nat)]) (fun k w' => k ≤ z.1.length ∧ Ext w5 w') (fun k => z.1.length - k) 0 rfl ⟨Nat.zero_le _, Vc.Mod.refl _ _⟩ ?_
 rintro ρ k w4 ⟨hk, e4⟩
 have hL4 := hL.ext e4
 have hX4 := hX5.ext e4
 have E4 := E5.trans e4
 refine V.seq (V.seq (V.region (VL.op (R.mvI rfl) (VL.op (R.mvS rfl) (VL.op (R.lenS Tryz.runUnderlying23 rfl) (VL.op (R.lss rfl rfl) (VL.nil (V.condP rfl (fun c19 => V.skip (V.seq (V.block (V.seq (?_))))) (fun c19 => V.exit (V.seq (V.seq (V.region (VL.op (R.asI rfl) (VL.nil (V.block (?_))))))))))))))))
 ·have hkl : k < z.1.length := by omega
  have hxk := hxl' k hkl
  refine V.region (VL.op (R.mvS rfl) (VL.op (R.mvI rfl) (VL.op (R.ixS Tryz.runUnderlying23 Tryz.sizeOf22 rfl rfl (by omega) (by omega) ((hL4.sl).some (i := k) (by omega))) (VL.op (R.ld1 Tryz.isAgg22 rfl (((((hL4.sl).ext (Mod.refl _ _)).row (i := k) (by omega)).cell (i := 0) rfl))) (VL.op (R.lenS Tryz.runUnderlying22 rfl) (VL.op (R.lit (R.gtr rfl rfl) ((decide_eq_false (by omega)))) (VL.nil (V.condF rfl (V.skip (V.region (VL.op (R.mvI rfl) (VL.op (R.add rfl rfl (by omega) (by omega)) (VL.op (R.asI rfl) (VL.nil (⟨k + 1, rfl, ⟨by omega, e4⟩, by omega⟩)))))))))))))))
 refine V.loop [1, 5, 6, 8] (fun x : Nat × List GrW × Option Addr × Nat => [.pointer (some ⟨b0_0, 0, none⟩), .slice z.2.1 z.1.length z.2.2, .slice x.2.2.1 x.2.1.length x.2.2.2, .int .i64 (x.1 : Nat)]) (fun x w' => x.1 ≤ z.1.length ∧ OwnT encGr 3 25 w4.heap.size w' x.2.2.1 x.2.2.2 x.2.1 ∧ x.2.1.length = x.1 ∧ (∀ j, j < x.1 → PtR (partG (grV g) ((compsG (grV g)).getD j default)) w' (x.2.1.getD j default)) ∧ Ext w4 w') (fun x => z.1.length - x.1) (0, [], none, 0) rfl ⟨Nat.zero_le _, OwnT.nil _ _ _ _ _, rfl, fun j h => absurd h (Nat.not_lt_zero j), Vc.Mod.refl _ _⟩ ?_
 rintro ρ2 ⟨i, LG, aG, cG⟩ w6 ⟨hi, hoG, hlG, hatG, e6⟩
 dsimp only at hi hoG hlG hatG e6 ⊢
 have hb6 := hX4.ext e6
 have hL6 := hL4.ext e6
 have E6 := E4.trans e6
 have hG6 := hG.ext E6
 refine V.seq (V.seq (V.region (VL.op (R.mvI rfl) (VL.op (R.mvS rfl) (VL.op (R.lenS Tryz.runUnderlying23 rfl) (VL.op (R.lss rfl rfl) (VL.nil (V.condP rfl (fun c31 => V.skip (V.seq (V.block (V.seq (?_))))) (fun c31 => V.exit (V.seq (?_)))))))))))
 ·have hil : i < z.1.length := by omega
  have hic : i < (compsG (grV g)).length := by omega
  have hxc : (z.1.getD i default).l ∈ compsG (grV g) := by rw [← hat i hil]; exact gmem hic
  have hxs := comps_set hv hxc
  have hxl := hxl' i hil
  have hpf : partF (grV g) (z.1.getD i default).l = (partG (grV g) (z.1.getD i default).l, 0) := by unfold partF; rw [if_pos ⟨hv, hxs⟩]
  have hpv := part_valid hv hxs
  refine V.regionD (T := (TG w6.heap.size (partG (grV g) (z.1.getD i default).l))) mixed 11 (by kernel_rfl) rfl (fun us => VD.op (fun wq eq => R.ldA Tryz.isAgg25 Tryz.sizeOf25 rfl rfl ((show RowAt _ _ _ (encGr g) from (hb6.ext (TG.old eq)).rowAt 0 3)) rfl) (VD.op (fun wq eq => R.mvS rfl) (VD.op (fun wq eq => R.mvI rfl) (VD.op (fun wq eq => R.ixS Tryz.runUnderlying23 Tryz.sizeOf22 rfl rfl (by omega) (by omega) (hL6.sl.some (i := i) hil)) (VD.op (fun wq eq => R.ld1 Tryz.isAgg22 rfl ((((hL6.sl.ext (TG.old eq)).row (i := i) hil).cell (i := 0) rfl))) (VD.callX (fun _ => fun u w' => ∃ y : GrW, u = .tuple #[.agg (encGr y).toArray, .int .i64 0] ∧ PtR (partG (grV g) (z.1.getD i default).l) w' y) (DepS.const _) (fun u a b _ ⟨y, h1, h2⟩ eb => ⟨y, h1, h2.turn eb⟩) Tryz.call81 rfl (fun wq eq hq => by
    have eo := TG.old eq
    refine Rets.mono (rpart_spec g (z.1.getD i default).a (z.1.getD i default).c (z.1.getD i default).l wq (hG6.ext eo) hgl ((hL6.ext eo).at hil) (by omega)) ?_
    rintro u w' ⟨y, rfl, ⟨h1, h2, h3⟩, he⟩
    rw [hpf] at h1
    have h4 : y.2 = 0 := congrArg Prod.snd h1
    exact ⟨⟨y.1, by dsimp only; rw [h4], congrArg Prod.fst h1, ⟨h2.ok, h2.cc, h2.each⟩, h3⟩, he⟩) (VD.spec (fun _ => fun u w' => ∃ y : GrW, u = .tuple #[.agg (encGr y).toArray, .int .i64 0] ∧ PtR (partG (grV g) (z.1.getD i default).l) w' y) (DepS.const _) (fun u a b _ ⟨y, h1, h2⟩ eb => ⟨y, h1, h2.turn eb⟩) rfl (fun wq eq hq => by
    obtain ⟨y, hy, h1⟩ := hq 5 (by kernel_rfl)
    exact yieldsR_op (R.mv hy) ⟨⟨y, rfl, h1⟩, Turn.refl _⟩) (VD.spec (fun _ => fun u w' => ∃ y : GrW, u = .agg (encGr y).toArray ∧ PtR (partG (grV g) (z.1.getD i default).l) w' y) (DepS.const _) (fun u a b _ ⟨y, h1, h2⟩ eb => ⟨y, h1, h2.turn eb⟩) rfl (fun wq eq hq => by
    obtain ⟨y, hy, h1⟩ := hq 6 (by kernel_rfl)
    exact yieldsR_op (R.extr hy rfl) ⟨⟨y, rfl, h1⟩, Turn.refl _⟩) (VD.spec (fun _ => fun u _ => u = .int .i64 0) (DepS.const _) (fun u a b _ h eb => h) rfl (fun wq eq hq => by
    obtain ⟨y, hy, h1⟩ := hq 6 (by kernel_rfl)
    exact yieldsR_op (R.extr hy rfl) ⟨rfl, Turn.refl _⟩) (VD.spec (fun _ => fun u w' => ∃ b, u = .pointer (some ⟨b, 0, none⟩) ∧ w6.heap.size ≤ b ∧ ∃ c : Array Value, Blk w' b (.cells c 25 (0, 0)) ∧ c.size = 3) (DepS.const _) (fun u a b _ ⟨k, h1, h2, c, h3, h4⟩ eb => ⟨k, h1, h2, eb.ty k c h3 h4⟩) rfl (fun wq eq hq => yieldsR_op (runAlloc33 wq) ⟨⟨_, rfl, (TG.old eq).size, _, Blk.alloc _ _, rfl⟩, Turn.ext (Ext.alloc _ _)⟩) (VD.spec (fun vs _ w' => ∃ b y, vs 9 = .pointer (some ⟨b, 0, none⟩) ∧ w6.heap.size ≤ b ∧ Blk w' b (.cells (encGr y).toArray 25 (0, 0)) ∧ PtR (partG (grV g) (z.1.getD i default).l) w' y) (fun v v' u w1 hvv ⟨k, y, h1, h2⟩ => ⟨k, y, by rw [← hvv 9 (by kernel_rfl)]; exact h1, h2⟩) (fun u a b _ ⟨k, y, h1, h2, h3, h4⟩ eb => by
     obtain ⟨y', h5, h6⟩ := eb.good k h2 ⟨y, h3, h4⟩
     exact ⟨k, y', h1, h2, h5, h6⟩) rfl (fun wq eq hq => by
    obtain ⟨b, hb, hbs, c, hBk, hc⟩ := hq 9 (by kernel_rfl)
    obtain ⟨y, hy, hP⟩ := hq 7 (by kernel_rfl)
    refine yieldsR_store (ad := ⟨b, 0, none⟩) (v := .agg (encGr y).toArray) (c := c) (T := 25) (s := 3) Tryz.sizeOf25 rfl ?_ rfl ?_ hBk ?_ rfl ?_
    ·exact hb
    ·exact hy
    ·rw [hc]; rfl
    intro w' m hs hBw
    have hput := putGr hc y
    have hBw : Blk w' b (.cells (encGr y).toArray 25 (0, 0)) := by rw [← hput]; exact hBw
    have hS : ∀ k, Vc.one b k → ∃ c z, Blk wq k (.cells c 25 z) := fun k hk => by rw [show k = b from hk]; exact ⟨_, _, hBk⟩
    refine ⟨⟨b, y, hb, hbs, hBw, hP.mod m hS⟩, m.weaken fun k _ hk => ⟨by rw [show k = b from hk]; exact hbs, hS k hk⟩, fun k hk ⟨x, h1, h2⟩ => ?_, fun k c' h1 h2 => ?_⟩
    ·by_cases e : k = b
     ·rw [e]; exact ⟨y, hBw, hP.mod m hS⟩
     ·exact ⟨x, h1.mod m e, h2.mod m hS⟩
    ·by_cases e : k = b
     ·rw [e]; exact ⟨_, hBw, rfl⟩
     ·exact ⟨c', h1.mod m e, h2⟩) (VD.nil (fun w10 e10 h10 => ?_))))))))))))) rfl
  have h8 : us 8 = .int .i64 0 := h10 8
  obtain ⟨b, y, hb, hbs, hBk, hP⟩ := h10 10
  have e10 := TG.old e10
  rw [hb, h8]
  have E10 := E6.trans e10
  have hoG10 := hoG.ext e10
  refine VL.op (R.asI rfl) (VL.nil (V.region (VL.op (R.mvS rfl) (VL.op (R.ldA Tryz.isAgg25 Tryz.sizeOf25 rfl rfl ((show RowAt _ _ _ (encGr y) from hBk.rowAt 0 3)) rfl) (VL.append1 el72 Tryz.runUnderlying72 Tryz.sizeOf25 Tryz.zeroValue25 rfl (y) rfl rfl rfl hoG10 rfl rfl rfl (by omega) (by unfold maxLen; omega) (e6.trans e10).size fun a14 c14 w14 vt14 ho14 m14 hf14 => VL.op (R.asS rfl) (VL.nil (V.region (VL.op (R.mvI rfl) (VL.op (R.add rfl rfl (by omega) (by omega)) (VL.op (R.asI rfl) (VL.nil (?_))))))))))))
  have hS : ∀ k, aBlk aG k → ∃ c z, Blk w10 k (.cells c 25 z) := fun k ⟨ad, ha, hk⟩ => by
   obtain ⟨c, z, h⟩ := OwnT.tyA hoG10 ad ha
   exact ⟨c, z, hk ▸ h⟩
  refine ⟨(i + 1, LG ++ [y], a14, c14), by dsimp only; rw [List.length_append]; rfl, ⟨by dsimp only; omega, ho14, by dsimp only; rw [List.length_append, List.length_singleton]; omega, fun j hj => ?_, (e6.trans e10).ownA m14 fun q hq => ?_⟩, by dsimp only; omega⟩
  ·dsimp only at hj ⊢
   by_cases hji : j = i
   ·subst hji
    rw [show (LG ++ [y]).getD j default = y by simp [List.getD, hlG], hat j hil]
    exact hP.mod m14 hS
   ·rw [show (LG ++ [y]).getD j default = LG.getD j default by simp [List.getD, List.getElem?_append_left (show j < LG.length by omega)]]
    exact ((hatG j (by omega)).ext e10).mod m14 hS
  ·exact hoG.ge q hq
 ·have hie : i = z.1.length := by omega
  refine V.region (VL.op (R.mvS rfl) (VL.op (R.mvS rfl) (VL.op (R.asS rfl) (VL.op (R.asS rfl) (VL.op (R.asI rfl) (VL.nil (V.ret (fret3 (v := .slice _ _ _) (x := .slice _ _ _) (y := .int _ _) rfl rfl rfl rfl rfl rfl rfl (?_)))))))))
  exact ⟨⟨LG, aG, cG, z.1, z.2.1, z.2.2, 0⟩, rfl, .inr ⟨hv, rfl, ⟨OwnT.sl hoG, by dsimp only; omega, fun j hj => hatG j (by dsimp only at hj; omega), hz, hL6⟩⟩, E6⟩
end Go.Proofs.YtlnbkoojelhjdaaGreatDoor

/- Repair: the reference: Count. -/
namespace Go.Proofs.YtlnbkoojelhjdaaGreatDoor
open Go.Vc
set_option maxRecDepth 100000
set_option maxHeartbeats 16000000
theorem mul28 {p n : Int} (h1 : 1 ≤ p) (h2 : p ≤ 1000000000) (h3 : 1 ≤ n) (h4 : n ≤ 1024) : 1 ≤ p * n ∧ p * n ≤ 1024000000000 :=
 ⟨Int.mul_pos (by omega) (by omega), Int.le_trans (Int.mul_le_mul h2 h4 (by omega) (by omega)) (by decide)⟩
theorem count28_spec (g : GrW) (w : World) (hG : GOk w g) (hgl : GLen g) (hnw : narrowB (grV g) = true) :
  RetsX Tryz.prog 24 #[.agg (encGr g).toArray] w (fun x : Int × Int => .tuple #[.int .i64 x.1, .int .i64 x.2]) (fun x _ => x = countG (grV g)) := by
 refine enter (args := [_]) Tryz.func24 rfl Tryz.ntmps24 (by kernel_rfl) rfl ?_
 refine V.seq (V.region (VL.box (v := .agg _) rfl fun b0_0 w0_0 hb0_0 e0_0 hB0_0 => VL.op (R.asI rfl) (VL.op (R.asI rfl) (VL.nil (V.seq (V.region (VL.op (R.ldA Tryz.isAgg25 Tryz.sizeOf25 rfl rfl ((show RowAt _ _ _ (encGr g) from (hB0_0.rowAt 0 3))) rfl) (VL.callX Tryz.call56 rfl (parts28_spec g _ (hG.ext e0_0) hgl hnw) fun x w1 h1 e1 => VL.op (R.mvT rfl) (VL.op (R.extr rfl rfl) (VL.op (R.extr rfl rfl) (VL.op (R.extr rfl rfl) (VL.op (R.asS rfl) (VL.op (R.asS rfl) (VL.op (R.asI rfl) (VL.nil (V.seq (V.seq (?_))))))))))))))))))
 have E1 := e0_0.trans e1
 rcases h1 with ⟨hv, he⟩ | ⟨hv, he, hP⟩
 ·have hpe : partsE (grV g) = 1 := by unfold partsE; rw [if_neg (by rw [hv]; decide)]
  have hch : countG (grV g) = (0, 1) := by unfold countG; rw [hpe, if_neg (by decide)]
  refine V.region (VL.op (R.mvI rfl) (VL.op (R.lit (R.neq rfl rfl) ((decide_eq_true (by omega)))) (VL.nil (V.condT rfl (V.seq (V.region (VL.op (R.mvI rfl) (VL.op (R.asI rfl) (VL.op (R.asI rfl) (VL.nil (V.ret (fret2 (v := .int _ _) (x := .int _ _) rfl rfl rfl rfl rfl (?_)))))))))))))
  exact ⟨(0, x.e), rfl, by rw [hch, he], E1⟩
 ·have hnw' := narrowB_iff.1 hnw
  have hcb := costB_iff.1 (validG_iff.1 hv).1
  have hgn : (grV g).n = g.n := rfl
  have hn4 : g.n ≤ 4000 := hcb.2.1
  have hln := comps_len hv
  have hlen := hP.len
  obtain ⟨C, hC⟩ : ∃ C, C = (compsG (grV g)).map fun c => cntL (partG (grV g) c) := ⟨_, rfl⟩
  have hcl : C.length = x.L.length := by rw [hC, List.length_map, hlen]
  have hch : countG (grV g) = cntR C 1 := by unfold countG; rw [if_pos (partsE_narrow hv hnw), hC]
  have hCb : ∀ y ∈ C, 1 ≤ y ∧ y ≤ 1024 := fun y hy => by
   rw [hC] at hy
   obtain ⟨c, hc, rfl⟩ := List.mem_map.1 hy
   exact (cnt_comp hv hc (hnw' c hc)).2
  have hCat : ∀ k, k < x.L.length → C.getD k default = cntL (partG (grV g) ((compsG (grV g)).getD k default)) := fun k hk => by
   rw [hC]; exact gmap (fun c => cntL (partG (grV g) c)) (compsG (grV g)) default (by omega)
  refine V.region (VL.op (R.mvI rfl) (VL.op (R.lit (R.neq rfl rfl) ((decide_eq_false (fun h => h he)))) (VL.nil (V.condF rfl (V.skip (V.seq (?_)))))))
  refine V.region (VL.op (R.asI rfl) (VL.nil (V.seq (V.seq (V.region (VL.op (R.asI rfl) (VL.nil (V.block (?_)))))))))
  refine V.loop [4, 7, 8] (fun y : Nat × Int => [.slice x.a x.L.length x.c, .int .i64 y.2, .int .i64 (y.1 : Nat)]) (fun y w' => y.1 ≤ x.L.length ∧ 1 ≤ y.2 ∧ y.2 ≤ 1000000000 ∧ countG (grV g) = cntR (C.drop y.1) y.2 ∧ Ext w1 w') (fun y => x.L.length - y.1) (0, 1) rfl ⟨Nat.zero_le _, by decide, by decide, hch, Vc.Mod.refl _ _⟩ ?_
  rintro ρ ⟨k, p⟩ w2 ⟨hk, hp1, hp2, hcnt, e2⟩
  dsimp only at hk hp1 hp2 hcnt e2 ⊢
  have hs2 := hP.s.ext e2
  refine V.seq (V.seq (V.region (VL.op (R.mvI rfl) (VL.op (R.mvS rfl) (VL.op (R.lenS Tryz.runUnderlying72 rfl) (VL.op (R.lss rfl rfl) (VL.nil (V.condP rfl (fun c21 => V.skip (V.seq (V.block (V.seq (?_))))) (fun c21 => V.exit (V.seq (V.region (VL.op (R.mvI rfl) (VL.op (R.asI rfl) (VL.op (R.asI rfl) (VL.nil (V.ret (fret2 (v := .int _ _) (x := .int _ _) rfl rfl rfl rfl rfl (?_))))))))))))))))))
  ·have hkl : k < x.L.length := by omega
   have hPk := (hP.at_ k hkl).ext e2
   obtain ⟨y, hy⟩ : ∃ y, y = x.L.getD k default := ⟨_, rfl⟩
   obtain ⟨c, hc⟩ : ∃ c, c = (compsG (grV g)).getD k default := ⟨_, rfl⟩
   have hcc : c ∈ compsG (grV g) := by rw [hc]; exact gmem (by omega)
   rw [← hy, ← hc] at hPk
   have hpv := part_valid hv (comps_set hv hcc)
   have hyv : validG (grV y) = true := by rw [hPk.v]; exact hpv
   have hyn : y.n = ((c.length : Nat) : Int) := congrArg Gr.n hPk.v
   have hc10 := hnw' c hcc
   have hcC := hCat k hkl
   have hcb := hCb _ (gmem (show k < C.length by omega))
   rw [drop_at (by omega), cntR_cons] at hcnt
   have hz : ∀ {B' : Nat} {w' : World} {z : List SlI × Option Addr × Nat}, AlR B' w' z (allR (grV y) c.length c.length []) → ((z.1.length : Nat) : Int) = C.getD k default := fun h => by
    rw [h.len, allR_reps hyv hyn, hPk.v, hcC, ← hc]
    rfl
   have hmul := mul28 hp1 hp2 hcb.1 hcb.2
   rw [hy] at hyv hyn hPk hz
   refine V.region (VL.op (R.mvI rfl) (VL.op (R.mvS rfl) (VL.op (R.mvI rfl) (VL.op (R.ixS Tryz.runUnderlying72 Tryz.sizeOf25 rfl rfl (by omega) (by omega) (hs2.some (i := k) hkl)) (VL.op (R.ldA Tryz.isAgg25 Tryz.sizeOf25 rfl rfl ((show RowAt _ _ _ (encGr (x.L.getD k default)) from (hs2.row (i := k) hkl))) rfl) (VL.callX Tryz.call47 rfl (all28_spec (x.L.getD k default) c.length (hPk.n.valid hyv) hyv hyn hc10 c.length 0 (by omega) none 0 [] w2 hPk.n.ok (TSl.nil _ _ _ _) (TyA.none _ _) (fun _ => rfl) (setB_iff.2 ⟨List.Pairwise.nil, fun x hx => nomatch hx⟩) (loadB_iff.1 (load_nil hyv)).2.2) fun z w8 h8 e8 => VL.op (R.lenS Tryz.runUnderlying23 rfl) (VL.op (R.mul rfl rfl (by rw [hz h8]; omega) (by rw [hz h8]; omega)) (VL.op (R.asI rfl) (VL.nil (V.seq (V.region (VL.op (R.mvI rfl) (VL.op (R.gtr rfl rfl) (VL.nil (V.condP rfl (fun c33 => V.seq (V.region (VL.op (R.asI rfl) (VL.op (R.asI rfl) (VL.nil (V.ret (fret2 (v := .int _ _) (x := .int _ _) rfl rfl rfl rfl rfl (?_)))))))) (fun c33 => V.skip (V.region (VL.op (R.mvI rfl) (VL.op (R.add rfl rfl (by omega) (by omega)) (VL.op (R.asI rfl) (VL.nil (?_))))))))))))))))))))))
   ·have hb : 1000000000 < p * C.getD k default := by rw [← hz h8]; omega
    rw [if_pos (.inr hb)] at hcnt
    exact ⟨(0, 2), rfl, hcnt.symm, E1.trans (e2.trans e8)⟩
   ·have hb : ¬ 1000000000 < p * C.getD k default := by rw [← hz h8]; omega
    rw [if_neg (by omega)] at hcnt
    exact ⟨(k + 1, p * C.getD k default), by dsimp only; rw [← hz h8]; rfl, ⟨by dsimp only; omega, by dsimp only; omega, by dsimp only; omega, hcnt, e2.trans e8⟩, by dsimp only; omega⟩
  ·have hke : k = x.L.length := by omega
   subst hke
   rw [List.drop_of_length_le (by omega)] at hcnt
   exact ⟨(p, 0), rfl, by rw [hcnt]; rfl, E1.trans e2⟩
end Go.Proofs.YtlnbkoojelhjdaaGreatDoor
