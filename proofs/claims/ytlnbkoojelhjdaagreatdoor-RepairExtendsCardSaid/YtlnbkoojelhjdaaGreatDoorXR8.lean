/- Repair: Count. -/
import Derived.Test.YtlnbkoojelhjdaaGreatDoorXR7
import Derived.Test.YtlnbkoojelhjdaaGreatDoorXH22a
import Derived.Test.YtlnbkoojelhjdaaGreatDoorXVcRepP
namespace Go.Proofs.YtlnbkoojelhjdaaGreatDoor
open Go.Vc
theorem comps_len {g : Gr} (hg : validG g = true) : (compsG g).length ≤ g.n.toNat := by
  unfold compsG
  rw [if_pos hg, grpsK_len]; exact hdsK_len _ _
theorem comp_len {g : Gr} (hg : validG g = true) {c : List Int} (h : c ∈ compsG g) : (c.length : Int) ≤ g.n := by
  have h1 := setB_iff.1 (comps_set hg h)
  exact set_len h1.1 h1.2 (costB_iff.1 (validG_iff.1 hg).1).1
theorem newGlen {w w' : World} {g : GrW} (h : GNew w w' g) (hv : validG (grV g) = true) : GLen g := by
  obtain ⟨h1, h2, h3, _⟩ := validG_iff.1 hv
  have hc := costB_iff.1 h1
  exact h.glen rfl (by have h0 : (grV g).n ≤ 4000 := hc.2.1; have h4 := hc.2.2.1; omega) (by omega) (List.all_eq_true.2 fun e he => decide_eq_true (h3 e he).1)
/-- What is made of a graph's parts. -/
def partsE (g : Gr) : Int := if validG g = true then (if (compsG g).any (fun c => decide (40 < c.length)) = true then 17 else 0) else 1
def partsI (g : Gr) (F : Gr → Int) : List Int × Int := if partsE g = 0 then ((compsG g).map fun c => F (partG g c), 0) else ([], partsE g)
def prtsK {α : Type} (g : Gr) (F : Gr → α) (k : Nat) : List α := ((compsG g).take k).map fun c => F (partG g c)
theorem prtsK_succ {α : Type} {g : Gr} {F : Gr → α} {k : Nat} (h : k < (compsG g).length) : prtsK g F (k + 1) = prtsK g F k ++ [F (partG g ((compsG g).getD k default))] := by
  unfold prtsK
  rw [List.take_succ_eq_append_getElem h, List.map_append, gget h]
  rfl
set_option maxRecDepth 100000 in
theorem big1_spec (a : Option Addr) (c : Nat) (l : List Int) (w : World) (hl : l.length ≤ 4000) : RetsP Tryz.prog 80 #[.slice a l.length c] w (.bool (decide (40 < l.length))) := by
  refine enter (args := [_]) Tryz.func80 rfl Tryz.ntmps80 (by kernel_rfl) rfl ?_
  refine V.seq (V.region (VL.op (R.asB rfl) (VL.nil (V.seq (V.region (VL.op (R.mvS rfl) (VL.op (R.lenS Tryz.runUnderlying22 rfl) (VL.op (R.gtr rfl rfl) (VL.op (R.asB rfl) (VL.nil (V.ret (fret1 (v := .bool _) rfl rfl rfl (⟨?_, (Mod.refl _ _)⟩)))))))))))))
  congr 1
  rw [decide_eq_decide]
  omega
set_option maxRecDepth 100000 in
set_option maxHeartbeats 8000000 in
theorem partsI_spec (gf : FuncId) (F : Gr → Int) (g : GrW) (B : Nat) (w : World) (hfn : IsFn Tryz.prog gf) (hG : GOk w g) (hl : GLen g) (hB : B ≤ w.heap.size) (hT : TabW B w)
    (hdo : ∀ (g' : GrW) (va : Value) (w' : World), GOk w' g' → GLen g' → validG (grV g') = true → g'.n ≤ 40 → RetsP Tryz.prog gf ([] ++ [Value.agg (encGr g').toArray, va] ++ []).toArray w' (.int .i64 (F (grV g')))) :
    RetsX Tryz.prog 54 #[.agg (encGr g).toArray, .func (.func gf) #[] #[]] w (fun x : Option Addr × Nat × List Int × Int => .tuple #[.slice x.1 x.2.2.1.length x.2.1, .int .i64 x.2.2.2])
      (fun x w' => OwnT Vc.encI 1 3 w.heap.size w' x.1 x.2.1 x.2.2.1 ∧ (x.2.2.1, x.2.2.2) = partsI (grV g) F) := by
  refine enter (args := [_, _]) Tryz.func54 rfl Tryz.ntmps54 (by kernel_rfl) rfl ?_
  refine V.seq (V.region (VL.box (v := .agg _) rfl fun b0_0 w0_0 hb0_0 e0_0 hB0_0 => VL.op (R.asS rfl) (VL.op (R.asI rfl) (VL.nil (V.seq (V.seq (V.region (VL.op (R.ldA Tryz.isAgg25 Tryz.sizeOf25 rfl rfl ((show RowAt _ _ _ (encGr g) from (hB0_0.rowAt 0 3))) rfl) (VL.callP Tryz.call28 rfl (valid_spec g B _ (hG.ext e0_0) hl (Nat.le_trans hB (e0_0).size) (hT.ext hB e0_0)) fun w1_1 e1_1 => VL.op (R.not rfl) (VL.nil (V.cond rfl (fun c14 => V.seq (V.region (VL.op (R.asS rfl) (VL.op (R.asI rfl) (VL.nil (V.ret (fret2 (v := .slice _ _ _) (x := .int _ _) rfl rfl rfl rfl rfl (?_)))))))) (fun c14 => V.skip (V.seq (?_))))))))))))))
  · refine ⟨(none, 0, [], 1), rfl, ⟨OwnT.nil _ _ _ _ _, ?_⟩, e0_0.trans e1_1⟩
    have hv : validG (grV g) = false := by simpa using c14
    unfold partsI partsE
    rw [hv]
    rfl
  · have hv : validG (grV g) = true := by simpa using c14
    have hn := costB_iff.1 (validG_iff.1 hv).1
    have E1 : Ext w w1_1 := e0_0.trans e1_1
    have hX1 := hB0_0.ext e1_1
    refine V.region (VL.op (R.ldA Tryz.isAgg25 Tryz.sizeOf25 rfl rfl ((show RowAt _ _ _ (encGr g) from hX1.rowAt 0 3)) rfl) (VL.callX Tryz.call31 rfl (comps_spec g B _ (hG.ext E1) hl (Nat.le_trans hB E1.size) (hT.ext hB E1)) fun z w3 ⟨hz, hL⟩ e3 => VL.op (R.asS rfl) (VL.nil (V.seq (V.seq (?_))))))
    have hcl : ∀ x ∈ z.1, x.l.length ≤ 4000 := fun x hx => by
      have h1 : x.l ∈ compsG (grV g) := by rw [← hz]; exact List.mem_map_of_mem hx
      have := comp_len hv h1
      have h0 : (grV g).n ≤ 4000 := hn.2.1
      omega
    have hzl : z.1.length ≤ 4000 := by
      have h1 : (compsG (grV g)).length ≤ (grV g).n.toNat := comps_len hv
      have h0 : (grV g).n ≤ 4000 := hn.2.1
      rw [← hz, List.length_map] at h1
      omega
    have hany := containsL_spec 80 [] [] (fun c => decide (40 < c.length)) (fun _ => True) z.2.1 z.2.2 z.1 w3 Tryz.call80 (fun w' x _ hx _ => big1_spec x.a x.c x.l w' (hcl x hx)) (fun _ _ h _ => h) trivial hL (by omega)
    have hanyE : (z.1.any fun x => decide (40 < x.l.length)) = (compsG (grV g)).any fun c => decide (40 < c.length) := by rw [← hz, List.any_map]; rfl
    rw [hanyE] at hany
    refine V.region (VL.op (R.mvS rfl) (VL.callP Tryz.call79 rfl (hany) fun w4_1 e4_1 => VL.nil (V.cond rfl (fun c18 => V.seq (V.region (VL.op (R.asS rfl) (VL.op (R.asI rfl) (VL.nil (V.ret (fret2 (v := .slice _ _ _) (x := .int _ _) rfl rfl rfl rfl rfl (?_)))))))) (fun c18 => V.skip (V.seq (?_))))))
    · refine ⟨(none, 0, [], 17), rfl, ⟨OwnT.nil _ _ _ _ _, ?_⟩, (E1.trans e3).trans e4_1⟩
      have hb : (compsG (grV g)).any (fun c => decide (40 < c.length)) = true := by assumption
      unfold partsI partsE
      rw [if_pos hv, if_pos hb]
      rfl
    · have hb : (compsG (grV g)).any (fun c => decide (40 < c.length)) = false := by assumption
      have hE0 : partsE (grV g) = 0 := by
        unfold partsE
        rw [if_pos hv, if_neg (by rw [hb]; decide)]
      have E4 : Ext w w4_1 := (E1.trans e3).trans e4_1
      have hX4 := (hX1.ext e3).ext e4_1
      have hL4 := hL.ext e4_1
      refine V.region (VL.op (R.asS rfl) (VL.nil (V.seq (V.seq (V.region (VL.op (R.mvS rfl) (VL.op (R.lenS Tryz.runUnderlying23 rfl) (VL.op (R.mvI rfl) (VL.nil (V.block (?_)))))))))))
      refine V.loop [1, 2, 7, 19, 20, 21] (fun x : Nat × Option Addr × Nat => [.func (.func gf) #[] #[], .pointer (some ⟨b0_0, 0, none⟩), .slice x.2.1 (prtsK (grV g) F x.1).length x.2.2, .slice z.2.1 z.1.length z.2.2, .int .i64 (z.1.length : Nat), .int .i64 (x.1 : Nat)])
        (fun x w' => x.1 ≤ z.1.length ∧ OwnT Vc.encI 1 3 w4_1.heap.size w' x.2.1 x.2.2 (prtsK (grV g) F x.1) ∧ Ext w4_1 w') (fun x => z.1.length - x.1) (0, none, 0) rfl ⟨Nat.zero_le _, OwnT.nil _ _ _ _ _, Vc.Mod.refl _ _⟩ ?_
      rintro ρ ⟨k, a7, c7⟩ w5 ⟨hk, ho, e5⟩
      dsimp only at hk ho e5 ⊢
      have hX5 := hX4.ext e5
      have hL5 := hL4.ext e5
      have E5 := E4.trans e5
      have hzc : z.1.length = (compsG (grV g)).length := by rw [← hz, List.length_map]
      have hln : (prtsK (grV g) F k).length = k := by unfold prtsK; rw [List.length_map, List.length_take]; omega
      refine V.seq (V.region (VL.op (R.lss rfl rfl) (VL.nil (V.seq (V.condP rfl (fun c22 => V.skip (V.seq (V.block (V.seq (?_))))) (fun c22 => V.exit (V.seq (?_))))))))
      · have hkl : k < z.1.length := by omega
        have hck : (compsG (grV g)).getD k default = (z.1.getD k default).l := by rw [← hz]; exact vals_at hkl
        have hcm : (z.1.getD k default).l ∈ compsG (grV g) := by rw [← hck]; exact gmem (by omega)
        have hc40 : (z.1.getD k default).l.length ≤ 40 := by
          have := List.any_eq_false.1 hb _ hcm
          simpa using this
        have hset := comps_set hv hcm
        have hpv := part_valid hv hset
        refine V.region (VL.op (R.ixS Tryz.runUnderlying23 Tryz.sizeOf22 rfl rfl (by omega) (by omega) (hL5.sl.some (i := k) hkl)) (VL.op (R.ld1 Tryz.isAgg22 rfl (((hL5.sl.row (i := k) hkl).cell (i := 0) rfl))) (VL.op (R.asS rfl) (VL.nil (V.seq (V.region (VL.op (R.ldA Tryz.isAgg25 Tryz.sizeOf25 rfl rfl ((show RowAt _ _ _ (encGr g) from hX5.rowAt 0 3)) rfl) (VL.op (R.mvS rfl) (VL.callX Tryz.call32 rfl (part_spec g (z.1.getD k default).a (z.1.getD k default).c (z.1.getD k default).l B w5 (hG.ext E5) hl (hL5.at hkl) (by omega) (Nat.le_trans hB E5.size) (hT.ext hB E5)) fun y w10 h10 e10 => VL.op (R.mvT rfl) (VL.op (R.extr rfl rfl) (VL.op (R.extr rfl rfl) (VL.allocSt (v := .agg (encGr y.1).toArray) Tryz.zeroValue25 Tryz.sizeOf25 rfl rfl rfl rfl rfl fun b10_6 w10_6 hb10_6 e10_6 hB10_6 => VL.op (R.asI rfl) (VL.nil (?_))))))))))))))
        obtain ⟨hy, hN, _⟩ := h10
        have hpf : partF (grV g) (z.1.getD k default).l = (partG (grV g) (z.1.getD k default).l, 0) := by
          unfold partF; rw [if_pos ⟨hv, hset⟩]
        rw [hpf] at hy
        have hgv : grV y.1 = partG (grV g) (z.1.getD k default).l := congrArg Prod.fst hy
        have hvy : validG (grV y.1) = true := by rw [hgv]; exact hpv
        have hny : y.1.n ≤ 40 := by
          have h1 : (grV y.1).n = ((z.1.getD k default).l.length : Int) := by rw [hgv]; rfl
          have h2 : (grV y.1).n = y.1.n := rfl
          omega
        have hnx : prtsK (grV g) F (k + 1) = prtsK (grV g) F k ++ [F (grV y.1)] := by rw [prtsK_succ (by omega), hck, hgv]
        have e56 := e10.trans e10_6
        have hdo2 := fun va w' e => hdo y.1 va w' (hN.ok.ext e) (newGlen hN hvy) hvy hny
        refine V.region (VL.op (R.mvS rfl) (VL.op (R.mvF rfl) (VL.op (R.ldA Tryz.isAgg25 Tryz.sizeOf25 rfl rfl ((show RowAt _ _ _ (encGr y.1) from hB10_6.rowAt 0 3)) rfl) (VL.op (R.mvS rfl) (VL.callCP rfl (hfn) rfl (hdo2 _ _ e10_6) fun w11_4 e11_4 => VL.append1 el22 Tryz.runUnderlying22 Tryz.sizeOf3 Tryz.zeroValue3 rfl (F (grV y.1)) rfl rfl rfl (ho.ext (e56.trans e11_4)) rfl rfl rfl (by omega) (by unfold maxLen; omega) (e5.trans (e56.trans e11_4)).size fun a8 c8 w8 vt8 ho8 m8 hf8 => VL.op (R.asS rfl) (VL.nil (V.region (VL.op (R.add rfl rfl (by omega) (by omega)) (VL.op (R.mvI rfl) (VL.nil (?_)))))))))))
        have eA := e56.trans e11_4
        rw [← hnx] at ho8
        refine ⟨(k + 1, a8, c8), ?_, ⟨by dsimp only; omega, ho8, (e5.trans eA).ownA m8 fun q hq => ho.ge q hq⟩, by dsimp only; omega⟩
        dsimp only
        rw [hnx, List.length_append]
        rfl
      · have hke : k = z.1.length := by omega
        subst hke
        refine V.region (VL.op (R.mvS rfl) (VL.op (R.asS rfl) (VL.op (R.asI rfl) (VL.nil (V.ret (fret2 (v := .slice _ _ _) (x := .int _ _) rfl rfl rfl rfl rfl (?_)))))))
        refine ⟨(a7, c7, prtsK (grV g) F z.1.length, 0), rfl, ⟨ho.weaken E4.size, ?_⟩, E5⟩
        unfold partsI prtsK
        rw [if_pos hE0, hzc, List.take_length]
end Go.Proofs.YtlnbkoojelhjdaaGreatDoor
