/- Repair: how many repairs a part has. -/
import Derived.Test.YtlnbkoojelhjdaaGreatDoorXR6
import Derived.Test.YtlnbkoojelhjdaaGreatDoorXH22a
import Derived.Test.YtlnbkoojelhjdaaGreatDoorXVcRepP
import Derived.Test.YtlnbkoojelhjdaaGreatDoorXVcInR
import Derived.Test.YtlnbkoojelhjdaaGreatDoorXVcBlk
import Derived.Test.YtlnbkoojelhjdaaGreatDoorXH8
namespace Go.Proofs.YtlnbkoojelhjdaaGreatDoor
open Go.Vc
set_option maxRecDepth 100000
set_option maxHeartbeats 16000000
theorem repK_len (E : List (List Int)) (N : Nat) : ∀ (f : Nat) (P : List Int), (repK E N f P).length ≤ 2 ^ f := by
 intro f
 induction f with
 | zero => intro P; exact Nat.le_refl _
 | succ f ih =>
  intro P
  rw [repK, List.length_append, Nat.pow_succ]
  have h1 : (if blkB E P ((N - (f + 1) : Nat) : Int) = true then [] else repK E N f (P ++ [((N - (f + 1) : Nat) : Int)])).length ≤ 2 ^ f := by
   split
   ·exact Nat.zero_le _
   ·exact ih _
  have h2 : (if prB E P (N - (f + 1) + 1) = true then repK E N f P else []).length ≤ 2 ^ f := by
   split
   ·exact ih _
   ·exact Nat.zero_le _
  omega
theorem leaves_tmp {n : Nat} {P : Program} {N : Nat} {ρ : Env} {w : World} {fn : Func} {D a1 : Nat} {v1 : Value} {RR : Ending → World → Prop} (hres : fn.results = #[.tmp a1]) (ha1 : Nat.blt a1 N = true) (hx1 : ρ a1 = v1) (hK : w.heap[D]? = some (.deferred (some [])))
  (hR : ∀ w', Mod (Vc.one D) w w' → RR (.returned v1) w') : LeavesInM Fence.wide n P fn (act N ρ).tmps RR [{ target := .collected D, args := #[] }] .returning w := by
 have hm : Mod (Vc.one D) w (w.putObj D (.deferred none)) := putObj_mod _
 refine ⟨by simp, .inl ⟨D, _, rfl, run_takeDeferred hK, v1, ?_, hR _ hm⟩⟩
 have e1 := tmps_getD (ρ := ρ) ha1
 rw [hx1] at e1
 rw [Array.getD_eq_getD_getElem?] at e1
 simp only [results, hres]
 simp [e1, go_sem]
theorem count1_spec (g : GrW) (va : Value) (w : World) (hG : GOk w g) (hl : GLen g) (hv : validG (grV g) = true) (hn : g.n ≤ 40) :
  RetsP Tryz.prog 55 #[.agg (encGr g).toArray, va] w (.int .i64 ((repsG (grV g)).length : Nat)) := by
 refine enterW (args := [_, _]) 2 Tryz.func55 rfl Tryz.ntmps55 rfl ?_
 refine InW.seqV (by kernel_rfl) ?_
 refine V.region (VL.box (v := .agg _) rfl fun b0_0 w0_0 hb0_0 e0_0 hB0_0 => VL.op (R.asI rfl) (VL.nil (?_)))
 refine InW.seqV (by kernel_rfl) ?_
 refine V.region (VL.allocSt (v := .int _ _) Tryz.zeroValue3 Tryz.sizeOf3 rfl rfl rfl rfl rfl fun b1_0 w1_0 hb1_0 e1_0 hB1_0 => VL.nil (?_))
 refine InW.seqI (InW.seqV (by kernel_rfl) ?_)
 have e1 : Ext w w1_0 := e0_0.trans e1_0
 refine V.region (VL.op (R.ldA Tryz.isAgg25 Tryz.sizeOf25 rfl rfl ((show RowAt _ _ _ (encGr g) from (hB0_0.ext e1_0).rowAt 0 3)) rfl) (VL.callX Tryz.call45 rfl (all_spec28 g w1_0) fun gb w4 ⟨hgb, hGb⟩ e4 => VL.nil (?_)))
 refine InW.gen fun ρ4 hρ => InW.block ⟨?_⟩
 have s5 : ρ4 5 = .pointer (some ⟨b1_0, 0, none⟩) := by rw [hρ]; rfl
 have s7 : ρ4 7 = .func (.func 71) #[] #[.pointer (some ⟨gb, 0, none⟩)] := by rw [hρ]; rfl
 clear hρ
 have e40 : Ext w w4 := e1.trans e4
 have h54 := hB1_0.ext e4
 have l5 := hB1_0.lt
 have lgb := hGb.lt
 have z1 := e0_0.size
 have ng : w.heap.size ≤ gb := Nat.le_trans e1.size hgb
 have n5 : w.heap.size ≤ b1_0 := by omega
 have o5 : b1_0 < gb := by omega
 have hseq := all_seq 1 gb w.heap.size g w w4 hG rfl hl hv e40.mod ng hGb
 have offT : ∀ {T : Nat → Prop} {k : Nat}, OkT (fun k => k = gb) (w4.heap.size + 2) T → k < gb → ¬ T k := fun hT hk h => by
  rcases hT _ h with h | h <;> omega
 have hz4 := e40.size
 refine rangeT (m := 1) (gf := 71) (lb := #[.pointer (some ⟨gb, 0, none⟩)]) ((eval_act rfl).trans s7) Tryz.call71 (ne := w.heap.size) (Lb := fun k => k = gb) e40.size (fun k hk => by subst hk; exact hGb.lt) hseq (fun _ => rfl)
  (fun T pre W => Blk W b1_0 (.cells #[.int .i64 (pre.length : Nat)] 3 (0, 0)) ∧ Mod (From w.heap.size) w W) (fun _ _ _ => False) ?hp (fun _ _ _ _ _ h _ => h) ?hGm ?h0
  (fun x => act 12 (upd ρ4 8 (.slice x.a x.l.length x.c))) ?hassign ?hbody ?hdone (fun _ _ _ _ _ h _ => h.elim)
 case hp =>
  rintro T pre A A' hT ⟨h1, h2⟩ hm
  refine ⟨h1.mod hm ?_, h2.then hm fun k _ hk => ?_⟩
  ·rintro (h | h | h)
   ·exact offT hT o5 h
   ·omega
   ·omega
  ·show _ ≤ _
   rcases hk with h1 | h1 | h1
   ·rcases hT _ h1 with h2 | h2
    ·rw [h2]; exact ng
    ·omega
   ·omega
   ·omega
 case hGm =>
  rintro T x A A' hT ⟨g1, g2⟩ hm
  exact ⟨g1.mod hm fun k hk h => by have := g1.ge k hk; omega, g2⟩
 case h0 =>
  intro T W hT hb hW
  exact ⟨h54.ext hW, Ext.mod (e40.trans hW)⟩
 case hassign =>
  intro lp x W K hK
  rw [one_put]
  exact wpIn_skip hK
 case hbody =>
  rintro lp T pre x W hT ⟨h1, h2⟩ _ ⟨t, ht⟩ hWs
  have hlen : pre.length + 1 ≤ 1099511627776 := by
   have h3 := repK_len (grV g).edges (grV g).n.toNat (grV g).n.toNat []
   have h4 : (repsG (grV g)).length = (repK (grV g).edges (grV g).n.toNat (grV g).n.toNat []).length := rfl
   have h5 : 2 ^ (grV g).n.toNat ≤ 2 ^ 40 := Nat.pow_le_pow_right (by decide) (by show g.n.toNat ≤ 40; omega)
   rw [ht] at h4
   simp [vals] at h4
   have h6 : (2 : Nat) ^ 40 = 1099511627776 := by decide
   omega
  refine VI.use (Q := fun e _ W' => match e with
   | .normal => (Blk W' b1_0 (.cells #[.int .i64 ((pre ++ [x]).length : Nat)] 3 (0, 0)) ∧ Mod (From w.heap.size) w W') ∧ Mod (fun k => w.heap.size ≤ k ∧ ¬ T k ∧ k ≠ w4.heap.size ∧ k ≠ w4.heap.size + 1) W W'
   | .ret => False
   | _ => False) (by kernel_rfl) ?_ (fun e _ _ h => by cases e <;> first | exact h | exact h.elim)
  obtain ⟨ρ5, h5⟩ : ∃ ρ5, ρ4 = upd ρ5 5 (.pointer (some ⟨b1_0, 0, none⟩)) := ⟨ρ4, by rw [upd_eq s5]⟩
  rw [h5]
  refine VI.block ?_
  refine VI.region (fun _ _ h => h) rfl (VL.op (R.ld1 Tryz.isAgg3 rfl ((h1.cell _))) (VL.op (R.add rfl rfl (by omega) (by omega)) (VL.store (v := .int _ _) Tryz.sizeOf3 rfl rfl rfl rfl h1 rfl rfl fun w9 m9 hs9 hB9 => VL.nil (?_))))
  refine ⟨⟨?_, h2.then m9 fun k _ hk => ?_⟩, m9.weaken fun k _ hk => ?_⟩
  ·rw [List.length_append]; exact hB9
  ·unfold Vc.one at hk; show _ ≤ _; dsimp only at hk; omega
  ·unfold Vc.one at hk; dsimp only at hk
   subst hk
   exact ⟨n5, offT hT o5, by omega, by omega⟩
 case hdone =>
  rintro T xs W hT hS ⟨h1, h2⟩ hK
  obtain ⟨ρ5, h5⟩ : ∃ ρ5, ρ4 = upd ρ5 5 (.pointer (some ⟨b1_0, 0, none⟩)) := ⟨ρ4, by rw [upd_eq s5]⟩
  rw [h5]
  refine retD (by kernel_rfl) (by kernel_rfl) ?_
  refine VL.op (R.ld1 Tryz.isAgg3 rfl (h1.cell _)) (VL.op (R.asI rfl) (VL.nil ⟨rfl, ?_⟩))
  refine leaves_tmp rfl rfl rfl hK fun W2 hm2 => ?_
  refine ⟨_, rfl, ?_, (Mod.ownA (Mod.refl Vc.nob w) h2 fun k hk => hk).own hm2 hz4⟩
  rw [← hS, List.length_map]
  rfl
end Go.Proofs.YtlnbkoojelhjdaaGreatDoor

/- Repair: Count. -/
namespace Go.Proofs.YtlnbkoojelhjdaaGreatDoor
open Go.Vc
set_option maxRecDepth 100000
set_option maxHeartbeats 16000000
theorem comps_len {g : Gr} (hg : validG g = true) : (compsG g).length ≤ g.n.toNat := by
 unfold compsG
 rw [if_pos hg, grpsK_len]; exact hdsK_len _ _
theorem comp_len {g : Gr} (hg : validG g = true) {c : List Int} (h : c ∈ compsG g) : (c.length : Int) ≤ g.n := by
 have h1 := setB_iff.1 (comps_set hg h)
 exact set_len h1.1 h1.2 (costB_iff.1 (validG_iff.1 hg).1).1
theorem newGlen {w w' : World} {g : GrW} (h : GNew w w' g) (hv : validG (grV g) = true) : GLen g := by
 obtain ⟨h1, h2, h3, _⟩ := validG_iff.1 hv
 have hc := costB_iff.1 h1
 exact h.glen rfl (by have h0 : (grV g).n ≤ 4000 := hc.2.1; have h4 := hc.2.2.1; omega) (by omega) (List.all_eq_true.2 fun e he => decide_eq_true (h3 e he).1)
def partsE (g : Gr) : Int := if validG g = true then (if (compsG g).any (fun c => decide (40 < c.length)) = true then 17 else 0) else 1
def partsI (g : Gr) (F : Gr → Int) : List Int × Int := if partsE g = 0 then ((compsG g).map fun c => F (partG g c), 0) else ([], partsE g)
def prtsK {α : Type} (g : Gr) (F : Gr → α) (k : Nat) : List α := ((compsG g).take k).map fun c => F (partG g c)
theorem prtsK_succ {α : Type} {g : Gr} {F : Gr → α} {k : Nat} (h : k < (compsG g).length) : prtsK g F (k + 1) = prtsK g F k ++ [F (partG g ((compsG g).getD k default))] := by
 unfold prtsK
 rw [List.take_succ_eq_append_getElem h, List.map_append, gget h]
 rfl
theorem big1_spec (a : Option Addr) (c : Nat) (l : List Int) (w : World) (hl : l.length ≤ 4000) : RetsP Tryz.prog 80 #[.slice a l.length c] w (.bool (decide (40 < l.length))) := by
 refine enter (args := [_]) Tryz.func80 rfl Tryz.ntmps80 (by kernel_rfl) rfl ?_
 refine V.seq (V.region (VL.op (R.asB rfl) (VL.nil (V.seq (V.region (VL.op (R.mvS rfl) (VL.op (R.lenS Tryz.runUnderlying22 rfl) (VL.op (R.gtr rfl rfl) (VL.op (R.asB rfl) (VL.nil (V.ret (fret1 (v := .bool _) rfl rfl rfl (⟨?_, (Mod.refl _ _)⟩)))))))))))))
 congr 1
 rw [decide_eq_decide]
 omega
theorem partsI_spec (gf : FuncId) (F : Gr → Int) (g : GrW) (B : Nat) (w : World) (hfn : IsFn Tryz.prog gf) (hG : GOk w g) (hl : GLen g) (hB : B ≤ w.heap.size) (hT : TabW B w)
  (hdo : ∀ (g' : GrW) (va : Value) (w' : World), GOk w' g' → GLen g' → validG (grV g') = true → g'.n ≤ 40 → RetsP Tryz.prog gf ([] ++ [Value.agg (encGr g').toArray, va] ++ []).toArray w' (.int .i64 (F (grV g')))) :
  RetsX Tryz.prog 54 #[.agg (encGr g).toArray, .func (.func gf) #[] #[]] w (fun x : Option Addr × Nat × List Int × Int => .tuple #[.slice x.1 x.2.2.1.length x.2.1, .int .i64 x.2.2.2])
   (fun x w' => OwnT Vc.encI 1 3 w.heap.size w' x.1 x.2.1 x.2.2.1 ∧ (x.2.2.1, x.2.2.2) = partsI (grV g) F) := by
 refine enter (args := [_, _]) Tryz.func54 rfl Tryz.ntmps54 (by kernel_rfl) rfl ?_
 refine V.seq (V.region (VL.box (v := .agg _) rfl fun b0_0 w0_0 hb0_0 e0_0 hB0_0 => VL.op (R.asS rfl) (VL.op (R.asI rfl) (VL.nil (V.seq (V.seq (V.region (VL.op (R.ldA Tryz.isAgg25 Tryz.sizeOf25 rfl rfl ((show RowAt _ _ _ (encGr g) from (hB0_0.rowAt 0 3))) rfl) (VL.callP Tryz.call28 rfl (valid_spec g B _ (hG.ext e0_0) hl (Nat.le_trans hB (e0_0).size) (hT.ext hB e0_0)) fun w1_1 e1_1 => VL.op (R.not rfl) (VL.nil (V.cond rfl (fun c14 => V.seq (V.region (VL.op (R.asS rfl) (VL.op (R.asI rfl) (VL.nil (V.ret (fret2 (v := .slice _ _ _) (x := .int _ _) rfl rfl rfl rfl rfl (?_)))))))) (fun c14 => V.skip (V.seq (?_))))))))))))))
 ·refine ⟨(none, 0, [], 1), rfl, ⟨OwnT.nil _ _ _ _ _, ?_⟩, e0_0.trans e1_1⟩
  have hv : validG (grV g) = false := by simpa using c14
  unfold partsI partsE
  rw [hv]
  rfl
 ·have hv : validG (grV g) = true := by simpa using c14
  have hn := costB_iff.1 (validG_iff.1 hv).1
  have E1 : Ext w w1_1 := e0_0.trans e1_1
  have hX1 := hB0_0.ext e1_1
  refine V.region (VL.op (R.ldA Tryz.isAgg25 Tryz.sizeOf25 rfl rfl ((show RowAt _ _ _ (encGr g) from hX1.rowAt 0 3)) rfl) (VL.callX Tryz.call31 rfl (comps_spec g B _ (hG.ext E1) hl (Nat.le_trans hB E1.size) (hT.ext hB E1)) fun z w3 ⟨hz, hL⟩ e3 => VL.op (R.asS rfl) (VL.nil (V.seq (V.seq (?_))))))
  have hcl : ∀ x ∈ z.1, x.l.length ≤ 4000 := fun x hx => by
   have h1 : x.l ∈ compsG (grV g) := by rw [← hz]; exact List.mem_map_of_mem hx
   have := comp_len hv h1
   have h0 : (grV g).n ≤ 4000 := hn.2.1
   omega
  have hzl : z.1.length ≤ 4000 := by
   have h1 : (compsG (grV g)).length ≤ (grV g).n.toNat := comps_len hv
   have h0 : (grV g).n ≤ 4000 := hn.2.1
   rw [← hz, List.length_map] at h1
   omega
  have hany := containsL_spec 80 [] [] (fun c => decide (40 < c.length)) (fun _ => True) z.2.1 z.2.2 z.1 w3 Tryz.call80 (fun w' x _ hx _ => big1_spec x.a x.c x.l w' (hcl x hx)) (fun _ _ h _ => h) trivial hL (by omega)
  have hanyE : (z.1.any fun x => decide (40 < x.l.length)) = (compsG (grV g)).any fun c => decide (40 < c.length) := by rw [← hz, List.any_map]; rfl
  rw [hanyE] at hany
  refine V.region (VL.op (R.mvS rfl) (VL.callP Tryz.call79 rfl (hany) fun w4_1 e4_1 => VL.nil (V.cond rfl (fun c18 => V.seq (V.region (VL.op (R.asS rfl) (VL.op (R.asI rfl) (VL.nil (V.ret (fret2 (v := .slice _ _ _) (x := .int _ _) rfl rfl rfl rfl rfl (?_)))))))) (fun c18 => V.skip (V.seq (?_))))))
  ·refine ⟨(none, 0, [], 17), rfl, ⟨OwnT.nil _ _ _ _ _, ?_⟩, (E1.trans e3).trans e4_1⟩
   have hb : (compsG (grV g)).any (fun c => decide (40 < c.length)) = true := by assumption
   unfold partsI partsE
   rw [if_pos hv, if_pos hb]
   rfl
  ·have hb : (compsG (grV g)).any (fun c => decide (40 < c.length)) = false := by assumption
   have hE0 : partsE (grV g) = 0 := by
    unfold partsE
    rw [if_pos hv, if_neg (by rw [hb]; decide)]
   have E4 : Ext w w4_1 := (E1.trans e3).trans e4_1
   have hX4 := (hX1.ext e3).ext e4_1
   have hL4 := hL.ext e4_1
   refine V.region (VL.op (R.asS rfl) (VL.nil (V.seq (V.seq (V.region (VL.op (R.mvS rfl) (VL.op (R.lenS Tryz.runUnderlying23 rfl) (VL.op (R.mvI rfl) (VL.nil (V.block (?_)))))))))))
   refine V.loop [1, 2, 7, 19, 20, 21] (fun x : Nat × Option Addr × Nat => [.func (.func gf) #[] #[], .pointer (some ⟨b0_0, 0, none⟩), .slice x.2.1 (prtsK (grV g) F x.1).length x.2.2, .slice z.2.1 z.1.length z.2.2, .int .i64 (z.1.length : Nat), .int .i64 (x.1 : Nat)])
    (fun x w' => x.1 ≤ z.1.length ∧ OwnT Vc.encI 1 3 w4_1.heap.size w' x.2.1 x.2.2 (prtsK (grV g) F x.1) ∧ Ext w4_1 w') (fun x => z.1.length - x.1) (0, none, 0) rfl ⟨Nat.zero_le _, OwnT.nil _ _ _ _ _, Vc.Mod.refl _ _⟩ ?_
   rintro ρ ⟨k, a7, c7⟩ w5 ⟨hk, ho, e5⟩
   dsimp only at hk ho e5 ⊢
   have hX5 := hX4.ext e5
   have hL5 := hL4.ext e5
   have E5 := E4.trans e5
   have hzc : z.1.length = (compsG (grV g)).length := by rw [← hz, List.length_map]
   have hln : (prtsK (grV g) F k).length = k := by unfold prtsK; rw [List.length_map, List.length_take]; omega
   refine V.seq (V.region (VL.op (R.lss rfl rfl) (VL.nil (V.seq (V.condP rfl (fun c22 => V.skip (V.seq (V.block (V.seq (?_))))) (fun c22 => V.exit (V.seq (?_))))))))
   ·have hkl : k < z.1.length := by omega
    have hck : (compsG (grV g)).getD k default = (z.1.getD k default).l := by rw [← hz]; exact vals_at hkl
    have hcm : (z.1.getD k default).l ∈ compsG (grV g) := by rw [← hck]; exact gmem (by omega)
    have hc40 : (z.1.getD k default).l.length ≤ 40 := by
     have := List.any_eq_false.1 hb _ hcm
     simpa using this
    have hset := comps_set hv hcm
    have hpv := part_valid hv hset
    refine V.region (VL.op (R.ixS Tryz.runUnderlying23 Tryz.sizeOf22 rfl rfl (by omega) (by omega) (hL5.sl.some (i := k) hkl)) (VL.op (R.ld1 Tryz.isAgg22 rfl (((hL5.sl.row (i := k) hkl).cell (i := 0) rfl))) (VL.op (R.asS rfl) (VL.nil (V.seq (V.region (VL.op (R.ldA Tryz.isAgg25 Tryz.sizeOf25 rfl rfl ((show RowAt _ _ _ (encGr g) from hX5.rowAt 0 3)) rfl) (VL.op (R.mvS rfl) (VL.callX Tryz.call32 rfl (part_spec g (z.1.getD k default).a (z.1.getD k default).c (z.1.getD k default).l B w5 (hG.ext E5) hl (hL5.at hkl) (by omega) (Nat.le_trans hB E5.size) (hT.ext hB E5)) fun y w10 h10 e10 => VL.op (R.mvT rfl) (VL.op (R.extr rfl rfl) (VL.op (R.extr rfl rfl) (VL.allocSt (v := .agg (encGr y.1).toArray) Tryz.zeroValue25 Tryz.sizeOf25 rfl rfl rfl rfl rfl fun b10_6 w10_6 hb10_6 e10_6 hB10_6 => VL.op (R.asI rfl) (VL.nil (?_))))))))))))))
    obtain ⟨hy, hN, _⟩ := h10
    have hpf : partF (grV g) (z.1.getD k default).l = (partG (grV g) (z.1.getD k default).l, 0) := by
     unfold partF; rw [if_pos ⟨hv, hset⟩]
    rw [hpf] at hy
    have hgv : grV y.1 = partG (grV g) (z.1.getD k default).l := congrArg Prod.fst hy
    have hvy : validG (grV y.1) = true := by rw [hgv]; exact hpv
    have hny : y.1.n ≤ 40 := by
     have h1 : (grV y.1).n = ((z.1.getD k default).l.length : Int) := by rw [hgv]; rfl
     have h2 : (grV y.1).n = y.1.n := rfl
     omega
    have hnx : prtsK (grV g) F (k + 1) = prtsK (grV g) F k ++ [F (grV y.1)] := by rw [prtsK_succ (by omega), hck, hgv]
    have e56 := e10.trans e10_6
    have hdo2 := fun va w' e => hdo y.1 va w' (hN.ok.ext e) (newGlen hN hvy) hvy hny
    refine V.region (VL.op (R.mvS rfl) (VL.op (R.mvF rfl) (VL.op (R.ldA Tryz.isAgg25 Tryz.sizeOf25 rfl rfl ((show RowAt _ _ _ (encGr y.1) from hB10_6.rowAt 0 3)) rfl) (VL.op (R.mvS rfl) (VL.callCP rfl (hfn) rfl (hdo2 _ _ e10_6) fun w11_4 e11_4 => VL.append1 el22 Tryz.runUnderlying22 Tryz.sizeOf3 Tryz.zeroValue3 rfl (F (grV y.1)) rfl rfl rfl (ho.ext (e56.trans e11_4)) rfl rfl rfl (by omega) (by unfold maxLen; omega) (e5.trans (e56.trans e11_4)).size fun a8 c8 w8 vt8 ho8 m8 hf8 => VL.op (R.asS rfl) (VL.nil (V.region (VL.op (R.add rfl rfl (by omega) (by omega)) (VL.op (R.mvI rfl) (VL.nil (?_)))))))))))
    have eA := e56.trans e11_4
    rw [← hnx] at ho8
    refine ⟨(k + 1, a8, c8), ?_, ⟨by dsimp only; omega, ho8, (e5.trans eA).ownA m8 fun q hq => ho.ge q hq⟩, by dsimp only; omega⟩
    dsimp only
    rw [hnx, List.length_append]
    rfl
   ·have hke : k = z.1.length := by omega
    subst hke
    refine V.region (VL.op (R.mvS rfl) (VL.op (R.asS rfl) (VL.op (R.asI rfl) (VL.nil (V.ret (fret2 (v := .slice _ _ _) (x := .int _ _) rfl rfl rfl rfl rfl (?_)))))))
    refine ⟨(a7, c7, prtsK (grV g) F z.1.length, 0), rfl, ⟨ho.weaken E4.size, ?_⟩, E5⟩
    unfold partsI prtsK
    rw [if_pos hE0, hzc, List.take_length]
end Go.Proofs.YtlnbkoojelhjdaaGreatDoor

/- Repair: Count, joined. -/
namespace Go.Proofs.YtlnbkoojelhjdaaGreatDoor
open Go.Vc
set_option maxRecDepth 100000
set_option maxHeartbeats 16000000
def cntR : List Int → Int → Int × Int
 | [], p => (p, 0)
 | x :: l, p => if 1000000000 < x ∨ 1000000000 < p * x then (0, 2) else cntR l (p * x)
theorem cntR_cons (x : Int) (l : List Int) (p : Int) : cntR (x :: l) p = if 1000000000 < x ∨ 1000000000 < p * x then (0, 2) else cntR l (p * x) := rfl
def cntL (G : Gr) : Int := ((repsG G).length : Nat)
def countG (g : Gr) : Int × Int := if partsE g = 0 then cntR ((compsG g).map fun c => cntL (partG g c)) 1 else (0, partsE g)
theorem drop_at {l : List Int} {k : Nat} (h : k < l.length) : l.drop k = l.getD k default :: l.drop (k + 1) := by
 rw [List.drop_eq_getElem_cons h, gget h]
theorem count_spec (g : GrW) (B : Nat) (w : World) (hG : GOk w g) (hl : GLen g) (hB : B ≤ w.heap.size) (hT : TabW B w) :
  RetsX Tryz.prog 23 #[.agg (encGr g).toArray] w (fun x : Int × Int => .tuple #[.int .i64 x.1, .int .i64 x.2]) (fun x _ => x = countG (grV g)) := by
 refine enter (args := [_]) Tryz.func23 rfl Tryz.ntmps23 (by kernel_rfl) rfl ?_
 have hspec := fun w' hG' hB' hT' => partsI_spec 55 cntL g B w' Tryz.call55 hG' hl hB' hT' (fun g' va w' h1 h2 h3 h4 => count1_spec g' va w' h1 h2 h3 h4)
 refine V.seq (V.region (VL.box (v := .agg _) rfl fun b0_0 w0_0 hb0_0 e0_0 hB0_0 => VL.op (R.asI rfl) (VL.op (R.asI rfl) (VL.nil (V.seq (V.region (VL.op (R.ldA Tryz.isAgg25 Tryz.sizeOf25 rfl rfl ((show RowAt _ _ _ (encGr g) from (hB0_0.rowAt 0 3))) rfl) (VL.callX Tryz.call54 rfl (hspec _ (hG.ext e0_0) (Nat.le_trans hB (e0_0).size) (hT.ext hB e0_0)) fun x1 w1 h1 e1 => VL.op (R.mvT rfl) (VL.op (R.extr rfl rfl) (VL.op (R.extr rfl rfl) (VL.op (R.asS rfl) (VL.op (R.asI rfl) (VL.nil (V.seq (V.seq (V.region (VL.op (R.mvI rfl) (VL.op (R.neq rfl rfl) (VL.nil (V.condP rfl (fun c15 => V.seq (?_)) (fun c15 => V.skip (V.seq (?_)))))))))))))))))))))))
 ·obtain ⟨_, h2⟩ := h1
  refine V.region (VL.op (R.mvI rfl) (VL.op (R.asI rfl) (VL.op (R.asI rfl) (VL.nil (V.ret (fret2 (v := .int _ _) (x := .int _ _) rfl rfl rfl rfl rfl (?_)))))))
  refine ⟨(0, x1.2.2.2), rfl, ?_, e0_0.trans e1⟩
  have h3 := congrArg Prod.snd h2
  unfold partsI at h3
  by_cases hz : partsE (grV g) = 0
  ·rw [if_pos hz] at h3
   exact absurd h3 c15
  ·rw [if_neg hz] at h3
   unfold countG
   rw [if_neg hz, h3]
 ·obtain ⟨ho, h2⟩ := h1
  obtain ⟨a, c, l, er⟩ := x1
  have c15 : er = 0 := by simpa using c15
  dsimp only at ho h2 c15 ⊢
  have hz : partsE (grV g) = 0 := by
   refine Classical.byContradiction fun hz => ?_
   unfold partsI at h2
   rw [if_neg hz] at h2
   have := congrArg Prod.snd h2
   exact hz (this.symm.trans c15)
  have hL : l = (compsG (grV g)).map fun c => cntL (partG (grV g) c) := by
   unfold partsI at h2
   rw [if_pos hz] at h2
   exact congrArg Prod.fst h2
  have hv : validG (grV g) = true := by
   cases hh : validG (grV g) with
   | true => rfl
   | false => unfold partsE at hz; rw [hh, if_neg (by decide)] at hz; cases hz
  have hlen : l.length ≤ 4000 := by
   have h1 := comps_len hv
   have h3 := costB_iff.1 (validG_iff.1 hv).1
   have h0 : (grV g).n ≤ 4000 := h3.2.1
   rw [hL, List.length_map]
   omega
  have hpos : ∀ x ∈ l, 0 ≤ x := fun x hx => by
   rw [hL] at hx
   obtain ⟨c, _, rfl⟩ := List.mem_map.1 hx
   unfold cntL
   omega
  have hcnt : countG (grV g) = cntR l 1 := by unfold countG; rw [if_pos hz, ← hL]
  have E1 := e0_0.trans e1
  refine V.region (VL.op (R.asI rfl) (VL.nil (V.seq (V.seq (V.region (VL.op (R.mvS rfl) (VL.op (R.lenS Tryz.runUnderlying22 rfl) (VL.op (R.mvI rfl) (VL.nil (V.block (?_)))))))))))
  refine V.loop [6, 17, 18, 19] (fun x : Nat × Int => [.int .i64 x.2, .slice a l.length c, .int .i64 (l.length : Nat), .int .i64 (x.1 : Nat)])
   (fun x w' => x.1 ≤ l.length ∧ cntR l 1 = cntR (l.drop x.1) x.2 ∧ 0 ≤ x.2 ∧ x.2 ≤ 1000000000 ∧ Ext w1 w') (fun x => l.length - x.1) (0, 1) rfl ⟨Nat.zero_le _, rfl, by decide, by decide, Vc.Mod.refl _ _⟩ ?_
  rintro ρ ⟨k, p⟩ w5 ⟨hk, hc, hp0, hp1, e5⟩
  dsimp only at hk hc hp0 hp1 e5 ⊢
  have ho5 := (ho.ext e5).sl
  refine V.seq (V.region (VL.op (R.lss rfl rfl) (VL.nil (V.seq (V.condP rfl (fun c20 => V.skip (V.seq (V.block (V.seq (?_))))) (fun c20 => V.exit (V.seq (?_))))))))
  ·have hkl : k < l.length := by omega
   have hx0 := hpos _ (gmem hkl)
   have hmb : l.getD k default ≤ 1000000000 → 0 ≤ p * l.getD k default ∧ p * l.getD k default ≤ 1000000000000000000 := fun h => ⟨Int.mul_nonneg hp0 hx0, by
    have := Int.mul_le_mul hp1 h hx0 (by decide)
    omega⟩
   rw [drop_at hkl, cntR_cons] at hc
   refine V.region (VL.op (R.ixS Tryz.runUnderlying22 Tryz.sizeOf3 rfl rfl (by omega) (by omega) ((ho5).some (i := k) (by omega))) (VL.op (R.ld1 Tryz.isAgg3 rfl (((((ho5).ext (Mod.refl _ _)).row (i := k) (by omega)).cell (i := 0) rfl))) (VL.op (R.asI rfl) (VL.nil (V.seq (V.seq (V.region (VL.op (R.mvI rfl) (VL.op (R.gtr rfl rfl) (VL.op (R.mvB rfl) (VL.orP rfl rfl (fun g8_2 => VL.op (R.mvI rfl) (VL.gT rfl rfl (VL.op (R.mvI rfl) (VL.gT rfl rfl (VL.op (R.mul rfl rfl (by have := hmb (by omega); omega) (by have := hmb (by omega); omega)) (VL.gT rfl rfl (VL.op (R.gtr rfl rfl) (VL.op (R.pickFB rfl rfl) (VL.nil (V.condP rfl (fun c30 => V.seq (V.region (VL.op (R.asI rfl) (VL.op (R.asI rfl) (VL.nil (V.ret (fret2 (v := .int _ _) (x := .int _ _) rfl rfl rfl rfl rfl (?_)))))))) (fun c30 => V.skip (V.region (VL.op (R.mvI rfl) (VL.op (R.mvI rfl) (VL.op (R.mul rfl rfl (by have := hmb (by omega); omega) (by have := hmb (by omega); omega)) (VL.op (R.asI rfl) (VL.nil (V.region (VL.op (R.add rfl rfl (by omega) (by omega)) (VL.op (R.mvI rfl) (VL.nil (?_)))))))))))))))))))))) (fun g8_2 => VL.gF rfl rfl (VL.gF rfl rfl (VL.gF rfl rfl (VL.op (R.pickTB rfl rfl) (VL.nil (V.condT rfl (V.seq (V.region (VL.op (R.asI rfl) (VL.op (R.asI rfl) (VL.nil (V.ret (fret2 (v := .int _ _) (x := .int _ _) rfl rfl rfl rfl rfl (?_)))))))))))))))))))))))))
   ·exact ⟨(0, 2), rfl, by rw [hcnt, hc, if_pos (.inr (by assumption))], E1.trans e5⟩
   ·refine ⟨(k + 1, p * l.getD k default), rfl, ⟨by dsimp only; omega, ?_, (hmb (by omega)).1, by dsimp only; omega, e5⟩, by dsimp only; omega⟩
    dsimp only
    rw [hc, if_neg fun h => h.elim (by assumption) (by assumption)]
   ·exact ⟨(0, 2), rfl, by rw [hcnt, hc, if_pos (.inl (by assumption))], E1.trans e5⟩
  ·have hke : k = l.length := by omega
   subst hke
   refine V.region (VL.op (R.mvI rfl) (VL.op (R.asI rfl) (VL.op (R.asI rfl) (VL.nil (V.ret (fret2 (v := .int _ _) (x := .int _ _) rfl rfl rfl rfl rfl (?_)))))))
   refine ⟨(p, 0), rfl, ?_, E1.trans e5⟩
   rw [hcnt, hc, List.drop_length]
   rfl
end Go.Proofs.YtlnbkoojelhjdaaGreatDoor

/- Repair: the cheapest repair of a part. -/
namespace Go.Proofs.YtlnbkoojelhjdaaGreatDoor
open Go.Vc
set_option maxRecDepth 100000
set_option maxHeartbeats 16000000
theorem leaves_cellA {n : Nat} {P : Program} {N : Nat} {ρ : Env} {w : World} {fn : Func} {D a1 t1 b1 : Nat} {cs : List Value} {cl : Array Value} {RR : Ending → World → Prop} (hres : fn.results = #[.cell a1 t1]) (ha1 : Nat.blt a1 N = true) (hx1 : ρ a1 = .pointer (some ⟨b1, 0, none⟩)) (hK : w.heap[D]? = some (.deferred (some [])))
  (hB1 : Blk w b1 (.cells cl t1 (0, 0))) (hn1 : D ≠ b1) (hg1 : ∀ w, (isAgg t1).run P w = .ok true w) (hs : ∀ w, (sizeOf t1).run P w = .ok cs.length w) (hrow : ∀ w', Blk w' b1 (.cells cl t1 (0, 0)) → RowAt w' b1 0 cs)
  (hR : ∀ w', Mod (Vc.one D) w w' → RR (.returned (.agg cs.toArray)) w') : LeavesInM Fence.wide n P fn (act N ρ).tmps RR [{ target := .collected D, args := #[] }] .returning w := by
 have hm : Mod (Vc.one D) w (w.putObj D (.deferred none)) := putObj_mod _
 have hB1' := hB1.mod hm (fun e => hn1 e.symm)
 have hl := loadVar_agg (P := P) (ad := ⟨b1, 0, none⟩) hg1 hs rfl (hrow _ hB1')
 refine ⟨by simp, .inl ⟨D, _, rfl, run_takeDeferred hK, .agg cs.toArray, ?_, hR _ hm⟩⟩
 have e1 := tmps_getD (ρ := ρ) ha1
 rw [hx1] at e1
 rw [Array.getD_eq_getD_getElem?] at e1
 simp only [results, hres]
 simp [e1, asAddr, hl]
theorem put2 (p q r s : Value) : putCells #[p, q] 0 [r, s] = #[r, s] := by simp [putCells]
def costR (cost r : List Int) : Int := sm (r.map fun v => cost.getD v.toNat default)
def stepC (cost vs : List Int) (b : List Int × Int) (r : List Int) : List Int × Int := if b.2 < 0 ∨ costR cost r < b.2 then (r.map fun v => vs.getD v.toNat default, costR cost r) else b
def chF (cost vs : List Int) (L : List (List Int)) : List Int × Int := L.foldl (stepC cost vs) ([], -1)
theorem chF_snoc (cost vs : List Int) (L : List (List Int)) (r : List Int) : chF cost vs (L ++ [r]) = stepC cost vs (chF cost vs L) r := by unfold chF; rw [List.foldl_append]; rfl
def selV (vs r : List Int) (j : Nat) : List Int := (r.take j).map fun v => vs.getD v.toNat default
def selC (cost r : List Int) (j : Nat) : Int := sm ((r.take j).map fun v => cost.getD v.toNat default)
theorem selV_succ {vs r : List Int} {j : Nat} (h : j < r.length) : selV vs r (j + 1) = selV vs r j ++ [vs.getD (r.getD j default).toNat default] := by
 unfold selV
 rw [List.take_succ_eq_append_getElem h, List.map_append, gget h]; rfl
theorem selC_succ {cost r : List Int} {j : Nat} (h : j < r.length) : selC cost r (j + 1) = selC cost r j + cost.getD (r.getD j default).toNat default := by
 unfold selC
 rw [List.take_succ_eq_append_getElem h, List.map_append, gget h]
 exact sm_snoc _ _
theorem selC_bnd {cost r : List Int} (hc : ∀ x ∈ cost, 0 ≤ x ∧ x ≤ 1000000000) : ∀ j, 0 ≤ selC cost r j ∧ selC cost r j ≤ 1000000000 * (j : Int) := by
 intro j
 induction j with
 | zero => exact ⟨Int.le_refl _, Int.le_refl _⟩
 | succ j ih =>
  by_cases h : j < r.length
  ·rw [selC_succ h]
   have : 0 ≤ cost.getD (r.getD j default).toNat default ∧ cost.getD (r.getD j default).toNat default ≤ 1000000000 := by
    by_cases h2 : (r.getD j default).toNat < cost.length
    ·exact hc _ (gmem h2)
    ·rw [show cost.getD (r.getD j default).toNat default = 0 by rw [List.getD, List.getElem?_eq_none (Nat.le_of_not_lt h2)]; rfl]
     decide
   omega
  ·have : selC cost r (j + 1) = selC cost r j := by
    unfold selC
    rw [List.take_of_length_le (by omega), List.take_of_length_le (by omega)]
   rw [this]
   omega
structure ChP (g : GrW) (va : Option Addr) (vc : Nat) (vs : List Int) (w w4 : World) (b2 b3 b4 b5 : Nat) (T : Nat → Prop) (pre : List SlI) (W : World) (a : Option Addr) (c : Nat) : Prop where
 b5 : Blk W b5 (.cells #[.slice a (chF g.cost vs (vals pre)).1.length c, .int .i64 (chF g.cost vs (vals pre)).2] 79 (0, 0))
 own : OwnT Vc.encI 1 3 (w4.heap.size + 2) W a c (chF g.cost vs (vals pre)).1
 nT : ∀ k, aBlk a k → ¬ T k
 tS : ∀ k, T k → k < W.heap.size
 b2 : Blk W b2 (.cells (Value.agg (encGr g).toArray).cells 25 (0, 0))
 b3 : Blk W b3 (.cells #[.slice va vs.length vc] 22 (0, 0))
 b4 : Blk W b4 (.cells #[.slice none 0 0, .int .i64 0] 79 (0, 0))
 m : Mod (From w.heap.size) w W
theorem cheap1_spec (g : GrW) (va : Option Addr) (vc : Nat) (vs : List Int) (w : World) (hG : GOk w g) (hl : GLen g) (hv : validG (grV g) = true) (_hn : g.n ≤ 40) (hV : IntSl w va vs) (hvl : (vs.length : Int) = g.n) :
  RetsX Tryz.prog 58 #[.agg (encGr g).toArray, .slice va vs.length vc] w (fun x : SlI × Int => .agg #[.slice x.1.a x.1.l.length x.1.c, .int .i64 x.2]) (fun x w' => OwnT Vc.encI 1 3 w.heap.size w' x.1.a x.1.c x.1.l ∧ (x.1.l, x.2) = chF g.cost vs (repsG (grV g))) := by
 have hcb := costB_iff.1 (validG_iff.1 hv).1
 refine enterW (args := [_, _]) 2 Tryz.func58 rfl Tryz.ntmps58 rfl ?_
 refine InW.seqV (by kernel_rfl) ?_
 refine V.region (VL.box (v := .agg _) rfl fun b0_0 w0_0 hb0_0 e0_0 hB0_0 => VL.box (v := .slice _ _ _) rfl fun b0_1 w0_1 hb0_1 e0_1 hB0_1 => VL.alloc Tryz.zeroValue79 fun b0_2 w0_2 hb0_2 e0_2 hB0_2 => VL.nil (?_))
 refine InW.seqV (by kernel_rfl) ?_
 refine V.region (VL.op (R.build Tryz.zeroValue79 Tryz.runUnderlying79 pl79 rfl) (VL.allocSt (v := .agg #[.slice none 0 0, .int .i64 (-1)]) Tryz.zeroValue79 Tryz.sizeOf79 rfl rfl rfl rfl rfl fun b1_1 w1_1 hb1_1 e1_1 hB1_1 => VL.nil (?_)))
 refine InW.seqI (InW.seqV (by kernel_rfl) ?_)
 have E1 : Ext w w1_1 := ((e0_0.trans e0_1).trans e0_2).trans e1_1
 have hX1 := ((hB0_0.ext e0_1).ext e0_2).ext e1_1
 refine V.region (VL.op (R.ldA Tryz.isAgg25 Tryz.sizeOf25 rfl rfl ((show RowAt _ _ _ (encGr g) from hX1.rowAt 0 3)) rfl) (VL.callX Tryz.call45 rfl (all_spec28 g w1_1) fun gb w4 ⟨hgb, hGb⟩ e4 => VL.nil (?_)))
 refine InW.gen fun ρ4 hρ => InW.block ⟨?_⟩
 have s2 : ρ4 2 = .pointer (some ⟨b0_0, 0, none⟩) := by rw [hρ]; rfl
 have s3 : ρ4 3 = .pointer (some ⟨b0_1, 0, none⟩) := by rw [hρ]; rfl
 have s4 : ρ4 4 = .pointer (some ⟨b0_2, 0, none⟩) := by rw [hρ]; rfl
 have s5 : ρ4 5 = .pointer (some ⟨b1_1, 0, none⟩) := by rw [hρ]; rfl
 have s12 : ρ4 12 = .func (.func 71) #[] #[.pointer (some ⟨gb, 0, none⟩)] := by rw [hρ]; rfl
 clear hρ
 have e40 : Ext w w4 := E1.trans e4
 have h24 := hX1.ext e4
 have h34 := (((hB0_1.ext e0_2).ext e1_1).ext e4)
 have h44 := ((hB0_2.ext e1_1).ext e4)
 have h54 := hB1_1.ext e4
 have l2 := hB0_0.lt; have l3 := hB0_1.lt; have l4 := hB0_2.lt; have l5 := hB1_1.lt
 have lgb := hGb.lt
 have z0 := e0_0.size; have z1 := e0_1.size; have z2 := e0_2.size
 have ng : w.heap.size ≤ gb := Nat.le_trans E1.size hgb
 have n5 : w.heap.size ≤ b1_1 := by omega
 have n4 : w.heap.size ≤ b0_2 := by omega
 have o2 : b0_0 < gb := by omega
 have o3 : b0_1 < gb := by omega
 have o4 : b0_2 < gb := by omega
 have o5 : b1_1 < gb := by omega
 have hseq := all_seq 1 gb w.heap.size g w w4 hG rfl hl hv e40.mod ng hGb
 have offT : ∀ {T : Nat → Prop} {k : Nat}, OkT (fun k => k = gb) (w4.heap.size + 2) T → k < gb → ¬ T k := fun hT hk h => by
  rcases hT _ h with h | h <;> omega
 have hz4 := e40.size
 have offM : ∀ {T : Nat → Prop} {b : Nat}, OkT (fun k => k = gb) (w4.heap.size + 2) T → b < gb → ¬ (T b ∨ b = w4.heap.size ∨ b = w4.heap.size + 1) := fun hT hb h => by
  rcases h with h | h | h
  ·exact offT hT hb h
  ·omega
  ·omega
 refine rangeT (m := 1) (gf := 71) (lb := #[.pointer (some ⟨gb, 0, none⟩)]) ((eval_act rfl).trans s12) Tryz.call71 (ne := w.heap.size) (Lb := fun k => k = gb) e40.size (fun k hk => by subst hk; exact hGb.lt) hseq (fun _ => rfl)
  (fun T pre W => ∃ a c, ChP g va vc vs w w4 b0_0 b0_1 b0_2 b1_1 T pre W a c) (fun _ _ _ => False) ?hp (fun _ _ _ _ _ h _ => h) ?hGm ?h0
  (fun x => act 52 (upd (upd ρ4 13 (.slice x.a x.l.length x.c)) 6 (.slice x.a x.l.length x.c))) ?hassign ?hbody ?hdone (fun _ _ _ _ _ h _ => h.elim)
 case hp =>
  rintro T pre A A' hT ⟨a, c, h⟩ hm
  refine ⟨a, c, h.b5.mod hm (offM hT o5), h.own.mod hm fun k hk hk2 => ?_, h.nT, fun k hk => Nat.lt_of_lt_of_le (h.tS k hk) hm.size, h.b2.mod hm (offM hT o2), h.b3.mod hm (offM hT o3), h.b4.mod hm (offM hT o4), h.m.then hm fun k _ hk => ?_⟩
  ·have := h.own.ge k hk
   rcases hk2 with h1 | h1 | h1
   ·exact h.nT k hk h1
   ·omega
   ·omega
  ·show _ ≤ _
   rcases hk with h1 | h1 | h1
   ·rcases hT _ h1 with h2 | h2
    ·rw [h2]; exact ng
    ·omega
   ·omega
   ·omega
 case hGm =>
  rintro T x A A' hT ⟨g1, g2⟩ hm
  exact ⟨g1.mod hm fun k hk h => by have := g1.ge k hk; omega, g2⟩
 case h0 =>
  intro T W hT hb hW
  exact ⟨none, 0, h54.ext hW, OwnT.nil _ _ _ _ _, fun k hk => (by obtain ⟨ad, h, _⟩ := hk; cases h), hb, h24.ext hW, h34.ext hW, h44.ext hW, Ext.mod (e40.trans hW)⟩
 case hassign =>
  intro lp x W K hK
  exact assign1 (N := 52) (ρ := ρ4) rfl rfl hK
 case hbody =>
  rintro lp T pre x W hT ⟨a, c, hp⟩ ⟨g1, g2⟩ ⟨t, ht⟩ hWs
  have hxm : x.l ∈ repsG (grV g) := by rw [ht]; simp [vals]
  have hxr : ∀ y ∈ x.l, 0 ≤ y ∧ y < g.n := fun y hy => (setB_iff.1 ((reps_mem hv).1 hxm).set).2 y hy
  have hxl : x.l.length ≤ 4000 := by
   have h1 := set_len (setB_iff.1 ((reps_mem hv).1 hxm).set).1 (setB_iff.1 ((reps_mem hv).1 hxm).set).2 hcb.1
   have h0 : (grV g).n ≤ 4000 := hcb.2.1
   omega
  have okb : ∀ b, w.heap.size ≤ b → b < gb → ∀ k, Vc.one b k → (w.heap.size ≤ k ∧ ¬ T k ∧ k ≠ w4.heap.size ∧ k ≠ w4.heap.size + 1) := fun b h1 h2 k hk => by
   unfold Vc.one at hk
   subst hk
   exact ⟨h1, offT hT h2, by omega, by omega⟩
  refine VI.use (Q := fun e _ W' => match e with
   | .normal => (∃ a c, ChP g va vc vs w w4 b0_0 b0_1 b0_2 b1_1 T (pre ++ [x]) W' a c) ∧ Mod (fun k => w.heap.size ≤ k ∧ ¬ T k ∧ k ≠ w4.heap.size ∧ k ≠ w4.heap.size + 1) W W'
   | .ret => False
   | _ => False) (by kernel_rfl) ?_ (fun e _ _ h => by cases e <;> first | exact h | exact h.elim)
  obtain ⟨ρ5, h5⟩ : ∃ ρ5, ρ4 = upd (upd (upd ρ5 2 (.pointer (some ⟨b0_0, 0, none⟩))) 3 (.pointer (some ⟨b0_1, 0, none⟩))) 5 (.pointer (some ⟨b1_1, 0, none⟩)) := ⟨ρ4, by rw [upd_eq s2, upd_eq s3, upd_eq s5]⟩
  rw [h5]
  refine VI.block (VI.seq ?_)
  refine VI.region (fun _ _ h => h) rfl (VL.op (R.build Tryz.zeroValue79 Tryz.runUnderlying79 pl79 rfl) (VL.allocSt (v := .agg #[.slice none 0 0, .int .i64 0]) Tryz.zeroValue79 Tryz.sizeOf79 rfl rfl rfl rfl rfl fun b4_1 w4_1 hb4_1 e4_1 hB4_1 => VL.nil (VI.cut [2, 3, 5, 7] (fun y : Option Addr × Nat => [.pointer (some ⟨b0_0, 0, none⟩), .pointer (some ⟨b0_1, 0, none⟩), .pointer (some ⟨b1_1, 0, none⟩), .pointer (some ⟨b4_1, 0, none⟩)]) (fun y w' => Blk w' b4_1 (.cells #[.slice y.1 (x.l.map fun v => vs.getD v.toNat default).length y.2, .int .i64 (costR g.cost x.l)] 79 (0, 0)) ∧ OwnT Vc.encI 1 3 W.heap.size w' y.1 y.2 (x.l.map fun v => vs.getD v.toNat default) ∧ Ext W w') (VI.seq (?_)) (fun rgB2 xB2 wBB2 hBB2 => VI.seq (?_)))))
  ·have hcb2 : ∀ y ∈ g.cost, 0 ≤ y ∧ y ≤ 1000000000 := hcb.2.2.2
   have hcl : (g.cost.length : Int) = g.n := hcb.2.2.1
   have hVW : IntSl W va vs := hV.from hp.m
   have hCW : IntSl W g.ca g.cost := hG.c.from hp.m
   refine VI.region (fun _ _ h => h) rfl (VL.op (R.mvS rfl) (VL.op (R.lenS Tryz.runUnderlying22 rfl) (VL.op (R.mvI rfl) (VL.nil (VI.block (?_))))))
   refine VI.loop [2, 3, 5, 7, 15, 16, 17] (fun y : Nat × Option Addr × Nat => [.pointer (some ⟨b0_0, 0, none⟩), .pointer (some ⟨b0_1, 0, none⟩), .pointer (some ⟨b1_1, 0, none⟩), .pointer (some ⟨b4_1, 0, none⟩), .slice x.a x.l.length x.c, .int .i64 (x.l.length : Nat), .int .i64 (y.1 : Nat)])
    (fun y w' => y.1 ≤ x.l.length ∧ Blk w' b4_1 (.cells #[.slice y.2.1 (selV vs x.l y.1).length y.2.2, .int .i64 (selC g.cost x.l y.1)] 79 (0, 0)) ∧ OwnT Vc.encI 1 3 W.heap.size w' y.2.1 y.2.2 (selV vs x.l y.1) ∧ Ext W w') (fun y => x.l.length - y.1) (0, none, 0) rfl ⟨Nat.zero_le _, hB4_1, OwnT.nil _ _ _ _ _, e4_1⟩ ?_
   rintro ρ ⟨j, a7, c7⟩ w6 ⟨hj, hb7, ho7, e6⟩
   dsimp only at hj hb7 ho7 e6 ⊢
   refine VI.seq (VI.region (fun _ _ h => h) rfl (VL.op (R.lss rfl rfl) (VL.nil (VI.seq (VI.condP rfl (fun c18 => VI.skip (VI.seq (VI.block (VI.seq (?_))))) (fun c18 => VI.exit (?_)))))))
   ·have hjl : j < x.l.length := by omega
    have hxs : IntSl w6 x.a x.l := (g1.ext e6).sl
    have hr := hxr _ (gmem hjl)
    obtain ⟨v, hvd⟩ : ∃ v : Nat, x.l.getD j default = (v : Int) := ⟨(x.l.getD j default).toNat, by omega⟩
    have hbd := selC_bnd (r := x.l) hcb2 j
    have hlv : (selV vs x.l j).length = j := by unfold selV; rw [List.length_map, List.length_take]; omega
    refine VI.region (fun _ _ h => h) rfl (VL.op (R.ixS Tryz.runUnderlying22 Tryz.sizeOf3 rfl rfl (by omega) (by omega) ((hxs).some (i := j) (by omega))) (VL.op (R.ld1 Tryz.isAgg3 rfl (((((hxs).ext (Mod.refl _ _)).row (i := j) (by omega)).cell (i := 0) rfl))) (VL.op (R.asI rfl) (VL.nil (VI.seq (?_))))))
    rw [hvd]
    refine VI.regionS (fun _ _ h => h) rfl mixed 7 (by kernel_rfl) rfl (fun us => VS.op (fun wq eq => R.fld' (o := 0) Tryz.runUnderlying79 rfl rfl Tryz.sizeOf22 rfl rfl) (VS.op (fun wq eq => R.ld1 Tryz.isAgg22 rfl (((hb7.ext eq).cell 0))) (VS.op (fun wq eq => R.ld1 Tryz.isAgg22 rfl ((((hp.b3.ext e6).ext eq).cell 0))) (VS.op (fun wq eq => R.mvI rfl) (VS.op (fun wq eq => R.ixS Tryz.runUnderlying22 Tryz.sizeOf3 rfl rfl (by omega) (by omega) (hVW.some (i := v) (by omega))) (VS.op (fun wq eq => R.ld1 Tryz.isAgg3 rfl (((((hVW.ext e6).ext eq).row (i := v) (by omega)).cell (i := 0) rfl))) (VS.spec (SB1 Vc.encI 1 3 w6.heap.size (vs.getD v default)) SB1.mono rfl (fun wq eq hq => yieldsR_build1 Tryz.runUnderlying22 Tryz.sizeOf3 Tryz.zeroValue3 rfl rfl rfl (vs.getD v default) rfl rfl rfl eq.size fun b w2 ho he => ⟨⟨b, rfl, ho⟩, he⟩) (VS.nil (fun w8 e8 h8 => ?_))))))))) rfl
    obtain ⟨bb, hbb, hob⟩ := h8 6
    rw [hbb]
    have hb8 := hb7.ext e8
    have ho8 := ho7.ext e8
    have off8 : ¬ aBlk a7 b4_1 := (OwnT.tyA ho8).apart hb8 (by decide)
    have hsv := selV_succ (vs := vs) hjl
    rw [hvd, Int.toNat_natCast] at hsv
    have hsc := selC_succ (cost := g.cost) hjl
    rw [hvd, Int.toNat_natCast] at hsc
    refine VL.appendT el22 (fun _ => rfl) rfl (rfl) (ho8) rfl (rfl) (hob.sl) ((fun h => by cases h)) (by simp only [List.length_cons, List.length_nil]; omega) (by unfold maxLen; simp only [List.length_cons, List.length_nil]; omega) (e6.trans e8).size rfl fun a9 c9 w9 ho9 m9 hf9 => VL.op (R.fld' (o := 0) Tryz.runUnderlying79 rfl rfl Tryz.sizeOf22 rfl rfl) (VL.store (v := .slice _ _ _) Tryz.sizeOf22 rfl rfl rfl rfl (hb8.mod m9 off8) rfl rfl fun w10 m10 hs10 hB10 => VL.nil (?_))
    have e9 : Ext W w9 := (e6.trans e8).ownA m9 fun q hq => ho7.ge q hq
    have e10 : Ext W w10 := e9.own m10 (by dsimp only; omega)
    have hb10 : Blk w10 b4_1 (.cells #[.slice a9 ((selV vs x.l j).length + 1) c9, .int .i64 (selC g.cost x.l j)] 79 (0, 0)) := hB10
    have hcv : 0 ≤ g.cost.getD v default ∧ g.cost.getD v default ≤ 1000000000 := hcb2 _ (gmem (by omega))
    have hb9 := hb8.mod m9 off8
    have off9 : ¬ aBlk a9 b4_1 := (OwnT.tyA ho9).apart hb9 (by decide)
    have ho10 := ho9.mod m10 fun k hk h => by
     unfold Vc.one at h; dsimp only at h
     subst h
     exact off9 hk
    refine VI.regionQ (fun _ _ h => h) rfl mixed 7 (by kernel_rfl) rfl (fun w' => Ext _ w') (Ext.drawn _) (VQ.op (fun wq eq => R.fld' (o := 1) Tryz.runUnderlying79 rfl rfl Tryz.sizeOf3 rfl rfl) (VQ.op (fun wq eq => R.ld1 Tryz.isAgg3 rfl (((hb10.ext eq).cell 1))) (VQ.op (fun wq eq => R.fld' (o := 1) Tryz.runUnderlying25 rfl rfl Tryz.sizeOf22 rfl rfl) (VQ.op (fun wq eq => R.ld1 Tryz.isAgg22 rfl ((show wq.cell? ⟨b0_0, 1, none⟩ = some (Value.slice g.ca g.cost.length g.cc) from ((hp.b2.ext e10).ext eq).cell 1))) (VQ.op (fun wq eq => R.mvI rfl) (VQ.op (fun wq eq => R.ixS Tryz.runUnderlying22 Tryz.sizeOf3 rfl rfl (by omega) (by omega) (hCW.some (i := v) (by omega))) (VQ.op (fun wq eq => R.ld1 Tryz.isAgg3 rfl (((((hCW.ext e10).ext eq).row (i := v) (by omega)).cell (i := 0) rfl))) (VQ.nil fun w9q e9q => VL.op (R.add rfl rfl (by omega) (by omega)) (VL.op (R.fld' (o := 1) Tryz.runUnderlying79 rfl rfl Tryz.sizeOf3 rfl rfl) (VL.store (v := .int _ _) Tryz.sizeOf3 rfl rfl rfl rfl (hb10.ext e9q) rfl rfl fun w11 m11 hs11 hB11 => VL.nil (VI.region (fun _ _ h => h) rfl (VL.op (R.add rfl rfl (by omega) (by omega)) (VL.op (R.mvI rfl) (VL.nil (?_)))))))))))))))
    have hb11 : Blk w11 b4_1 (.cells #[.slice a9 ((selV vs x.l j).length + 1) c9, .int .i64 (selC g.cost x.l j + g.cost.getD v default)] 79 (0, 0)) := hB11
    refine ⟨(j + 1, a9, c9), rfl, ⟨by dsimp only; omega, ?_, ?_, ?_⟩, by dsimp only; omega⟩
    ·dsimp only
     rw [hsv, hsc, List.length_append]
     exact hb11
    ·dsimp only
     rw [hsv]
     exact (ho10.ext e9q).mod m11 fun k hk h => by
      unfold Vc.one at h; dsimp only at h
      subst h
      exact off9 hk
    ·exact (e10.trans e9q).own m11 (by dsimp only; omega)
   ·have hje : j = x.l.length := by omega
    subst hje
    unfold selV selC at *
    rw [List.take_length] at *
    exact ⟨(a7, c7), rfl, hb7, ho7, e6⟩
  ·obtain ⟨hb7, ho7, e7⟩ := hBB2
   have h5W := hp.b5.ext e7
   have hvx : vals (pre ++ [x]) = vals pre ++ [x.l] := by simp [vals]
   have htake : ((chF g.cost vs (vals pre)).2 < 0 ∨ costR g.cost x.l < (chF g.cost vs (vals pre)).2) → ∀ w12, Mod (Vc.one b1_1) wBB2 w12 → Blk w12 b1_1 (.cells #[.slice xB2.1 (x.l.map fun v => vs.getD v.toNat default).length xB2.2, .int .i64 (costR g.cost x.l)] 79 (0, 0)) →
     (∃ a c, ChP g va vc vs w w4 b0_0 b0_1 b0_2 b1_1 T (pre ++ [x]) w12 a c) ∧ Mod (fun k => w.heap.size ≤ k ∧ ¬ T k ∧ k ≠ w4.heap.size ∧ k ≠ w4.heap.size + 1) W w12 := fun hc w12 m12 hB12 => by
    have hst : chF g.cost vs (vals (pre ++ [x])) = (x.l.map fun v => vs.getD v.toNat default, costR g.cost x.l) := by
     rw [hvx, chF_snoc]
     unfold stepC
     rw [if_pos hc]
    have hz7 := e7.size
    refine ⟨⟨xB2.1, xB2.2, by rw [hst]; exact hB12, ?_, fun k hk hT2 => ?_, fun k hk => Nat.lt_of_lt_of_le (hp.tS k hk) (Nat.le_trans e7.size m12.size), (hp.b2.ext e7).mod m12 (by unfold Vc.one; omega), (hp.b3.ext e7).mod m12 (by unfold Vc.one; omega), (hp.b4.ext e7).mod m12 (by unfold Vc.one; omega), (hp.m.ext e7).then m12 fun k _ hk => (okb b1_1 n5 o5 k hk).1⟩, (Ext.mod e7).trans (m12.weaken fun k _ hk => okb b1_1 n5 o5 k hk)⟩
    ·rw [hst]
     refine (ho7.mod m12 fun k hk h => ?_).weaken hWs
     have := ho7.ge k hk
     unfold Vc.one at h
     omega
    ·have h1 := ho7.ge k hk
     have h2 := hp.tS k hT2
     omega
   refine VI.region (fun _ _ h => h) rfl (VL.op (R.fld' (o := 1) Tryz.runUnderlying79 rfl rfl Tryz.sizeOf3 rfl rfl) (VL.op (R.ld1 Tryz.isAgg3 rfl ((h5W.cell 1))) (VL.op (R.lss rfl rfl) (VL.op (R.mvB rfl) (VL.orP rfl rfl (fun g11_3 => VL.op (R.fld' (o := 1) Tryz.runUnderlying79 rfl rfl Tryz.sizeOf3 rfl rfl) (VL.gT rfl rfl (VL.op (R.ld1 Tryz.isAgg3 rfl ((hb7.cell 1))) (VL.gT rfl rfl (VL.op (R.fld' (o := 1) Tryz.runUnderlying79 rfl rfl Tryz.sizeOf3 rfl rfl) (VL.gT rfl rfl (VL.op (R.ld1 Tryz.isAgg3 rfl ((h5W.cell 1))) (VL.gT rfl rfl (VL.op (R.lss rfl rfl) (VL.op (R.pickFB rfl rfl) (VL.nil (VI.condP rfl (fun c49 => ?_) (fun c49 => VI.skip (?_)))))))))))))) (fun g11_3 => VL.gF rfl rfl (VL.gF rfl rfl (VL.gF rfl rfl (VL.gF rfl rfl (VL.op (R.pickTB rfl rfl) (VL.nil (VI.condT rfl (?_)))))))))))))
   ·exact VI.region (fun _ _ h => h) rfl (VL.op (R.ldA Tryz.isAgg79 Tryz.sizeOf79 rfl rfl (show RowAt wBB2 b4_1 0 [.slice xB2.1 (x.l.map fun v => vs.getD v.toNat default).length xB2.2, .int .i64 (costR g.cost x.l)] from hb7.rowAt 0 2) rfl) (VL.store (v := .agg #[.slice xB2.1 (x.l.map fun v => vs.getD v.toNat default).length xB2.2, .int .i64 (costR g.cost x.l)]) Tryz.sizeOf79 rfl rfl rfl rfl h5W rfl rfl fun w12 m12 hs12 hB12 => VL.nil (htake (.inr (by assumption)) w12 m12 (put2 _ _ _ _ ▸ hB12))))
   ·refine ⟨⟨a, c, ?_⟩, Ext.mod e7⟩
    have hst : chF g.cost vs (vals (pre ++ [x])) = chF g.cost vs (vals pre) := by
     rw [hvx, chF_snoc]
     unfold stepC
     rw [if_neg fun h => h.elim (by assumption) (by assumption)]
    exact ⟨by rw [hst]; exact h5W, by rw [hst]; exact hp.own.ext e7, hp.nT, fun k hk => Nat.lt_of_lt_of_le (hp.tS k hk) e7.size, hp.b2.ext e7, hp.b3.ext e7, hp.b4.ext e7, hp.m.ext e7⟩
   ·exact VI.region (fun _ _ h => h) rfl (VL.op (R.ldA Tryz.isAgg79 Tryz.sizeOf79 rfl rfl (show RowAt wBB2 b4_1 0 [.slice xB2.1 (x.l.map fun v => vs.getD v.toNat default).length xB2.2, .int .i64 (costR g.cost x.l)] from hb7.rowAt 0 2) rfl) (VL.store (v := .agg #[.slice xB2.1 (x.l.map fun v => vs.getD v.toNat default).length xB2.2, .int .i64 (costR g.cost x.l)]) Tryz.sizeOf79 rfl rfl rfl rfl h5W rfl rfl fun w12 m12 hs12 hB12 => VL.nil (htake (.inl (by assumption)) w12 m12 (put2 _ _ _ _ ▸ hB12))))
 case hdone =>
  rintro T xs W hT hS ⟨a, c, hp⟩ hK
  obtain ⟨ρ5, h5⟩ : ∃ ρ5, ρ4 = upd (upd ρ5 4 (.pointer (some ⟨b0_2, 0, none⟩))) 5 (.pointer (some ⟨b1_1, 0, none⟩)) := ⟨ρ4, by rw [upd_eq s4, upd_eq s5]⟩
  rw [h5]
  refine retD (by kernel_rfl) (by kernel_rfl) ?_
  refine VL.op (R.ldA Tryz.isAgg79 Tryz.sizeOf79 rfl rfl (show RowAt W b1_1 0 [.slice a (chF g.cost vs (vals xs)).1.length c, .int .i64 (chF g.cost vs (vals xs)).2] from hp.b5.rowAt 0 2) rfl) (VL.store (v := .agg #[.slice a (chF g.cost vs (vals xs)).1.length c, .int .i64 (chF g.cost vs (vals xs)).2]) Tryz.sizeOf79 rfl rfl rfl rfl hp.b4 rfl rfl fun w8 m8 hs8 hB8 => VL.nil ⟨rfl, ?_⟩)
  have hKl := (Array.getElem?_eq_some_iff.1 hK).1
  have hK8 : w8.heap[w4.heap.size]? = some (.deferred (some [])) := (m8.blk _ hKl (by unfold Vc.one; dsimp only; omega)) ▸ hK
  refine leaves_cellA (cs := [.slice a (chF g.cost vs (vals xs)).1.length c, .int .i64 (chF g.cost vs (vals xs)).2]) rfl rfl rfl hK8 hB8 (by omega) Tryz.isAgg79 Tryz.sizeOf79 (fun w' h => h.rowAt 0 2) fun W2 hm2 => ?_
  refine ⟨_, rfl, (⟨a, c, (chF g.cost vs (vals xs)).1⟩, (chF g.cost vs (vals xs)).2), rfl, ⟨?_, ?_⟩, ?_⟩
  ·have off : ∀ {A A' : World} {b : Nat}, b < w4.heap.size + 2 → Vc.Mod (Vc.one b) A A' → OwnT Vc.encI 1 3 (w4.heap.size + 2) A a c (chF g.cost vs (vals xs)).1 → OwnT Vc.encI 1 3 (w4.heap.size + 2) A' a c (chF g.cost vs (vals xs)).1 := fun hb m h => h.mod m fun k hk h2 => by
    have := h.ge k hk
    unfold Vc.one at h2
    omega
   exact (off (by omega) hm2 (off (by dsimp only; omega) m8 hp.own)).weaken (by omega)
  ·dsimp only
   rw [hS]
  ·exact ((Mod.ownA (Mod.refl Vc.nob w) hp.m fun k hk => hk).own m8 n4).own hm2 hz4
end Go.Proofs.YtlnbkoojelhjdaaGreatDoor

/- Repair: the parts' cheapest repairs. -/
namespace Go.Proofs.YtlnbkoojelhjdaaGreatDoor
open Go.Vc
set_option maxRecDepth 100000
set_option maxHeartbeats 16000000
structure ChI where
 s : SlI
 k : Int
instance : Inhabited ChI := ⟨⟨⟨none, 0, []⟩, 0⟩⟩
def encCh (y : ChI) : List Value := [.slice y.s.a y.s.l.length y.s.c, .int .i64 y.k]
def chV (y : ChI) : List Int × Int := (y.s.l, y.k)
structure ChL (B : Nat) (w : World) (a : Option Addr) (c : Nat) (L : List ChI) : Prop where
 own : OwnT encCh 2 79 B w a c L
 each : ∀ y ∈ L, OwnT Vc.encI 1 3 B w y.s.a y.s.c y.s.l
theorem ChL.nil (B : Nat) (w : World) : ChL B w none 0 [] := ⟨OwnT.nil _ _ _ _ _, fun _ h => nomatch h⟩
theorem ChL.ext {B : Nat} {w w' : World} {a : Option Addr} {c : Nat} {L : List ChI} (h : ChL B w a c L) (e : Ext w w') : ChL B w' a c L := ⟨h.own.ext e, fun y hy => (h.each y hy).ext e⟩
theorem ChL.weaken {B B' : Nat} {w : World} {a : Option Addr} {c : Nat} {L : List ChI} (h : ChL B w a c L) (hB : B' ≤ B) : ChL B' w a c L := ⟨h.own.weaken hB, fun y hy => (h.each y hy).weaken hB⟩
def prtsC (g : Gr) (k : Nat) : List (List Int × Int) := ((compsG g).take k).map fun c => chF (partG g c).cost c (repsG (partG g c))
theorem prtsC_succ {g : Gr} {k : Nat} (h : k < (compsG g).length) : prtsC g (k + 1) = prtsC g k ++ [chF (partG g ((compsG g).getD k default)).cost ((compsG g).getD k default) (repsG (partG g ((compsG g).getD k default)))] := by
 unfold prtsC
 rw [List.take_succ_eq_append_getElem h, List.map_append, gget h]
 rfl
def partsC (g : Gr) : List (List Int × Int) × Int := if partsE g = 0 then ((compsG g).map fun c => chF (partG g c).cost c (repsG (partG g c)), 0) else ([], partsE g)
theorem big2_spec (a : Option Addr) (c : Nat) (l : List Int) (w : World) (hl : l.length ≤ 4000) : RetsP Tryz.prog 82 #[.slice a l.length c] w (.bool (decide (40 < l.length))) := by
 refine enter (args := [_]) Tryz.func82 rfl Tryz.ntmps82 (by kernel_rfl) rfl ?_
 refine V.seq (V.region (VL.op (R.asB rfl) (VL.nil (V.seq (V.region (VL.op (R.mvS rfl) (VL.op (R.lenS Tryz.runUnderlying22 rfl) (VL.op (R.gtr rfl rfl) (VL.op (R.asB rfl) (VL.nil (V.ret (fret1 (v := .bool _) rfl rfl rfl (⟨?_, (Mod.refl _ _)⟩)))))))))))))
 congr 1
 rw [decide_eq_decide]
 omega
theorem partsC_spec (g : GrW) (B : Nat) (w : World) (hG : GOk w g) (hl : GLen g) (hB : B ≤ w.heap.size) (hT : TabW B w) :
  RetsX Tryz.prog 57 #[.agg (encGr g).toArray, .func (.func 58) #[] #[]] w (fun x : Option Addr × Nat × List ChI × Int => .tuple #[.slice x.1 x.2.2.1.length x.2.1, .int .i64 x.2.2.2])
   (fun x w' => ChL w.heap.size w' x.1 x.2.1 x.2.2.1 ∧ (x.2.2.1.map chV, x.2.2.2) = partsC (grV g)) := by
 refine enter (args := [_, _]) Tryz.func57 rfl Tryz.ntmps57 (by kernel_rfl) rfl ?_
 refine V.seq (V.region (VL.box (v := .agg _) rfl fun b0_0 w0_0 hb0_0 e0_0 hB0_0 => VL.op (R.asS rfl) (VL.op (R.asI rfl) (VL.nil (V.seq (V.seq (V.region (VL.op (R.ldA Tryz.isAgg25 Tryz.sizeOf25 rfl rfl ((show RowAt _ _ _ (encGr g) from (hB0_0.rowAt 0 3))) rfl) (VL.callP Tryz.call28 rfl (valid_spec g B _ (hG.ext e0_0) hl (Nat.le_trans hB (e0_0).size) (hT.ext hB e0_0)) fun w1_1 e1_1 => VL.op (R.not rfl) (VL.nil (V.cond rfl (fun c14 => V.seq (V.region (VL.op (R.asS rfl) (VL.op (R.asI rfl) (VL.nil (V.ret (fret2 (v := .slice _ _ _) (x := .int _ _) rfl rfl rfl rfl rfl (?_)))))))) (fun c14 => V.skip (V.seq (?_))))))))))))))
 ·refine ⟨(none, 0, [], 1), rfl, ⟨ChL.nil _ _, ?_⟩, e0_0.trans e1_1⟩
  have hv : validG (grV g) = false := by simpa using c14
  unfold partsC partsE
  rw [hv]
  rfl
 ·have hv : validG (grV g) = true := by simpa using c14
  have hn := costB_iff.1 (validG_iff.1 hv).1
  have E1 : Ext w w1_1 := e0_0.trans e1_1
  have hX1 := hB0_0.ext e1_1
  refine V.region (VL.op (R.ldA Tryz.isAgg25 Tryz.sizeOf25 rfl rfl ((show RowAt _ _ _ (encGr g) from hX1.rowAt 0 3)) rfl) (VL.callX Tryz.call31 rfl (comps_spec g B _ (hG.ext E1) hl (Nat.le_trans hB E1.size) (hT.ext hB E1)) fun z w3 ⟨hz, hL⟩ e3 => VL.op (R.asS rfl) (VL.nil (V.seq (V.seq (?_))))))
  have hcl : ∀ x ∈ z.1, x.l.length ≤ 4000 := fun x hx => by
   have h1 : x.l ∈ compsG (grV g) := by rw [← hz]; exact List.mem_map_of_mem hx
   have := comp_len hv h1
   have h0 : (grV g).n ≤ 4000 := hn.2.1
   omega
  have hzl : z.1.length ≤ 4000 := by
   have h1 : (compsG (grV g)).length ≤ (grV g).n.toNat := comps_len hv
   have h0 : (grV g).n ≤ 4000 := hn.2.1
   rw [← hz, List.length_map] at h1
   omega
  have hany := containsL_spec 82 [] [] (fun c => decide (40 < c.length)) (fun _ => True) z.2.1 z.2.2 z.1 w3 Tryz.call82 (fun w' x _ hx _ => big2_spec x.a x.c x.l w' (hcl x hx)) (fun _ _ h _ => h) trivial hL (by omega)
  have hanyE : (z.1.any fun x => decide (40 < x.l.length)) = (compsG (grV g)).any fun c => decide (40 < c.length) := by rw [← hz, List.any_map]; rfl
  rw [hanyE] at hany
  refine V.region (VL.op (R.mvS rfl) (VL.callP Tryz.call79 rfl (hany) fun w4_1 e4_1 => VL.nil (V.cond rfl (fun c18 => V.seq (V.region (VL.op (R.asS rfl) (VL.op (R.asI rfl) (VL.nil (V.ret (fret2 (v := .slice _ _ _) (x := .int _ _) rfl rfl rfl rfl rfl (?_)))))))) (fun c18 => V.skip (V.seq (?_))))))
  ·refine ⟨(none, 0, [], 17), rfl, ⟨ChL.nil _ _, ?_⟩, (E1.trans e3).trans e4_1⟩
   have hb : (compsG (grV g)).any (fun c => decide (40 < c.length)) = true := by assumption
   unfold partsC partsE
   rw [if_pos hv, if_pos hb]
   rfl
  ·have hb : (compsG (grV g)).any (fun c => decide (40 < c.length)) = false := by assumption
   have hE0 : partsE (grV g) = 0 := by
    unfold partsE
    rw [if_pos hv, if_neg (by rw [hb]; decide)]
   have E4 : Ext w w4_1 := (E1.trans e3).trans e4_1
   have hX4 := (hX1.ext e3).ext e4_1
   have hL4 := hL.ext e4_1
   refine V.region (VL.op (R.asS rfl) (VL.nil (V.seq (V.seq (V.region (VL.op (R.mvS rfl) (VL.op (R.lenS Tryz.runUnderlying23 rfl) (VL.op (R.mvI rfl) (VL.nil (V.block (?_)))))))))))
   refine V.loop [1, 2, 7, 19, 20, 21] (fun x : Nat × Option Addr × Nat × List ChI => [.func (.func 58) #[] #[], .pointer (some ⟨b0_0, 0, none⟩), .slice x.2.1 x.2.2.2.length x.2.2.1, .slice z.2.1 z.1.length z.2.2, .int .i64 (z.1.length : Nat), .int .i64 (x.1 : Nat)])
    (fun x w' => x.1 ≤ z.1.length ∧ ChL w4_1.heap.size w' x.2.1 x.2.2.1 x.2.2.2 ∧ x.2.2.2.map chV = prtsC (grV g) x.1 ∧ Ext w4_1 w') (fun x => z.1.length - x.1) (0, none, 0, []) rfl ⟨Nat.zero_le _, ChL.nil _ _, rfl, Vc.Mod.refl _ _⟩ ?_
   rintro ρ ⟨k, a7, c7, L7⟩ w5 ⟨hk, ho, hL7, e5⟩
   dsimp only at hk ho hL7 e5 ⊢
   have hX5 := hX4.ext e5
   have hL5 := hL4.ext e5
   have E5 := E4.trans e5
   have hzc : z.1.length = (compsG (grV g)).length := by rw [← hz, List.length_map]
   have hln : L7.length = k := by have := congrArg List.length hL7; unfold prtsC at this; rw [List.length_map, List.length_map, List.length_take] at this; omega
   refine V.seq (V.region (VL.op (R.lss rfl rfl) (VL.nil (V.seq (V.condP rfl (fun c22 => V.skip (V.seq (V.block (V.seq (?_))))) (fun c22 => V.exit (V.seq (?_))))))))
   ·have hkl : k < z.1.length := by omega
    have hck : (compsG (grV g)).getD k default = (z.1.getD k default).l := by rw [← hz]; exact vals_at hkl
    have hcm : (z.1.getD k default).l ∈ compsG (grV g) := by rw [← hck]; exact gmem (by omega)
    have hc40 : (z.1.getD k default).l.length ≤ 40 := by
     have := List.any_eq_false.1 hb _ hcm
     simpa using this
    have hset := comps_set hv hcm
    have hpv := part_valid hv hset
    refine V.region (VL.op (R.ixS Tryz.runUnderlying23 Tryz.sizeOf22 rfl rfl (by omega) (by omega) (hL5.sl.some (i := k) hkl)) (VL.op (R.ld1 Tryz.isAgg22 rfl (((hL5.sl.row (i := k) hkl).cell (i := 0) rfl))) (VL.op (R.asS rfl) (VL.nil (V.seq (V.region (VL.op (R.ldA Tryz.isAgg25 Tryz.sizeOf25 rfl rfl ((show RowAt _ _ _ (encGr g) from hX5.rowAt 0 3)) rfl) (VL.op (R.mvS rfl) (VL.callX Tryz.call32 rfl (part_spec g (z.1.getD k default).a (z.1.getD k default).c (z.1.getD k default).l B w5 (hG.ext E5) hl (hL5.at hkl) (by omega) (Nat.le_trans hB E5.size) (hT.ext hB E5)) fun y w10 h10 e10 => VL.op (R.mvT rfl) (VL.op (R.extr rfl rfl) (VL.op (R.extr rfl rfl) (VL.allocSt (v := .agg (encGr y.1).toArray) Tryz.zeroValue25 Tryz.sizeOf25 rfl rfl rfl rfl rfl fun b10_6 w10_6 hb10_6 e10_6 hB10_6 => VL.op (R.asI rfl) (VL.nil (?_))))))))))))))
    obtain ⟨hy, hN, _⟩ := h10
    have hpf : partF (grV g) (z.1.getD k default).l = (partG (grV g) (z.1.getD k default).l, 0) := by
     unfold partF; rw [if_pos ⟨hv, hset⟩]
    rw [hpf] at hy
    have hgv : grV y.1 = partG (grV g) (z.1.getD k default).l := congrArg Prod.fst hy
    have hvy : validG (grV y.1) = true := by rw [hgv]; exact hpv
    have hny : y.1.n ≤ 40 := by
     have h1 : (grV y.1).n = ((z.1.getD k default).l.length : Int) := by rw [hgv]; rfl
     have h2 : (grV y.1).n = y.1.n := rfl
     omega
    have hcs : y.1.cost = (partG (grV g) (z.1.getD k default).l).cost := by rw [← hgv]; rfl
    have hcv : ((z.1.getD k default).l.length : Int) = y.1.n := by
     have h1 : (grV y.1).n = ((z.1.getD k default).l.length : Int) := by rw [hgv]; rfl
     exact h1.symm
    have hnx : prtsC (grV g) (k + 1) = prtsC (grV g) k ++ [chF y.1.cost (z.1.getD k default).l (repsG (grV y.1))] := by rw [prtsC_succ (by omega), hck, hgv, hcs]
    have e56 := e10.trans e10_6
    have hdo2 := fun w' (e : Ext w10 w') => cheap1_spec y.1 (z.1.getD k default).a (z.1.getD k default).c (z.1.getD k default).l w' (hN.ok.ext e) (newGlen hN hvy) hvy hny ((hL5.at hkl).ext (e10.trans e)) hcv
    refine V.region (VL.op (R.mvS rfl) (VL.op (R.mvF rfl) (VL.op (R.ldA Tryz.isAgg25 Tryz.sizeOf25 rfl rfl ((show RowAt _ _ _ (encGr y.1) from hB10_6.rowAt 0 3)) rfl) (VL.op (R.mvS rfl) (VL.callCY rfl (Tryz.call58) rfl (hdo2 _ e10_6) fun v11 w11 h11 => VL.append1 el75 Tryz.runUnderlying75 Tryz.sizeOf79 Tryz.zeroValue79 rfl ((⟨v11.1, v11.2⟩ : ChI)) rfl rfl rfl (ho.own.ext (e56.trans h11.2)) rfl rfl rfl (by omega) (by unfold maxLen; omega) (e5.trans (e56.trans h11.2)).size fun a8 c8 w8 vt8 ho8 m8 hf8 => VL.op (R.asS rfl) (VL.nil (V.region (VL.op (R.add rfl rfl (by omega) (by omega)) (VL.op (R.mvI rfl) (VL.nil (?_)))))))))))
    obtain ⟨⟨hs11, hv11⟩, e11⟩ := h11
    have eA := e56.trans e11
    have eB := e5.trans eA
    have hoA := ho.own.ext eA
    have ap : ∀ y : SlI, OwnT Vc.encI 1 3 w4_1.heap.size w11 y.a y.c y.l → ∀ q, aBlk y.a q → ¬ aBlk a7 q := fun y hy q hq ⟨ad, ha, hk2⟩ => by
     obtain ⟨c', z', hb'⟩ := (OwnT.tyA hoA) ad ha
     exact (OwnT.tyA hy).apart hb' (by decide) (hk2 ▸ hq)
    refine ⟨(k + 1, a8, c8, L7 ++ [(⟨v11.1, v11.2⟩ : ChI)]), ?_, ⟨by dsimp only; omega, ⟨ho8, fun y hy => ?_⟩, ?_, eB.ownA m8 fun q hq => ho.own.ge q hq⟩, by dsimp only; omega⟩
    ·dsimp only
     rw [List.length_append]
     rfl
    ·dsimp only at hy
     rcases List.mem_append.1 hy with hy | hy
     ·have h1 := (ho.each y hy).ext eA
      exact h1.mod m8 (ap y.s h1)
     ·rw [List.mem_singleton] at hy
      subst hy
      have h1 := hs11.weaken (e5.trans e56).size
      exact h1.mod m8 (ap v11.1 h1)
    ·dsimp only
     rw [hnx, List.map_append, hL7, ← hv11]
     rfl
   ·have hke : k = z.1.length := by omega
    subst hke
    refine V.region (VL.op (R.mvS rfl) (VL.op (R.asS rfl) (VL.op (R.asI rfl) (VL.nil (V.ret (fret2 (v := .slice _ _ _) (x := .int _ _) rfl rfl rfl rfl rfl (?_)))))))
    refine ⟨(a7, c7, L7, 0), rfl, ⟨ho.weaken E4.size, ?_⟩, E5⟩
    dsimp only
    unfold partsC
    rw [if_pos hE0, hL7, hzc]
    unfold prtsC
    rw [List.take_length]
end Go.Proofs.YtlnbkoojelhjdaaGreatDoor

/- Repair: Cheapest. -/
namespace Go.Proofs.YtlnbkoojelhjdaaGreatDoor
open Go.Vc
set_option maxRecDepth 100000
set_option maxHeartbeats 16000000
theorem foldl_inv {α β : Type} {P : β → Prop} {f : β → α → β} : ∀ (l : List α) (b : β), P b → (∀ b r, r ∈ l → P b → P (f b r)) → P (l.foldl f b)
 | [], _, h, _ => h
 | x :: l, b, h, hs => foldl_inv l (f b x) (hs b x (by simp) h) fun b r hr hb => hs b r (by simp [hr]) hb
theorem chF_bnd {cost vs : List Int} {L : List (List Int)} (hc : ∀ x ∈ cost, 0 ≤ x ∧ x ≤ 1000000000) (hL : ∀ r ∈ L, r.length ≤ 40) : (chF cost vs L).1.length ≤ 40 ∧ -1 ≤ (chF cost vs L).2 ∧ (chF cost vs L).2 ≤ 40000000000 := by
 refine foldl_inv (P := fun b : List Int × Int => b.1.length ≤ 40 ∧ -1 ≤ b.2 ∧ b.2 ≤ 40000000000) L ([], -1) ⟨by decide, by decide, by decide⟩ fun b r hr hb => ?_
 unfold stepC
 split
 ·have h1 := selC_bnd (r := r) hc r.length
  have h2 := hL r hr
  have h3 : selC cost r r.length = costR cost r := by unfold selC costR; rw [List.take_length]
  rw [h3] at h1
  refine ⟨by rw [List.length_map]; exact h2, ?_, ?_⟩
  ·dsimp only; omega
  ·dsimp only; omega
 ·exact hb
def catK (L : List ChI) (k : Nat) : List Int := ((L.take k).map fun y => y.s.l).flatten
def sumK (L : List ChI) (k : Nat) : Int := sm ((L.take k).map fun y => y.k)
theorem catK_succ {L : List ChI} {k : Nat} (h : k < L.length) : catK L (k + 1) = catK L k ++ (L.getD k default).s.l := by
 unfold catK
 rw [List.take_succ_eq_append_getElem h, List.map_append, List.flatten_append, gget h]
 simp
theorem sumK_succ {L : List ChI} {k : Nat} (h : k < L.length) : sumK L (k + 1) = sumK L k + (L.getD k default).k := by
 unfold sumK
 rw [List.take_succ_eq_append_getElem h, List.map_append, gget h]
 exact sm_snoc _ _
theorem catK_len {L : List ChI} (h : ∀ y ∈ L, y.s.l.length ≤ 40) : ∀ k, k ≤ L.length → (catK L k).length ≤ 40 * k := by
 intro k
 induction k with
 | zero => intro _; exact Nat.le_refl _
 | succ k ih =>
  intro hk
  rw [catK_succ (by omega), List.length_append]
  have := ih (by omega)
  have := h _ (gmem (show k < L.length by omega))
  omega
theorem sumK_bnd {L : List ChI} (h : ∀ y ∈ L, -1 ≤ y.k ∧ y.k ≤ 40000000000) : ∀ k, k ≤ L.length → -(k : Int) ≤ sumK L k ∧ sumK L k ≤ 40000000000 * (k : Int) := by
 intro k
 induction k with
 | zero => intro _; exact ⟨Int.le_refl _, Int.le_refl _⟩
 | succ k ih =>
  intro hk
  rw [sumK_succ (by omega)]
  have := ih (by omega)
  have := h _ (gmem (show k < L.length by omega))
  omega
def cheapG (g : Gr) : (List Int × Int) × Int := if partsE g = 0 then ((srtF ((partsC g).1.map fun y => y.1).flatten, sm ((partsC g).1.map fun y => y.2)), 0) else (([], 0), partsE g)
theorem cheapest_spec (g : GrW) (B : Nat) (w : World) (hG : GOk w g) (hl : GLen g) (hB : B ≤ w.heap.size) (hT : TabW B w) :
  RetsX Tryz.prog 25 #[.agg (encGr g).toArray] w (fun x : SlI × Int × Int => .tuple #[.slice x.1.a x.1.l.length x.1.c, .int .i64 x.2.1, .int .i64 x.2.2]) (fun x w' => OwnT Vc.encI 1 3 w.heap.size w' x.1.a x.1.c x.1.l ∧ ((x.1.l, x.2.1), x.2.2) = cheapG (grV g)) := by
 refine enter (args := [_]) Tryz.func25 rfl Tryz.ntmps25 (by kernel_rfl) rfl ?_
 refine V.seq (V.region (VL.box (v := .agg _) rfl fun b0_0 w0_0 hb0_0 e0_0 hB0_0 => VL.op (R.asS rfl) (VL.op (R.asI rfl) (VL.op (R.asI rfl) (VL.nil (V.seq (V.region (VL.op (R.ldA Tryz.isAgg25 Tryz.sizeOf25 rfl rfl ((show RowAt _ _ _ (encGr g) from (hB0_0.rowAt 0 3))) rfl) (VL.callX Tryz.call57 rfl (partsC_spec g B _ (hG.ext e0_0) hl (Nat.le_trans hB (e0_0).size) (hT.ext hB e0_0)) fun x1 w1 h1 e1 => VL.op (R.mvT rfl) (VL.op (R.extr rfl rfl) (VL.op (R.extr rfl rfl) (VL.op (R.asS rfl) (VL.op (R.asI rfl) (VL.nil (V.seq (V.seq (V.region (VL.op (R.mvI rfl) (VL.op (R.neq rfl rfl) (VL.nil (V.condP rfl (fun c17 => V.seq (?_)) (fun c17 => V.skip (V.seq (?_))))))))))))))))))))))))
 ·obtain ⟨_, h2⟩ := h1
  refine V.region (VL.op (R.mvI rfl) (VL.op (R.asS rfl) (VL.op (R.asI rfl) (VL.op (R.asI rfl) (VL.nil (V.ret (fret3 (v := .slice _ _ _) (x := .int _ _) (y := .int _ _) rfl rfl rfl rfl rfl rfl rfl (?_))))))))
  refine ⟨(⟨none, 0, []⟩, 0, x1.2.2.2), rfl, ⟨OwnT.nil _ _ _ _ _, ?_⟩, e0_0.trans e1⟩
  have h3 := congrArg Prod.snd h2
  unfold partsC at h3
  by_cases hz : partsE (grV g) = 0
  ·rw [if_pos hz] at h3
   exact absurd h3 c17
  ·rw [if_neg hz] at h3
   unfold cheapG
   rw [if_neg hz]
   dsimp only at h3 ⊢
   rw [h3]
 ·obtain ⟨ho, h2⟩ := h1
  obtain ⟨a, c, L, er⟩ := x1
  have c17 : er = 0 := by simpa using c17
  dsimp only at ho h2 c17 ⊢
  have hz : partsE (grV g) = 0 := by
   refine Classical.byContradiction fun hz => ?_
   unfold partsC at h2
   rw [if_neg hz] at h2
   have := congrArg Prod.snd h2
   exact hz (this.symm.trans c17)
  have hL : L.map chV = (partsC (grV g)).1 := congrArg Prod.fst h2
  have hv : validG (grV g) = true := by
   cases hh : validG (grV g) with
   | true => rfl
   | false => unfold partsE at hz; rw [hh, if_neg (by decide)] at hz; cases hz
  have hPl : (partsC (grV g)).1 = (compsG (grV g)).map fun c => chF (partG (grV g) c).cost c (repsG (partG (grV g) c)) := by unfold partsC; rw [if_pos hz]
  have hlen : L.length ≤ 4000 := by
   have h1 := comps_len hv
   have h3 := costB_iff.1 (validG_iff.1 hv).1
   have h0 : (grV g).n ≤ 4000 := h3.2.1
   have := congrArg List.length hL
   rw [hPl, List.length_map, List.length_map] at this
   omega
  have hbd : ∀ y ∈ L, y.s.l.length ≤ 40 ∧ -1 ≤ y.k ∧ y.k ≤ 40000000000 := fun y hy => by
   have h1 : chV y ∈ (partsC (grV g)).1 := by rw [← hL]; exact List.mem_map_of_mem hy
   rw [hPl] at h1
   obtain ⟨cc, hcc, he⟩ := List.mem_map.1 h1
   have hset := comps_set hv hcc
   have hpv := part_valid hv hset
   have hcb := costB_iff.1 (validG_iff.1 hpv).1
   have h40 : cc.length ≤ 40 := by
    unfold partsE at hz
    rw [if_pos hv] at hz
    have h3 : (compsG (grV g)).any (fun c => decide (40 < c.length)) = false := by
     cases hh : (compsG (grV g)).any (fun c => decide (40 < c.length)) with
     | false => rfl
     | true => rw [hh, if_pos rfl] at hz; cases hz
    have := List.any_eq_false.1 h3 _ hcc
    simpa using this
   have := chF_bnd (vs := cc) (L := repsG (partG (grV g) cc)) hcb.2.2.2 fun r hr => by
    have h5 := setB_iff.1 ((reps_mem hpv).1 hr).set
    have h6 := set_len h5.1 h5.2 hcb.1
    have h7 : (partG (grV g) cc).n = (cc.length : Int) := rfl
    omega
   rw [he] at this
   exact this
  have E1 := e0_0.trans e1
  refine V.region (VL.op (R.asS rfl) (VL.nil (V.seq (V.region (VL.op (R.asI rfl) (VL.nil (V.seq (V.seq (V.region (VL.op (R.mvS rfl) (VL.op (R.lenS Tryz.runUnderlying75 rfl) (VL.op (R.mvI rfl) (VL.nil (V.block (?_)))))))))))))))
  refine V.loop [7, 8, 19, 20, 21] (fun x : Nat × Option Addr × Nat => [.slice x.2.1 (catK L x.1).length x.2.2, .int .i64 (sumK L x.1), .slice a L.length c, .int .i64 (L.length : Nat), .int .i64 (x.1 : Nat)])
   (fun x w' => x.1 ≤ L.length ∧ OwnT Vc.encI 1 3 w1.heap.size w' x.2.1 x.2.2 (catK L x.1) ∧ Ext w1 w') (fun x => L.length - x.1) (0, none, 0) rfl ⟨Nat.zero_le _, OwnT.nil _ _ _ _ _, Vc.Mod.refl _ _⟩ ?_
  rintro ρ ⟨k, a7, c7⟩ w5 ⟨hk, ho7, e5⟩
  dsimp only at hk ho7 e5 ⊢
  have ho5 := ho.ext e5
  have hcl := catK_len (fun y hy => (hbd y hy).1) k hk
  have hsb := sumK_bnd (fun y hy => (hbd y hy).2) k hk
  refine V.seq (V.region (VL.op (R.lss rfl rfl) (VL.nil (V.seq (V.condP rfl (fun c22 => V.skip (V.seq (V.block (V.seq (?_))))) (fun c22 => V.exit (V.seq (?_))))))))
  ·have hkl : k < L.length := by omega
   have hb := hbd _ (gmem hkl)
   have hsl := ho5.each _ (gmem hkl)
   refine V.region (VL.op (R.ixS Tryz.runUnderlying75 Tryz.sizeOf79 rfl rfl (by omega) (by omega) (ho5.own.sl.some (i := k) hkl)) (VL.op (R.ldA Tryz.isAgg79 Tryz.sizeOf79 rfl rfl ((show RowAt _ _ _ (encCh (L.getD k default)) from (ho5.own.sl.row (i := k) hkl))) rfl) (VL.allocSt (v := .agg (encCh (L.getD k default)).toArray) Tryz.zeroValue79 Tryz.sizeOf79 rfl rfl rfl rfl rfl fun b8_2 w8_2 hb8_2 e8_2 hB8_2 => VL.nil (V.seq (?_)))))
   refine V.region (VL.op (R.mvS rfl) (VL.op (R.fld' (o := 0) Tryz.runUnderlying79 rfl rfl Tryz.sizeOf22 rfl rfl) (VL.op (R.ld1 Tryz.isAgg22 rfl ((hB8_2.cell 0))) (VL.appendT el22 (fun _ => rfl) rfl (rfl) ((ho7.ext e8_2)) rfl (rfl) ((hsl.sl.ext e8_2)) ((fun h => hsl.hax h)) (by omega) (by unfold maxLen; omega) (e5.trans e8_2).size rfl fun a9 c9 w9 ho9 m9 hf9 => VL.op (R.asS rfl) (VL.nil (?_))))))
   have off9 : ¬ aBlk a7 b8_2 := (OwnT.tyA (ho7.ext e8_2)).apart hB8_2 (by decide)
   have hB9 := hB8_2.mod m9 off9
   have e9 := (e5.trans e8_2).ownA m9 fun q hq => ho7.ge q hq
   refine V.region (VL.op (R.mvI rfl) (VL.op (R.fld' (o := 1) Tryz.runUnderlying79 rfl rfl Tryz.sizeOf3 rfl rfl) (VL.op (R.ld1 Tryz.isAgg3 rfl ((hB9.cell 1))) (VL.op (R.add rfl rfl (by omega) (by omega)) (VL.op (R.asI rfl) (VL.nil (V.region (VL.op (R.add rfl rfl (by omega) (by omega)) (VL.op (R.mvI rfl) (VL.nil (?_)))))))))))
   refine ⟨(k + 1, a9, c9), ?_, ⟨by dsimp only; omega, ?_, e9⟩, by dsimp only; omega⟩
   ·dsimp only
    rw [catK_succ hkl, sumK_succ hkl, List.length_append]
    rfl
   ·dsimp only
    rw [catK_succ hkl]
    exact ho9
  ·have hke : k = L.length := by omega
   subst hke
   refine V.region (VL.op (R.mvS rfl) (VL.callK Tryz.call59 rfl (sortI_spec a7 c7 w1.heap.size (catK L L.length) _ ho7 (by omega)) fun w12 h12 => VL.nil (V.seq (V.region (VL.op (R.mvS rfl) (VL.op (R.mvI rfl) (VL.op (R.asS rfl) (VL.op (R.asI rfl) (VL.op (R.asI rfl) (VL.nil (V.ret (fret3 (v := .slice _ _ _) (x := .int _ _) (y := .int _ _) rfl rfl rfl rfl rfl rfl rfl (?_)))))))))))))
   refine ⟨(⟨a7, c7, srtF (catK L L.length)⟩, sumK L L.length, 0), ?_, ⟨h12.2.weaken E1.size, ?_⟩, (E1.trans e5).ownA h12.1 fun q hq => Nat.le_trans E1.size (ho7.ge q hq)⟩
   ·dsimp only
    rw [srtF_len]
   ·dsimp only
    unfold cheapG
    rw [if_pos hz, ← hL, List.map_map, List.map_map]
    unfold catK sumK
    rw [List.take_length]
    rfl
end Go.Proofs.YtlnbkoojelhjdaaGreatDoor
