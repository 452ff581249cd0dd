/- Repair: the cheapest repair of a part. -/
import Derived.Test.YtlnbkoojelhjdaaGreatDoorXR8
import Derived.Test.YtlnbkoojelhjdaaGreatDoorXVcInR
import Derived.Test.YtlnbkoojelhjdaaGreatDoorXVcBlk
namespace Go.Proofs.YtlnbkoojelhjdaaGreatDoor
open Go.Vc
theorem leaves_cellA {n : Nat} {P : Program} {N : Nat} {ρ : Env} {w : World} {fn : Func} {D a1 t1 b1 : Nat} {cs : List Value} {cl : Array Value} {RR : Ending → World → Prop} (hres : fn.results = #[.cell a1 t1]) (ha1 : Nat.blt a1 N = true) (hx1 : ρ a1 = .pointer (some ⟨b1, 0, none⟩)) (hK : w.heap[D]? = some (.deferred (some [])))
    (hB1 : Blk w b1 (.cells cl t1 (0, 0))) (hn1 : D ≠ b1) (hg1 : ∀ w, (isAgg t1).run P w = .ok true w) (hs : ∀ w, (sizeOf t1).run P w = .ok cs.length w) (hrow : ∀ w', Blk w' b1 (.cells cl t1 (0, 0)) → RowAt w' b1 0 cs)
    (hR : ∀ w', Mod (Vc.one D) w w' → RR (.returned (.agg cs.toArray)) w') : LeavesInM Fence.wide n P fn (act N ρ).tmps RR [{ target := .collected D, args := #[] }] .returning w := by
  have hm : Mod (Vc.one D) w (w.putObj D (.deferred none)) := putObj_mod _
  have hB1' := hB1.mod hm (fun e => hn1 e.symm)
  have hl := loadVar_agg (P := P) (ad := ⟨b1, 0, none⟩) hg1 hs rfl (hrow _ hB1')
  refine ⟨by simp, .inl ⟨D, _, rfl, run_takeDeferred hK, .agg cs.toArray, ?_, hR _ hm⟩⟩
  have e1 := tmps_getD (ρ := ρ) ha1
  rw [hx1] at e1
  rw [Array.getD_eq_getD_getElem?] at e1
  simp only [results, hres]
  simp [e1, asAddr, hl]
theorem put2 (p q r s : Value) : putCells #[p, q] 0 [r, s] = #[r, s] := by simp [putCells]
def costR (cost r : List Int) : Int := sm (r.map fun v => cost.getD v.toNat default)
def stepC (cost vs : List Int) (b : List Int × Int) (r : List Int) : List Int × Int := if b.2 < 0 ∨ costR cost r < b.2 then (r.map fun v => vs.getD v.toNat default, costR cost r) else b
/-- The first cheapest one, told by the vertices of the whole. -/
def chF (cost vs : List Int) (L : List (List Int)) : List Int × Int := L.foldl (stepC cost vs) ([], -1)
theorem chF_snoc (cost vs : List Int) (L : List (List Int)) (r : List Int) : chF cost vs (L ++ [r]) = stepC cost vs (chF cost vs L) r := by unfold chF; rw [List.foldl_append]; rfl
def selV (vs r : List Int) (j : Nat) : List Int := (r.take j).map fun v => vs.getD v.toNat default
def selC (cost r : List Int) (j : Nat) : Int := sm ((r.take j).map fun v => cost.getD v.toNat default)
theorem selV_succ {vs r : List Int} {j : Nat} (h : j < r.length) : selV vs r (j + 1) = selV vs r j ++ [vs.getD (r.getD j default).toNat default] := by
  unfold selV
  rw [List.take_succ_eq_append_getElem h, List.map_append, gget h]; rfl
theorem selC_succ {cost r : List Int} {j : Nat} (h : j < r.length) : selC cost r (j + 1) = selC cost r j + cost.getD (r.getD j default).toNat default := by
  unfold selC
  rw [List.take_succ_eq_append_getElem h, List.map_append, gget h]
  exact sm_snoc _ _
theorem selC_bnd {cost r : List Int} (hc : ∀ x ∈ cost, 0 ≤ x ∧ x ≤ 1000000000) : ∀ j, 0 ≤ selC cost r j ∧ selC cost r j ≤ 1000000000 * (j : Int) := by
  intro j
  induction j with
  | zero => exact ⟨Int.le_refl _, Int.le_refl _⟩
  | succ j ih =>
    by_cases h : j < r.length
    · rw [selC_succ h]
      have : 0 ≤ cost.getD (r.getD j default).toNat default ∧ cost.getD (r.getD j default).toNat default ≤ 1000000000 := by
        by_cases h2 : (r.getD j default).toNat < cost.length
        · exact hc _ (gmem h2)
        · rw [show cost.getD (r.getD j default).toNat default = 0 by rw [List.getD, List.getElem?_eq_none (Nat.le_of_not_lt h2)]; rfl]
          decide
      omega
    · have : selC cost r (j + 1) = selC cost r j := by
        unfold selC
        rw [List.take_of_length_le (by omega), List.take_of_length_le (by omega)]
      rw [this]
      omega
/-- Between two rounds. -/
structure ChP (g : GrW) (va : Option Addr) (vc : Nat) (vs : List Int) (w w4 : World) (b2 b3 b4 b5 : Nat) (T : Nat → Prop) (pre : List SlI) (W : World) (a : Option Addr) (c : Nat) : Prop where
  b5 : Blk W b5 (.cells #[.slice a (chF g.cost vs (vals pre)).1.length c, .int .i64 (chF g.cost vs (vals pre)).2] 79 (0, 0))
  own : OwnT Vc.encI 1 3 (w4.heap.size + 2) W a c (chF g.cost vs (vals pre)).1
  nT : ∀ k, aBlk a k → ¬ T k
  tS : ∀ k, T k → k < W.heap.size
  b2 : Blk W b2 (.cells (Value.agg (encGr g).toArray).cells 25 (0, 0))
  b3 : Blk W b3 (.cells #[.slice va vs.length vc] 22 (0, 0))
  b4 : Blk W b4 (.cells #[.slice none 0 0, .int .i64 0] 79 (0, 0))
  m : Mod (From w.heap.size) w W
set_option maxRecDepth 100000 in
set_option maxHeartbeats 8000000 in
theorem cheap1_spec (g : GrW) (va : Option Addr) (vc : Nat) (vs : List Int) (w : World) (hG : GOk w g) (hl : GLen g) (hv : validG (grV g) = true) (_hn : g.n ≤ 40) (hV : IntSl w va vs) (hvl : (vs.length : Int) = g.n) :
    RetsX Tryz.prog 58 #[.agg (encGr g).toArray, .slice va vs.length vc] w (fun x : SlI × Int => .agg #[.slice x.1.a x.1.l.length x.1.c, .int .i64 x.2]) (fun x w' => OwnT Vc.encI 1 3 w.heap.size w' x.1.a x.1.c x.1.l ∧ (x.1.l, x.2) = chF g.cost vs (repsG (grV g))) := by
  have hcb := costB_iff.1 (validG_iff.1 hv).1
  refine enterW (args := [_, _]) 2 Tryz.func58 rfl Tryz.ntmps58 rfl ?_
  refine InW.seqV (by kernel_rfl) ?_
  refine V.region (VL.box (v := .agg _) rfl fun b0_0 w0_0 hb0_0 e0_0 hB0_0 => VL.box (v := .slice _ _ _) rfl fun b0_1 w0_1 hb0_1 e0_1 hB0_1 => VL.alloc Tryz.zeroValue79 fun b0_2 w0_2 hb0_2 e0_2 hB0_2 => VL.nil (?_))
  refine InW.seqV (by kernel_rfl) ?_
  refine V.region (VL.op (R.build Tryz.zeroValue79 Tryz.runUnderlying79 pl79 rfl) (VL.allocSt (v := .agg #[.slice none 0 0, .int .i64 (-1)]) Tryz.zeroValue79 Tryz.sizeOf79 rfl rfl rfl rfl rfl fun b1_1 w1_1 hb1_1 e1_1 hB1_1 => VL.nil (?_)))
  refine InW.seqI (InW.seqV (by kernel_rfl) ?_)
  have E1 : Ext w w1_1 := ((e0_0.trans e0_1).trans e0_2).trans e1_1
  have hX1 := ((hB0_0.ext e0_1).ext e0_2).ext e1_1
  refine V.region (VL.op (R.ldA Tryz.isAgg25 Tryz.sizeOf25 rfl rfl ((show RowAt _ _ _ (encGr g) from hX1.rowAt 0 3)) rfl) (VL.callX Tryz.call45 rfl (all_spec28 g w1_1) fun gb w4 ⟨hgb, hGb⟩ e4 => VL.nil (?_)))
  refine InW.gen fun ρ4 hρ => InW.block ⟨?_⟩
  have s2 : ρ4 2 = .pointer (some ⟨b0_0, 0, none⟩) := by rw [hρ]; rfl
  have s3 : ρ4 3 = .pointer (some ⟨b0_1, 0, none⟩) := by rw [hρ]; rfl
  have s4 : ρ4 4 = .pointer (some ⟨b0_2, 0, none⟩) := by rw [hρ]; rfl
  have s5 : ρ4 5 = .pointer (some ⟨b1_1, 0, none⟩) := by rw [hρ]; rfl
  have s12 : ρ4 12 = .func (.func 71) #[] #[.pointer (some ⟨gb, 0, none⟩)] := by rw [hρ]; rfl
  clear hρ
  have e40 : Ext w w4 := E1.trans e4
  have h24 := hX1.ext e4
  have h34 := (((hB0_1.ext e0_2).ext e1_1).ext e4)
  have h44 := ((hB0_2.ext e1_1).ext e4)
  have h54 := hB1_1.ext e4
  have l2 := hB0_0.lt; have l3 := hB0_1.lt; have l4 := hB0_2.lt; have l5 := hB1_1.lt
  have lgb := hGb.lt
  have z0 := e0_0.size; have z1 := e0_1.size; have z2 := e0_2.size
  have ng : w.heap.size ≤ gb := Nat.le_trans E1.size hgb
  have n5 : w.heap.size ≤ b1_1 := by omega
  have n4 : w.heap.size ≤ b0_2 := by omega
  have o2 : b0_0 < gb := by omega
  have o3 : b0_1 < gb := by omega
  have o4 : b0_2 < gb := by omega
  have o5 : b1_1 < gb := by omega
  have hseq := all_seq 1 gb w.heap.size g w w4 hG rfl hl hv e40.mod ng hGb
  have offT : ∀ {T : Nat → Prop} {k : Nat}, OkT (fun k => k = gb) (w4.heap.size + 2) T → k < gb → ¬ T k := fun hT hk h => by
    rcases hT _ h with h | h <;> omega
  have hz4 := e40.size
  have offM : ∀ {T : Nat → Prop} {b : Nat}, OkT (fun k => k = gb) (w4.heap.size + 2) T → b < gb → ¬ (T b ∨ b = w4.heap.size ∨ b = w4.heap.size + 1) := fun hT hb h => by
    rcases h with h | h | h
    · exact offT hT hb h
    · omega
    · omega
  refine rangeT (m := 1) (gf := 71) (lb := #[.pointer (some ⟨gb, 0, none⟩)]) ((eval_act rfl).trans s12) Tryz.call71 (ne := w.heap.size) (Lb := fun k => k = gb) e40.size (fun k hk => by subst hk; exact hGb.lt) hseq (fun _ => rfl)
    (fun T pre W => ∃ a c, ChP g va vc vs w w4 b0_0 b0_1 b0_2 b1_1 T pre W a c) (fun _ _ _ => False) ?hp (fun _ _ _ _ _ h _ => h) ?hGm ?h0
    (fun x => act 52 (upd (upd ρ4 13 (.slice x.a x.l.length x.c)) 6 (.slice x.a x.l.length x.c))) ?hassign ?hbody ?hdone (fun _ _ _ _ _ h _ => h.elim)
  case hp =>
    rintro T pre A A' hT ⟨a, c, h⟩ hm
    refine ⟨a, c, h.b5.mod hm (offM hT o5), h.own.mod hm fun k hk hk2 => ?_, h.nT, fun k hk => Nat.lt_of_lt_of_le (h.tS k hk) hm.size, h.b2.mod hm (offM hT o2), h.b3.mod hm (offM hT o3), h.b4.mod hm (offM hT o4), h.m.then hm fun k _ hk => ?_⟩
    · have := h.own.ge k hk
      rcases hk2 with h1 | h1 | h1
      · exact h.nT k hk h1
      · omega
      · omega
    · show _ ≤ _
      rcases hk with h1 | h1 | h1
      · rcases hT _ h1 with h2 | h2
        · rw [h2]; exact ng
        · omega
      · omega
      · omega
  case hGm =>
    rintro T x A A' hT ⟨g1, g2⟩ hm
    exact ⟨g1.mod hm fun k hk h => by have := g1.ge k hk; omega, g2⟩
  case h0 =>
    intro T W hT hb hW
    exact ⟨none, 0, h54.ext hW, OwnT.nil _ _ _ _ _, fun k hk => (by obtain ⟨ad, h, _⟩ := hk; cases h), hb, h24.ext hW, h34.ext hW, h44.ext hW, Ext.mod (e40.trans hW)⟩
  case hassign =>
    intro lp x W K hK
    exact assign1 (N := 52) (ρ := ρ4) rfl rfl hK
  case hbody =>
    rintro lp T pre x W hT ⟨a, c, hp⟩ ⟨g1, g2⟩ ⟨t, ht⟩ hWs
    have hxm : x.l ∈ repsG (grV g) := by rw [ht]; simp [vals]
    have hxr : ∀ y ∈ x.l, 0 ≤ y ∧ y < g.n := fun y hy => (setB_iff.1 ((reps_mem hv).1 hxm).set).2 y hy
    have hxl : x.l.length ≤ 4000 := by
      have h1 := set_len (setB_iff.1 ((reps_mem hv).1 hxm).set).1 (setB_iff.1 ((reps_mem hv).1 hxm).set).2 hcb.1
      have h0 : (grV g).n ≤ 4000 := hcb.2.1
      omega
    have okb : ∀ b, w.heap.size ≤ b → b < gb → ∀ k, Vc.one b k → (w.heap.size ≤ k ∧ ¬ T k ∧ k ≠ w4.heap.size ∧ k ≠ w4.heap.size + 1) := fun b h1 h2 k hk => by
      unfold Vc.one at hk
      subst hk
      exact ⟨h1, offT hT h2, by omega, by omega⟩
    refine VI.use (Q := fun e _ W' => match e with
      | .normal => (∃ a c, ChP g va vc vs w w4 b0_0 b0_1 b0_2 b1_1 T (pre ++ [x]) W' a c) ∧ Mod (fun k => w.heap.size ≤ k ∧ ¬ T k ∧ k ≠ w4.heap.size ∧ k ≠ w4.heap.size + 1) W W'
      | .ret => False
      | _ => False) (by kernel_rfl) ?_ (fun e _ _ h => by cases e <;> first | exact h | exact h.elim)
    obtain ⟨ρ5, h5⟩ : ∃ ρ5, ρ4 = upd (upd (upd ρ5 2 (.pointer (some ⟨b0_0, 0, none⟩))) 3 (.pointer (some ⟨b0_1, 0, none⟩))) 5 (.pointer (some ⟨b1_1, 0, none⟩)) := ⟨ρ4, by rw [upd_eq s2, upd_eq s3, upd_eq s5]⟩
    rw [h5]
    refine VI.block (VI.seq ?_)
    refine VI.region (fun _ _ h => h) rfl (VL.op (R.build Tryz.zeroValue79 Tryz.runUnderlying79 pl79 rfl) (VL.allocSt (v := .agg #[.slice none 0 0, .int .i64 0]) Tryz.zeroValue79 Tryz.sizeOf79 rfl rfl rfl rfl rfl fun b4_1 w4_1 hb4_1 e4_1 hB4_1 => VL.nil (VI.cut [2, 3, 5, 7] (fun y : Option Addr × Nat => [.pointer (some ⟨b0_0, 0, none⟩), .pointer (some ⟨b0_1, 0, none⟩), .pointer (some ⟨b1_1, 0, none⟩), .pointer (some ⟨b4_1, 0, none⟩)]) (fun y w' => Blk w' b4_1 (.cells #[.slice y.1 (x.l.map fun v => vs.getD v.toNat default).length y.2, .int .i64 (costR g.cost x.l)] 79 (0, 0)) ∧ OwnT Vc.encI 1 3 W.heap.size w' y.1 y.2 (x.l.map fun v => vs.getD v.toNat default) ∧ Ext W w') (VI.seq (?_)) (fun rgB2 xB2 wBB2 hBB2 => VI.seq (?_)))))
    · have hcb2 : ∀ y ∈ g.cost, 0 ≤ y ∧ y ≤ 1000000000 := hcb.2.2.2
      have hcl : (g.cost.length : Int) = g.n := hcb.2.2.1
      have hVW : IntSl W va vs := hV.from hp.m
      have hCW : IntSl W g.ca g.cost := hG.c.from hp.m
      refine VI.region (fun _ _ h => h) rfl (VL.op (R.mvS rfl) (VL.op (R.lenS Tryz.runUnderlying22 rfl) (VL.op (R.mvI rfl) (VL.nil (VI.block (?_))))))
      refine VI.loop [2, 3, 5, 7, 15, 16, 17] (fun y : Nat × Option Addr × Nat => [.pointer (some ⟨b0_0, 0, none⟩), .pointer (some ⟨b0_1, 0, none⟩), .pointer (some ⟨b1_1, 0, none⟩), .pointer (some ⟨b4_1, 0, none⟩), .slice x.a x.l.length x.c, .int .i64 (x.l.length : Nat), .int .i64 (y.1 : Nat)])
        (fun y w' => y.1 ≤ x.l.length ∧ Blk w' b4_1 (.cells #[.slice y.2.1 (selV vs x.l y.1).length y.2.2, .int .i64 (selC g.cost x.l y.1)] 79 (0, 0)) ∧ OwnT Vc.encI 1 3 W.heap.size w' y.2.1 y.2.2 (selV vs x.l y.1) ∧ Ext W w') (fun y => x.l.length - y.1) (0, none, 0) rfl ⟨Nat.zero_le _, hB4_1, OwnT.nil _ _ _ _ _, e4_1⟩ ?_
      rintro ρ ⟨j, a7, c7⟩ w6 ⟨hj, hb7, ho7, e6⟩
      dsimp only at hj hb7 ho7 e6 ⊢
      refine VI.seq (VI.region (fun _ _ h => h) rfl (VL.op (R.lss rfl rfl) (VL.nil (VI.seq (VI.condP rfl (fun c18 => VI.skip (VI.seq (VI.block (VI.seq (?_))))) (fun c18 => VI.exit (?_)))))))
      · have hjl : j < x.l.length := by omega
        have hxs : IntSl w6 x.a x.l := (g1.ext e6).sl
        have hr := hxr _ (gmem hjl)
        obtain ⟨v, hvd⟩ : ∃ v : Nat, x.l.getD j default = (v : Int) := ⟨(x.l.getD j default).toNat, by omega⟩
        have hbd := selC_bnd (r := x.l) hcb2 j
        have hlv : (selV vs x.l j).length = j := by unfold selV; rw [List.length_map, List.length_take]; omega
        refine VI.region (fun _ _ h => h) rfl (VL.op (R.ixS Tryz.runUnderlying22 Tryz.sizeOf3 rfl rfl (by omega) (by omega) ((hxs).some (i := j) (by omega))) (VL.op (R.ld1 Tryz.isAgg3 rfl (((((hxs).ext (Mod.refl _ _)).row (i := j) (by omega)).cell (i := 0) rfl))) (VL.op (R.asI rfl) (VL.nil (VI.seq (?_))))))
        rw [hvd]
        refine VI.regionS (fun _ _ h => h) rfl mixed 7 (by kernel_rfl) rfl (fun us => VS.op (fun wq eq => R.fld' (o := 0) Tryz.runUnderlying79 rfl rfl Tryz.sizeOf22 rfl rfl) (VS.op (fun wq eq => R.ld1 Tryz.isAgg22 rfl (((hb7.ext eq).cell 0))) (VS.op (fun wq eq => R.ld1 Tryz.isAgg22 rfl ((((hp.b3.ext e6).ext eq).cell 0))) (VS.op (fun wq eq => R.mvI rfl) (VS.op (fun wq eq => R.ixS Tryz.runUnderlying22 Tryz.sizeOf3 rfl rfl (by omega) (by omega) (hVW.some (i := v) (by omega))) (VS.op (fun wq eq => R.ld1 Tryz.isAgg3 rfl (((((hVW.ext e6).ext eq).row (i := v) (by omega)).cell (i := 0) rfl))) (VS.spec (SB1 Vc.encI 1 3 w6.heap.size (vs.getD v default)) SB1.mono rfl (fun wq eq hq => yieldsR_build1 Tryz.runUnderlying22 Tryz.sizeOf3 Tryz.zeroValue3 rfl rfl rfl (vs.getD v default) rfl rfl rfl eq.size fun b w2 ho he => ⟨⟨b, rfl, ho⟩, he⟩) (VS.nil (fun w8 e8 h8 => ?_))))))))) rfl
        obtain ⟨bb, hbb, hob⟩ := h8 6
        rw [hbb]
        have hb8 := hb7.ext e8
        have ho8 := ho7.ext e8
        have off8 : ¬ aBlk a7 b4_1 := (OwnT.tyA ho8).apart hb8 (by decide)
        have hsv := selV_succ (vs := vs) hjl
        rw [hvd, Int.toNat_natCast] at hsv
        have hsc := selC_succ (cost := g.cost) hjl
        rw [hvd, Int.toNat_natCast] at hsc
        refine VL.appendT el22 (fun _ => rfl) rfl (rfl) (ho8) rfl (rfl) (hob.sl) ((fun h => by cases h)) (by simp only [List.length_cons, List.length_nil]; omega) (by unfold maxLen; simp only [List.length_cons, List.length_nil]; omega) (e6.trans e8).size rfl fun a9 c9 w9 ho9 m9 hf9 => VL.op (R.fld' (o := 0) Tryz.runUnderlying79 rfl rfl Tryz.sizeOf22 rfl rfl) (VL.store (v := .slice _ _ _) Tryz.sizeOf22 rfl rfl rfl rfl (hb8.mod m9 off8) rfl rfl fun w10 m10 hs10 hB10 => VL.nil (?_))
        have e9 : Ext W w9 := (e6.trans e8).ownA m9 fun q hq => ho7.ge q hq
        have e10 : Ext W w10 := e9.own m10 (by dsimp only; omega)
        have hb10 : Blk w10 b4_1 (.cells #[.slice a9 ((selV vs x.l j).length + 1) c9, .int .i64 (selC g.cost x.l j)] 79 (0, 0)) := hB10
        have hcv : 0 ≤ g.cost.getD v default ∧ g.cost.getD v default ≤ 1000000000 := hcb2 _ (gmem (by omega))
        have hb9 := hb8.mod m9 off8
        have off9 : ¬ aBlk a9 b4_1 := (OwnT.tyA ho9).apart hb9 (by decide)
        have ho10 := ho9.mod m10 fun k hk h => by
          unfold Vc.one at h; dsimp only at h
          subst h
          exact off9 hk
        refine VI.regionQ (fun _ _ h => h) rfl mixed 7 (by kernel_rfl) rfl (fun w' => Ext _ w') (Ext.drawn _) (VQ.op (fun wq eq => R.fld' (o := 1) Tryz.runUnderlying79 rfl rfl Tryz.sizeOf3 rfl rfl) (VQ.op (fun wq eq => R.ld1 Tryz.isAgg3 rfl (((hb10.ext eq).cell 1))) (VQ.op (fun wq eq => R.fld' (o := 1) Tryz.runUnderlying25 rfl rfl Tryz.sizeOf22 rfl rfl) (VQ.op (fun wq eq => R.ld1 Tryz.isAgg22 rfl ((show wq.cell? ⟨b0_0, 1, none⟩ = some (Value.slice g.ca g.cost.length g.cc) from ((hp.b2.ext e10).ext eq).cell 1))) (VQ.op (fun wq eq => R.mvI rfl) (VQ.op (fun wq eq => R.ixS Tryz.runUnderlying22 Tryz.sizeOf3 rfl rfl (by omega) (by omega) (hCW.some (i := v) (by omega))) (VQ.op (fun wq eq => R.ld1 Tryz.isAgg3 rfl (((((hCW.ext e10).ext eq).row (i := v) (by omega)).cell (i := 0) rfl))) (VQ.nil fun w9q e9q => VL.op (R.add rfl rfl (by omega) (by omega)) (VL.op (R.fld' (o := 1) Tryz.runUnderlying79 rfl rfl Tryz.sizeOf3 rfl rfl) (VL.store (v := .int _ _) Tryz.sizeOf3 rfl rfl rfl rfl (hb10.ext e9q) rfl rfl fun w11 m11 hs11 hB11 => VL.nil (VI.region (fun _ _ h => h) rfl (VL.op (R.add rfl rfl (by omega) (by omega)) (VL.op (R.mvI rfl) (VL.nil (?_)))))))))))))))
        have hb11 : Blk w11 b4_1 (.cells #[.slice a9 ((selV vs x.l j).length + 1) c9, .int .i64 (selC g.cost x.l j + g.cost.getD v default)] 79 (0, 0)) := hB11
        refine ⟨(j + 1, a9, c9), rfl, ⟨by dsimp only; omega, ?_, ?_, ?_⟩, by dsimp only; omega⟩
        · dsimp only
          rw [hsv, hsc, List.length_append]
          exact hb11
        · dsimp only
          rw [hsv]
          exact (ho10.ext e9q).mod m11 fun k hk h => by
            unfold Vc.one at h; dsimp only at h
            subst h
            exact off9 hk
        · exact (e10.trans e9q).own m11 (by dsimp only; omega)
      · have hje : j = x.l.length := by omega
        subst hje
        unfold selV selC at *
        rw [List.take_length] at *
        exact ⟨(a7, c7), rfl, hb7, ho7, e6⟩
    · obtain ⟨hb7, ho7, e7⟩ := hBB2
      have h5W := hp.b5.ext e7
      have hvx : vals (pre ++ [x]) = vals pre ++ [x.l] := by simp [vals]
      have htake : ((chF g.cost vs (vals pre)).2 < 0 ∨ costR g.cost x.l < (chF g.cost vs (vals pre)).2) → ∀ w12, Mod (Vc.one b1_1) wBB2 w12 → Blk w12 b1_1 (.cells #[.slice xB2.1 (x.l.map fun v => vs.getD v.toNat default).length xB2.2, .int .i64 (costR g.cost x.l)] 79 (0, 0)) →
          (∃ a c, ChP g va vc vs w w4 b0_0 b0_1 b0_2 b1_1 T (pre ++ [x]) w12 a c) ∧ Mod (fun k => w.heap.size ≤ k ∧ ¬ T k ∧ k ≠ w4.heap.size ∧ k ≠ w4.heap.size + 1) W w12 := fun hc w12 m12 hB12 => by
        have hst : chF g.cost vs (vals (pre ++ [x])) = (x.l.map fun v => vs.getD v.toNat default, costR g.cost x.l) := by
          rw [hvx, chF_snoc]
          unfold stepC
          rw [if_pos hc]
        have hz7 := e7.size
        refine ⟨⟨xB2.1, xB2.2, by rw [hst]; exact hB12, ?_, fun k hk hT2 => ?_, fun k hk => Nat.lt_of_lt_of_le (hp.tS k hk) (Nat.le_trans e7.size m12.size), (hp.b2.ext e7).mod m12 (by unfold Vc.one; omega), (hp.b3.ext e7).mod m12 (by unfold Vc.one; omega), (hp.b4.ext e7).mod m12 (by unfold Vc.one; omega), (hp.m.ext e7).then m12 fun k _ hk => (okb b1_1 n5 o5 k hk).1⟩, (Ext.mod e7).trans (m12.weaken fun k _ hk => okb b1_1 n5 o5 k hk)⟩
        · rw [hst]
          refine (ho7.mod m12 fun k hk h => ?_).weaken hWs
          have := ho7.ge k hk
          unfold Vc.one at h
          omega
        · have h1 := ho7.ge k hk
          have h2 := hp.tS k hT2
          omega
      refine VI.region (fun _ _ h => h) rfl (VL.op (R.fld' (o := 1) Tryz.runUnderlying79 rfl rfl Tryz.sizeOf3 rfl rfl) (VL.op (R.ld1 Tryz.isAgg3 rfl ((h5W.cell 1))) (VL.op (R.lss rfl rfl) (VL.op (R.mvB rfl) (VL.orP rfl rfl (fun g11_3 => VL.op (R.fld' (o := 1) Tryz.runUnderlying79 rfl rfl Tryz.sizeOf3 rfl rfl) (VL.gT rfl rfl (VL.op (R.ld1 Tryz.isAgg3 rfl ((hb7.cell 1))) (VL.gT rfl rfl (VL.op (R.fld' (o := 1) Tryz.runUnderlying79 rfl rfl Tryz.sizeOf3 rfl rfl) (VL.gT rfl rfl (VL.op (R.ld1 Tryz.isAgg3 rfl ((h5W.cell 1))) (VL.gT rfl rfl (VL.op (R.lss rfl rfl) (VL.op (R.pickFB rfl rfl) (VL.nil (VI.condP rfl (fun c49 => ?_) (fun c49 => VI.skip (?_)))))))))))))) (fun g11_3 => VL.gF rfl rfl (VL.gF rfl rfl (VL.gF rfl rfl (VL.gF rfl rfl (VL.op (R.pickTB rfl rfl) (VL.nil (VI.condT rfl (?_)))))))))))))
      · exact VI.region (fun _ _ h => h) rfl (VL.op (R.ldA Tryz.isAgg79 Tryz.sizeOf79 rfl rfl (show RowAt wBB2 b4_1 0 [.slice xB2.1 (x.l.map fun v => vs.getD v.toNat default).length xB2.2, .int .i64 (costR g.cost x.l)] from hb7.rowAt 0 2) rfl) (VL.store (v := .agg #[.slice xB2.1 (x.l.map fun v => vs.getD v.toNat default).length xB2.2, .int .i64 (costR g.cost x.l)]) Tryz.sizeOf79 rfl rfl rfl rfl h5W rfl rfl fun w12 m12 hs12 hB12 => VL.nil (htake (.inr (by assumption)) w12 m12 (put2 _ _ _ _ ▸ hB12))))
      · refine ⟨⟨a, c, ?_⟩, Ext.mod e7⟩
        have hst : chF g.cost vs (vals (pre ++ [x])) = chF g.cost vs (vals pre) := by
          rw [hvx, chF_snoc]
          unfold stepC
          rw [if_neg fun h => h.elim (by assumption) (by assumption)]
        exact ⟨by rw [hst]; exact h5W, by rw [hst]; exact hp.own.ext e7, hp.nT, fun k hk => Nat.lt_of_lt_of_le (hp.tS k hk) e7.size, hp.b2.ext e7, hp.b3.ext e7, hp.b4.ext e7, hp.m.ext e7⟩
      · exact VI.region (fun _ _ h => h) rfl (VL.op (R.ldA Tryz.isAgg79 Tryz.sizeOf79 rfl rfl (show RowAt wBB2 b4_1 0 [.slice xB2.1 (x.l.map fun v => vs.getD v.toNat default).length xB2.2, .int .i64 (costR g.cost x.l)] from hb7.rowAt 0 2) rfl) (VL.store (v := .agg #[.slice xB2.1 (x.l.map fun v => vs.getD v.toNat default).length xB2.2, .int .i64 (costR g.cost x.l)]) Tryz.sizeOf79 rfl rfl rfl rfl h5W rfl rfl fun w12 m12 hs12 hB12 => VL.nil (htake (.inl (by assumption)) w12 m12 (put2 _ _ _ _ ▸ hB12))))
  case hdone =>
    rintro T xs W hT hS ⟨a, c, hp⟩ hK
    obtain ⟨ρ5, h5⟩ : ∃ ρ5, ρ4 = upd (upd ρ5 4 (.pointer (some ⟨b0_2, 0, none⟩))) 5 (.pointer (some ⟨b1_1, 0, none⟩)) := ⟨ρ4, by rw [upd_eq s4, upd_eq s5]⟩
    rw [h5]
    refine retD (by kernel_rfl) (by kernel_rfl) ?_
    refine VL.op (R.ldA Tryz.isAgg79 Tryz.sizeOf79 rfl rfl (show RowAt W b1_1 0 [.slice a (chF g.cost vs (vals xs)).1.length c, .int .i64 (chF g.cost vs (vals xs)).2] from hp.b5.rowAt 0 2) rfl) (VL.store (v := .agg #[.slice a (chF g.cost vs (vals xs)).1.length c, .int .i64 (chF g.cost vs (vals xs)).2]) Tryz.sizeOf79 rfl rfl rfl rfl hp.b4 rfl rfl fun w8 m8 hs8 hB8 => VL.nil ⟨rfl, ?_⟩)
    have hKl := (Array.getElem?_eq_some_iff.1 hK).1
    have hK8 : w8.heap[w4.heap.size]? = some (.deferred (some [])) := (m8.blk _ hKl (by unfold Vc.one; dsimp only; omega)) ▸ hK
    refine leaves_cellA (cs := [.slice a (chF g.cost vs (vals xs)).1.length c, .int .i64 (chF g.cost vs (vals xs)).2]) rfl rfl rfl hK8 hB8 (by omega) Tryz.isAgg79 Tryz.sizeOf79 (fun w' h => h.rowAt 0 2) fun W2 hm2 => ?_
    refine ⟨_, rfl, (⟨a, c, (chF g.cost vs (vals xs)).1⟩, (chF g.cost vs (vals xs)).2), rfl, ⟨?_, ?_⟩, ?_⟩
    · have off : ∀ {A A' : World} {b : Nat}, b < w4.heap.size + 2 → Vc.Mod (Vc.one b) A A' → OwnT Vc.encI 1 3 (w4.heap.size + 2) A a c (chF g.cost vs (vals xs)).1 → OwnT Vc.encI 1 3 (w4.heap.size + 2) A' a c (chF g.cost vs (vals xs)).1 := fun hb m h => h.mod m fun k hk h2 => by
        have := h.ge k hk
        unfold Vc.one at h2
        omega
      exact (off (by omega) hm2 (off (by dsimp only; omega) m8 hp.own)).weaken (by omega)
    · dsimp only
      rw [hS]
    · exact ((Mod.ownA (Mod.refl Vc.nob w) hp.m fun k hk => hk).own m8 n4).own hm2 hz4
end Go.Proofs.YtlnbkoojelhjdaaGreatDoor
