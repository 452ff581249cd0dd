/- Repair: how many repairs a part has. -/
import Derived.Test.YtlnbkoojelhjdaaGreatDoorXR6
namespace Go.Proofs.YtlnbkoojelhjdaaGreatDoor
open Go.Vc
theorem repK_len (E : List (List Int)) (N : Nat) : ∀ (f : Nat) (P : List Int), (repK E N f P).length ≤ 2 ^ f := by
  intro f
  induction f with
  | zero => intro P; exact Nat.le_refl _
  | succ f ih =>
    intro P
    rw [repK, List.length_append, Nat.pow_succ]
    have h1 : (if blkB E P ((N - (f + 1) : Nat) : Int) = true then [] else repK E N f (P ++ [((N - (f + 1) : Nat) : Int)])).length ≤ 2 ^ f := by
      split
      · exact Nat.zero_le _
      · exact ih _
    have h2 : (if prB E P (N - (f + 1) + 1) = true then repK E N f P else []).length ≤ 2 ^ f := by
      split
      · exact ih _
      · exact Nat.zero_le _
    omega
theorem leaves_tmp {n : Nat} {P : Program} {N : Nat} {ρ : Env} {w : World} {fn : Func} {D a1 : Nat} {v1 : Value} {RR : Ending → World → Prop} (hres : fn.results = #[.tmp a1]) (ha1 : Nat.blt a1 N = true) (hx1 : ρ a1 = v1) (hK : w.heap[D]? = some (.deferred (some [])))
    (hR : ∀ w', Mod (Vc.one D) w w' → RR (.returned v1) w') : LeavesInM Fence.wide n P fn (act N ρ).tmps RR [{ target := .collected D, args := #[] }] .returning w := by
  have hm : Mod (Vc.one D) w (w.putObj D (.deferred none)) := putObj_mod _
  refine ⟨by simp, .inl ⟨D, _, rfl, run_takeDeferred hK, v1, ?_, hR _ hm⟩⟩
  have e1 := tmps_getD (ρ := ρ) ha1
  rw [hx1] at e1
  rw [Array.getD_eq_getD_getElem?] at e1
  simp only [results, hres]
  simp [e1, go_sem]
set_option maxRecDepth 100000 in
set_option maxHeartbeats 8000000 in
theorem count1_spec (g : GrW) (va : Value) (w : World) (hG : GOk w g) (hl : GLen g) (hv : validG (grV g) = true) (hn : g.n ≤ 40) :
    RetsP Tryz.prog 55 #[.agg (encGr g).toArray, va] w (.int .i64 ((repsG (grV g)).length : Nat)) := by
  refine enterW (args := [_, _]) 2 Tryz.func55 rfl Tryz.ntmps55 rfl ?_
  refine InW.seqV (by kernel_rfl) ?_
  refine V.region (VL.box (v := .agg _) rfl fun b0_0 w0_0 hb0_0 e0_0 hB0_0 => VL.op (R.asI rfl) (VL.nil (?_)))
  refine InW.seqV (by kernel_rfl) ?_
  refine V.region (VL.allocSt (v := .int _ _) Tryz.zeroValue3 Tryz.sizeOf3 rfl rfl rfl rfl rfl fun b1_0 w1_0 hb1_0 e1_0 hB1_0 => VL.nil (?_))
  refine InW.seqI (InW.seqV (by kernel_rfl) ?_)
  have e1 : Ext w w1_0 := e0_0.trans e1_0
  refine V.region (VL.op (R.ldA Tryz.isAgg25 Tryz.sizeOf25 rfl rfl ((show RowAt _ _ _ (encGr g) from (hB0_0.ext e1_0).rowAt 0 3)) rfl) (VL.callX Tryz.call45 rfl (all_spec28 g w1_0) fun gb w4 ⟨hgb, hGb⟩ e4 => VL.nil (?_)))
  refine InW.gen fun ρ4 hρ => InW.block ⟨?_⟩
  have s5 : ρ4 5 = .pointer (some ⟨b1_0, 0, none⟩) := by rw [hρ]; rfl
  have s7 : ρ4 7 = .func (.func 71) #[] #[.pointer (some ⟨gb, 0, none⟩)] := by rw [hρ]; rfl
  clear hρ
  have e40 : Ext w w4 := e1.trans e4
  have h54 := hB1_0.ext e4
  have l5 := hB1_0.lt
  have lgb := hGb.lt
  have z1 := e0_0.size
  have ng : w.heap.size ≤ gb := Nat.le_trans e1.size hgb
  have n5 : w.heap.size ≤ b1_0 := by omega
  have o5 : b1_0 < gb := by omega
  have hseq := all_seq 1 gb w.heap.size g w w4 hG rfl hl hv e40.mod ng hGb
  have offT : ∀ {T : Nat → Prop} {k : Nat}, OkT (fun k => k = gb) (w4.heap.size + 2) T → k < gb → ¬ T k := fun hT hk h => by
    rcases hT _ h with h | h <;> omega
  have hz4 := e40.size
  refine rangeT (m := 1) (gf := 71) (lb := #[.pointer (some ⟨gb, 0, none⟩)]) ((eval_act rfl).trans s7) Tryz.call71 (ne := w.heap.size) (Lb := fun k => k = gb) e40.size (fun k hk => by subst hk; exact hGb.lt) hseq (fun _ => rfl)
    (fun T pre W => Blk W b1_0 (.cells #[.int .i64 (pre.length : Nat)] 3 (0, 0)) ∧ Mod (From w.heap.size) w W) (fun _ _ _ => False) ?hp (fun _ _ _ _ _ h _ => h) ?hGm ?h0
    (fun x => act 12 (upd ρ4 8 (.slice x.a x.l.length x.c))) ?hassign ?hbody ?hdone (fun _ _ _ _ _ h _ => h.elim)
  case hp =>
    rintro T pre A A' hT ⟨h1, h2⟩ hm
    refine ⟨h1.mod hm ?_, h2.then hm fun k _ hk => ?_⟩
    · rintro (h | h | h)
      · exact offT hT o5 h
      · omega
      · omega
    · show _ ≤ _
      rcases hk with h1 | h1 | h1
      · rcases hT _ h1 with h2 | h2
        · rw [h2]; exact ng
        · omega
      · omega
      · omega
  case hGm =>
    rintro T x A A' hT ⟨g1, g2⟩ hm
    exact ⟨g1.mod hm fun k hk h => by have := g1.ge k hk; omega, g2⟩
  case h0 =>
    intro T W hT hb hW
    exact ⟨h54.ext hW, Ext.mod (e40.trans hW)⟩
  case hassign =>
    intro lp x W K hK
    rw [one_put]
    exact wpIn_skip hK
  case hbody =>
    rintro lp T pre x W hT ⟨h1, h2⟩ _ ⟨t, ht⟩ hWs
    have hlen : pre.length + 1 ≤ 1099511627776 := by
      have h3 := repK_len (grV g).edges (grV g).n.toNat (grV g).n.toNat []
      have h4 : (repsG (grV g)).length = (repK (grV g).edges (grV g).n.toNat (grV g).n.toNat []).length := rfl
      have h5 : 2 ^ (grV g).n.toNat ≤ 2 ^ 40 := Nat.pow_le_pow_right (by decide) (by show g.n.toNat ≤ 40; omega)
      rw [ht] at h4
      simp [vals] at h4
      have h6 : (2 : Nat) ^ 40 = 1099511627776 := by decide
      omega
    refine VI.use (Q := fun e _ W' => match e with
      | .normal => (Blk W' b1_0 (.cells #[.int .i64 ((pre ++ [x]).length : Nat)] 3 (0, 0)) ∧ Mod (From w.heap.size) w W') ∧ Mod (fun k => w.heap.size ≤ k ∧ ¬ T k ∧ k ≠ w4.heap.size ∧ k ≠ w4.heap.size + 1) W W'
      | .ret => False
      | _ => False) (by kernel_rfl) ?_ (fun e _ _ h => by cases e <;> first | exact h | exact h.elim)
    obtain ⟨ρ5, h5⟩ : ∃ ρ5, ρ4 = upd ρ5 5 (.pointer (some ⟨b1_0, 0, none⟩)) := ⟨ρ4, by rw [upd_eq s5]⟩
    rw [h5]
    refine VI.block ?_
    refine VI.region (fun _ _ h => h) rfl (VL.op (R.ld1 Tryz.isAgg3 rfl ((h1.cell _))) (VL.op (R.add rfl rfl (by omega) (by omega)) (VL.store (v := .int _ _) Tryz.sizeOf3 rfl rfl rfl rfl h1 rfl rfl fun w9 m9 hs9 hB9 => VL.nil (?_))))
    refine ⟨⟨?_, h2.then m9 fun k _ hk => ?_⟩, m9.weaken fun k _ hk => ?_⟩
    · rw [List.length_append]; exact hB9
    · unfold Vc.one at hk; show _ ≤ _; dsimp only at hk; omega
    · unfold Vc.one at hk; dsimp only at hk
      subst hk
      exact ⟨n5, offT hT o5, by omega, by omega⟩
  case hdone =>
    rintro T xs W hT hS ⟨h1, h2⟩ hK
    obtain ⟨ρ5, h5⟩ : ∃ ρ5, ρ4 = upd ρ5 5 (.pointer (some ⟨b1_0, 0, none⟩)) := ⟨ρ4, by rw [upd_eq s5]⟩
    rw [h5]
    refine retD (by kernel_rfl) (by kernel_rfl) ?_
    refine VL.op (R.ld1 Tryz.isAgg3 rfl (h1.cell _)) (VL.op (R.asI rfl) (VL.nil ⟨rfl, ?_⟩))
    refine leaves_tmp rfl rfl rfl hK fun W2 hm2 => ?_
    refine ⟨_, rfl, ?_, (Mod.ownA (Mod.refl Vc.nob w) h2 fun k hk => hk).own hm2 hz4⟩
    rw [← hS, List.length_map]
    rfl
end Go.Proofs.YtlnbkoojelhjdaaGreatDoor
