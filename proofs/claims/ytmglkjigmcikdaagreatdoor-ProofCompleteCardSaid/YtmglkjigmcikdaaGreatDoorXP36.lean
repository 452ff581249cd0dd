/- Proof: the reference: a leaf that fits. -/
import Derived.Test.YtmglkjigmcikdaaGreatDoorXP28
import Derived.Test.YtmglkjigmcikdaaGreatDoorXP33
namespace Go.Proofs.YtmglkjigmcikdaaGreatDoor
open Go.Vc
set_option maxRecDepth 100000
set_option maxHeartbeats 16000000
def firstN (c : PrfC) : Nat := if c.h = true then 1 else c.W.length
def candG (c : PrfC) (i : Nat) : St4 := (candF c).getD i default
theorem cand_len (c : PrfC) : (candF c).length = firstN c + (c.E.length + c.n.toNat) := by
 unfold candF firstN
 rw [List.length_append, List.length_append, List.length_map, List.length_map, List.length_range, List.length_range]
 split
 ·rfl
 ·rw [List.length_map, List.length_range]
theorem first_len (c : PrfC) : (if c.h = true then [(⟨5, 0, 0, 0⟩ : St4)] else (List.range c.W.length).map fun i : Nat => ⟨4, (i : Int), 0, 0⟩).length = firstN c := by
 unfold firstN
 split
 ·rfl
 ·rw [List.length_map, List.length_range]
theorem cand_none {c : PrfC} (h : c.h = true) : candG c 0 = ⟨5, 0, 0, 0⟩ := by
 unfold candG candF
 rw [if_pos h]; rfl
theorem cand_way {c : PrfC} (h : c.h = false) {i : Nat} (hi : i < c.W.length) : candG c i = ⟨4, (i : Int), 0, 0⟩ := by
 unfold candG candF
 rw [if_neg (by rw [h]; decide), List.getD, List.getElem?_append_left (by rw [List.length_map, List.length_range]; exact hi), List.getElem?_map, List.getElem?_range hi]; rfl
theorem cand_edge {c : PrfC} {i : Nat} (hi : i < c.E.length) : candG c (firstN c + i) = ⟨2, (i : Int), 0, 0⟩ := by
 unfold candG candF
 rw [List.getD, List.getElem?_append_right (by rw [first_len]; omega), first_len, Nat.add_sub_cancel_left, List.getElem?_append_left (by rw [List.length_map, List.length_range]; exact hi), List.getElem?_map, List.getElem?_range hi]; rfl
theorem cand_vert {c : PrfC} {i : Nat} (hi : i < c.n.toNat) : candG c (firstN c + c.E.length + i) = ⟨3, (i : Int), 0, 0⟩ := by
 unfold candG candF
 rw [List.getD, List.getElem?_append_right (by rw [first_len]; omega), first_len, List.getElem?_append_right (by rw [List.length_map, List.length_range]; omega), List.length_map, List.length_range, show firstN c + c.E.length + i - firstN c - c.E.length = i by omega, List.getElem?_map, List.getElem?_range hi]; rfl
theorem find_at {α : Type} [Inhabited α] {p : α → Bool} : ∀ {L : List α} {k : Nat}, k < L.length → (∀ i, i < k → p (L.getD i default) = false) → p (L.getD k default) = true → L.find? p = some (L.getD k default) := by
 intro L
 induction L with
 | nil => intro k hk; cases hk
 | cons x L ih =>
  intro k hk hf hp
  cases k with
  | zero => exact List.find?_cons_of_pos hp
  | succ k =>
   have h0 := hf 0 (by omega)
   rw [List.find?_cons_of_neg (by rw [show p x = false from h0]; decide)]
   exact ih (by simpa using hk) (fun i hi => hf (i + 1) (by omega)) hp
theorem find_none {α : Type} [Inhabited α] {p : α → Bool} {L : List α} (h : ∀ i, i < L.length → p (L.getD i default) = false) : L.find? p = none := by
 rw [List.find?_eq_none]
 intro x hx
 obtain ⟨i, hi, rfl⟩ := List.getElem_of_mem hx
 have := h i hi
 rw [gget hi] at this
 rw [this]; decide
theorem leaf_at {c : PrfC} {s : List Int} {k : Nat} (hk : k < firstN c + (c.E.length + c.n.toNat)) (hf : ∀ i, i < k → leafA c s (candG c i) = false) (hp : leafA c s (candG c k) = true) : leafF c s = some (candG c k) := find_at (by rw [cand_len]; exact hk) hf hp
theorem leaf_none {c : PrfC} {s : List Int} (h : ∀ i, i < firstN c + (c.E.length + c.n.toNat) → leafA c s (candG c i) = false) : leafF c s = none := find_none (by rw [cand_len]; exact h)
theorem right_leaf {c : PrfC} {s : List Int} {x : St4} (h1 : x.k ≠ 1) (h2 : x.i = 0) (h3 : x.o = 0) : (rightO { c with S := [x] } 1 0 s [false]).isSome = leafA c s x := by
 unfold rightO
 rw [if_neg (by decide)]
 show (if x.k = 1 then _ else if x.i = 0 ∧ x.o = 0 ∧ leafA { c with S := [x] } s x = true then some _ else none : Option (List Bool)).isSome = _
 have hl : leafA { c with S := [x] } s x = leafA c s x := leafA_steps rfl rfl rfl rfl s x
 rw [if_neg h1, hl]
 by_cases h4 : leafA c s x = true
 ·rw [if_pos ⟨h2, h3, h4⟩, h4]; rfl
 ·rw [if_neg fun h => h4 h.2.2, Bool.eq_false_iff.2 h4]; rfl
theorem rleaf30_spec (g : GrW) (wa : Option Addr) (wc : Nat) (W : List WyI) (h : Bool) (N : Nat) (hR : RrR g W N) (s : List Int) (ta : Option Addr) (tc : Nat) (w : World) (hG : GOk w g) (hW : WL w wa W) (hTs : IntSl w ta s) (hax : ta = none → tc = 0) (hlt : ∀ q, aBlk ta q → q < w.heap.size) (hs : s.length = N) :
  RetsX Tryz.prog 72 #[.agg (encGr g).toArray, .slice wa W.length wc, .bool h, .slice ta N tc] w (fun o : Option St4 => .tuple #[.agg (encS4 (o.getD ⟨0, 0, 0, 0⟩)).toArray, .bool o.isSome]) (fun o _ => o = leafF ⟨g.n, vals g.edges, W.map wyV, h, []⟩ s) := by
 have hn := hR.n
 have hN4 := hR.N4
 have hW400 := hR.Wl
 have hEl := hR.El
 obtain ⟨C, hC⟩ : ∃ C : PrfC, C = ⟨g.n, vals g.edges, W.map wyV, h, []⟩ := ⟨_, rfl⟩
 rw [← hC]
 have hCn : C.n.toNat = N := by rw [hC]; show g.n.toNat = N; omega
 have hCE : C.E.length = g.edges.length := by rw [hC]; exact List.length_map _
 have hCW : C.W.length = W.length := by rw [hC]; exact List.length_map _
 refine enter (args := [_, _, _, _]) Tryz.func72 rfl Tryz.ntmps72 (by kernel_rfl) rfl ?_
 refine V.seq (V.region (VL.box (v := .agg _) rfl fun b0_0 w0_0 hb0_0 e0_0 hB0_0 => VL.alloc Tryz.zeroValue51 fun b0_1 w0_1 hb0_1 e0_1 hB0_1 => VL.op (R.asB rfl) (VL.nil (V.seq (?_)))))
 have E01 : Ext w w0_1 := e0_0.trans e0_1
 have hXg := hB0_0.ext e0_1
 have hX8 : Blk w0_1 b0_1 (.cells (encS4 ⟨0, 0, 0, 0⟩).toArray 51 (0, 0)) := hB0_1
 have hst : ∀ {va vb : World}, Ext w0_1 va → Vc.Mod (Vc.one b0_1) va vb → Ext w vb := fun e m => (E01.trans e).ownA m fun q hq => by
  have h1 : q = b0_1 := hq
  have h2 := e0_0.size
  omega
 have hcall : ∀ (wb w' : World) (x : St4) (bs nb : Nat), x.k ≠ 1 → x.i = 0 → x.o = 0 → Ext w wb → TSl encS4 4 wb (some ⟨bs, 0, none⟩) [x] → Ext wb w' → OwnT encBo 1 4 wb.heap.size w' (some ⟨nb, 0, none⟩) 1 [false] → RetsK Tryz.prog 38 #[.agg (encGr g).toArray, .slice wa W.length wc, .bool h, .agg #[.slice (some ⟨bs, 0, none⟩) 1 1], .int .i64 ((0 : Nat) : Int), .slice ta N tc, .slice (some ⟨nb, 0, none⟩) 1 1] w' (.bool (leafA C s x)) (fun w2 => Ext wb w2) := fun wb w' x bs nb k1 k2 k3 eb ho ew hn => by
  have hnB := hn.ge nb ⟨_, rfl, rfl⟩
  have h1 := rright30_spec g wa wc W h (some ⟨bs, 0, none⟩) 1 [x] N hR (Nat.le_of_ble_eq_true rfl) wb (hG.ext eb) (hW.ext eb) ho 1 0 s ta tc [false] nb w' (Nat.le_of_ble_eq_true rfl) (Nat.le_of_ble_eq_true rfl) ew (hTs.ext (eb.trans ew)) hax (fun q hq => by have := hlt q hq; have := eb.size; omega) hs hn rfl
  refine h1.mono fun u w2 ⟨sn, hu, hk⟩ => ⟨?_, ew.ownA hk.m fun q hq => by have h2 : q = nb := hq; omega⟩
  rw [hu, ← right_leaf k1 k2 k3, hC]
 refine V.region (VL.op (R.build Tryz.zeroValue51 Tryz.runUnderlying51 pl51 rfl) (VL.buildSl Tryz.runUnderlying27 Tryz.sizeOf51 Tryz.zeroValue51 rfl rfl rfl fun b1_1 w1_1 hb1_1 e1_1 hB1_1 => VL.op (R.build Tryz.zeroValue29 Tryz.runUnderlying29 pl29 rfl) (VL.allocSt (v := .agg _) Tryz.zeroValue29 Tryz.sizeOf29 rfl rfl rfl rfl rfl fun b1_3 w1_3 hb1_3 e1_3 hB1_3 => VL.nil (V.cut [1, 2, 3, 4, 8, 10] (fun _ : Unit => [.slice wa W.length wc, .bool h, .slice ta N tc, .pointer (some ⟨b0_0, 0, none⟩), .pointer (some ⟨b0_1, 0, none⟩), .pointer (some ⟨b1_3, 0, none⟩)]) (fun _ w' => (h = true → leafA C s ⟨5, 0, 0, 0⟩ = false) ∧ OwnT encS4 4 51 w0_1.heap.size w' (some ⟨b1_1, 0, none⟩) 1 [⟨5, 0, 0, 0⟩] ∧ Blk w' b1_3 (.cells #[.slice (some ⟨b1_1, 0, none⟩) 1 1] 29 (0, 0)) ∧ Ext w0_1 w') (V.seq (?_)) (fun rgC26 xC26 wBC26 hBC26 => V.cut [1, 2, 3, 4, 8] (fun _ : Unit => [.slice wa W.length wc, .bool h, .slice ta N tc, .pointer (some ⟨b0_0, 0, none⟩), .pointer (some ⟨b0_1, 0, none⟩)]) (fun _ w' => (∀ i, i < firstN C → leafA C s (candG C i) = false) ∧ Ext w0_1 w') (V.seq (V.region (VL.op (R.asI rfl) (VL.nil (V.block (?_)))))) (fun rgB0 xB0 wBB0 hBB0 => V.cut [3, 4, 8] (fun _ : Unit => [.slice ta N tc, .pointer (some ⟨b0_0, 0, none⟩), .pointer (some ⟨b0_1, 0, none⟩)]) (fun _ w' => (∀ i, i < firstN C + g.edges.length → leafA C s (candG C i) = false) ∧ Ext w0_1 w') (V.seq (V.region (VL.op (R.asI rfl) (VL.nil (V.block (?_)))))) (fun rgB2 xB2 wBB2 hBB2 => V.seq (V.seq (?_)))))))))
 all_goals have hO1 : OwnT encS4 4 51 w0_1.heap.size w1_3 (some ⟨b1_1, 0, none⟩) 1 [(⟨5, 0, 0, 0⟩ : St4)] := (OwnT.of1 encS4 4 (⟨5, 0, 0, 0⟩ : St4) hB1_1 (Nat.le_of_eq hb1_1.symm) rfl rfl).ext e1_3
 all_goals have hX1 : Blk w1_3 b1_3 (.cells #[.slice (some ⟨b1_1, 0, none⟩) 1 1] 29 (0, 0)) := hB1_3
 all_goals clear hB1_1 hB1_3
 ·cases h with
  | false =>
   refine V.regionQ mixed 8 (by kernel_rfl) rfl (fun w' => Ext _ w') (Ext.drawn _) (VQ.op (fun wq eq => R.mvB rfl) (VQ.op (fun wq eq => R.mvB rfl) (VQ.gF rfl rfl (VQ.gF rfl rfl (VQ.gF rfl rfl (VQ.gF rfl rfl (VQ.gF rfl rfl (VQ.gF rfl rfl (VQ.nil fun w2q e2q => VL.gF rfl rfl (VL.op (R.pickFB rfl rfl) (VL.nil (V.condF rfl (V.skip (?_))))))))))))))
   exact ⟨(), rfl, (fun h => nomatch h), hO1.ext e2q, hX1.ext e2q, (e1_1.trans e1_3).trans e2q⟩
  | true =>
   refine V.regionS mixed 8 (by kernel_rfl) rfl (fun us => VS.op (fun wq eq => R.mvB rfl) (VS.op (fun wq eq => R.mvB rfl) (VS.gT rfl rfl (VS.op (fun wq eq => R.ldA Tryz.isAgg25 Tryz.sizeOf25 rfl rfl ((show RowAt _ _ _ (encGr g) from (hXg.ext ((e1_1.trans e1_3).trans eq)).rowAt 0 3)) rfl) (VS.gT rfl rfl (VS.op (fun wq eq => R.mvS rfl) (VS.gT rfl rfl (VS.op (fun wq eq => R.mvB rfl) (VS.gT rfl rfl (VS.op (fun wq eq => R.ldA Tryz.isAgg29 Tryz.sizeOf29 rfl rfl ((show RowAt _ _ _ [Value.slice (some ⟨b1_1, 0, none⟩) 1 1] from (hX1.ext eq).rowAt 0 1)) rfl) (VS.gT rfl rfl (VS.op (fun wq eq => R.mvS rfl) (VS.gT rfl rfl (VS.spec (fun u w' => ∃ b, u = .slice (some ⟨b, 0, none⟩) 1 1 ∧ OwnT encBo 1 4 w1_3.heap.size w' (some ⟨b, 0, none⟩) 1 (List.replicate 1 false)) (fun u a b _ ⟨c, hc, h1⟩ eb => ⟨c, hc, h1.ext eb⟩) rfl (fun wq eq hq => yieldsR_make el67 false rfl rfl rfl (by omega) (by unfold maxLen; omega) eq.size fun b w' hb he hO => ⟨⟨b, rfl, hO⟩, he⟩) (VS.nil (fun w2 e2 h2 => ?_)))))))))))))))) rfl
   obtain ⟨nb, hnb, hno⟩ := h2 7
   rw [hnb]
   have E2 : Ext w0_1 w2 := (e1_1.trans e1_3).trans e2
   refine VL.gT rfl rfl (VL.callK Tryz.call38 rfl (hcall w1_3 w2 ⟨5, 0, 0, 0⟩ b1_1 nb (by decide) rfl rfl (E01.trans (e1_1.trans e1_3)) hO1.sl e2 hno) fun w3 h3 => VL.op (R.pickTB rfl rfl) (VL.nil (V.cond rfl (fun c26 => V.seq (?_)) (fun c26 => V.skip (?_)))))
   ·have E3 : Ext w0_1 w3 := (e1_1.trans e1_3).trans h3
    have hO3 := hO1.sl.ext h3
    refine V.region (VL.op (R.fld' (o := 0) Tryz.runUnderlying29 rfl rfl Tryz.sizeOf27 rfl rfl) (VL.op (R.ld1 Tryz.isAgg27 rfl ((show _ = some (Value.slice (some ⟨b1_1, 0, none⟩) 1 1) from (hX1.ext h3).cell 0))) (VL.op (R.ixS Tryz.runUnderlying27 Tryz.sizeOf51 rfl rfl (by decide) (by decide) (hO3.some (i := 0) (by decide))) (VL.op (R.ldA Tryz.isAgg51 Tryz.sizeOf51 rfl rfl ((show RowAt _ _ _ (encS4 (⟨5, 0, 0, 0⟩ : St4)) from (hO3.row (i := 0) (by decide)))) rfl) (VL.store (v := .agg _) Tryz.sizeOf51 rfl rfl rfl rfl (hX8.ext E3) rfl rfl fun w5 m5 hs5 hB5 => VL.op (R.asB rfl) (VL.nil (V.ret (fretCT (v := .bool _) rfl rfl rfl rfl rfl Tryz.isAgg51 Tryz.sizeOf51 rfl ?_ rfl (⟨some ⟨5, 0, 0, 0⟩, rfl, ?_, hst E3 m5⟩)))))))))
    ·exact hB5.rowAt 0 4
    have hCh : C.h = true := by rw [hC]
    rw [← cand_none hCh] at c26 ⊢
    exact (leaf_at (by unfold firstN; rw [if_pos hCh]; omega) (fun i hi => absurd hi (Nat.not_lt_zero i)) c26).symm
   ·exact ⟨(), rfl, (fun _ => c26), hO1.ext h3, hX1.ext h3, (e1_1.trans e1_3).trans h3⟩
 ·obtain ⟨hc0, hO4, hX4, e4⟩ := hBC26
  have hl1 : ∀ x : St4, [x].length = 1 := fun _ => rfl
  refine V.loop [1, 2, 3, 4, 8, 10, 11] (fun x : Nat × St4 => [.slice wa W.length wc, .bool h, .slice ta N tc, .pointer (some ⟨b0_0, 0, none⟩), .pointer (some ⟨b0_1, 0, none⟩), .pointer (some ⟨b1_3, 0, none⟩), .int .i64 (x.1 : Nat)]) (fun x w' => x.1 ≤ W.length ∧ (h = true → x.1 = 0) ∧ (h = false → ∀ i, i < x.1 → leafA C s (candG C i) = false) ∧ OwnT encS4 4 51 w0_1.heap.size w' (some ⟨b1_1, 0, none⟩) 1 [x.2] ∧ Blk w' b1_3 (.cells #[.slice (some ⟨b1_1, 0, none⟩) 1 1] 29 (0, 0)) ∧ Ext w0_1 w') (fun x => W.length - x.1) (0, ⟨5, 0, 0, 0⟩) rfl ⟨Nat.zero_le _, fun _ => rfl, fun _ i h => absurd h (Nat.not_lt_zero i), hO4, hX4, e4⟩ ?_
  rintro ρ ⟨k, x⟩ w5 ⟨hk, hk0, hf, hO5, hX5, e5⟩
  dsimp only at hk hk0 hf hO5 hX5 e5 ⊢
  cases h with
  | true =>
   have hk0 := hk0 rfl
   subst hk0
   refine V.seq (V.seq (V.region (VL.op (R.mvI rfl) (VL.op (R.mvS rfl) (VL.op (R.lenS Tryz.runUnderlying26 rfl) (VL.op (R.lss rfl rfl) (VL.op (R.mvB rfl) (VL.andP rfl rfl (fun g5_4 => VL.op (R.mvB rfl) (VL.gT rfl rfl (VL.op (R.not rfl) (VL.op (R.pickTB rfl rfl) (VL.nil (V.condF rfl (V.exit (?_)))))))) (fun g5_4 => VL.gF rfl rfl (VL.op (R.pickFB rfl rfl) (VL.nil (V.condF rfl (V.exit (?_))))))))))))))
   all_goals refine ⟨(), rfl, fun i hi => ?_, e5⟩
   all_goals have hCh : C.h = true := by rw [hC]
   all_goals obtain rfl : i = 0 := by unfold firstN at hi; rw [if_pos hCh] at hi; omega
   all_goals rw [cand_none hCh]; exact hc0 rfl
  | false =>
   refine V.seq (V.seq (V.region (VL.op (R.mvI rfl) (VL.op (R.mvS rfl) (VL.op (R.lenS Tryz.runUnderlying26 rfl) (VL.op (R.lss rfl rfl) (VL.op (R.mvB rfl) (VL.andP rfl rfl (fun g5_4 => VL.op (R.mvB rfl) (VL.gT rfl rfl (VL.op (R.not rfl) (VL.op (R.pickTB rfl rfl) (VL.nil (V.condT rfl (V.skip (V.seq (V.block (V.seq (?_))))))))))) (fun g5_4 => VL.gF rfl rfl (VL.op (R.pickFB rfl rfl) (VL.nil (V.condF rfl (V.exit (?_))))))))))))))
   ·have hkn : k < W.length := by omega
    have hCh : C.h = false := by rw [hC]
    have hfN : firstN C = W.length := by unfold firstN; rw [if_neg (by rw [hCh]; decide), hCW]
    have hcd : candG C k = ⟨4, ((k : Nat) : Int), 0, 0⟩ := cand_way hCh (by omega)
    have hl1 := hl1 x
    refine V.region (VL.op (R.fld' (o := 0) Tryz.runUnderlying29 rfl rfl Tryz.sizeOf27 rfl rfl) (VL.op (R.ld1 Tryz.isAgg27 rfl ((show _ = some (Value.slice (some ⟨b1_1, 0, none⟩) 1 1) from hX5.cell 0))) (VL.op (R.mvI rfl) (VL.op (R.build Tryz.zeroValue51 Tryz.runUnderlying51 pl51 rfl) (VL.op (R.ixS Tryz.runUnderlying27 Tryz.sizeOf51 rfl rfl (by decide) (by decide) (hO5.sl.some (i := 0) (by simp))) (VL.ownSt eltS4 (v := .agg _) Tryz.sizeOf51 (hO5) 0 0 (⟨4, ((k : Nat) : Int), 0, 0⟩ : St4) rfl rfl (by omega) rfl rfl rfl rfl rfl fun v6 hO6 m6 hs6 => VL.nil (V.seq (?_))))))))
    have hO6 : OwnT encS4 4 51 w0_1.heap.size v6 (some ⟨b1_1, 0, none⟩) 1 [⟨4, ((k : Nat) : Int), 0, 0⟩] := hO6
    have hbb : b1_1 ≠ b1_3 := by have := hO4.ge b1_1 ⟨_, rfl, rfl⟩; have := e1_1.size; have := (OwnT.tyA hO4).apart hX4 (by decide); exact fun h => this ⟨_, rfl, h⟩
    have hX6 := hX5.mod m6 fun h => hbb (aBlk_some h).symm
    have e6 : Ext w0_1 v6 := e5.ownA m6 hO5.ge
    refine V.regionS mixed 6 (by kernel_rfl) rfl (fun us => VS.op (fun wq eq => R.ldA Tryz.isAgg25 Tryz.sizeOf25 rfl rfl ((show RowAt _ _ _ (encGr g) from (hXg.ext (e6.trans eq)).rowAt 0 3)) rfl) (VS.op (fun wq eq => R.mvS rfl) (VS.op (fun wq eq => R.mvB rfl) (VS.op (fun wq eq => R.ldA Tryz.isAgg29 Tryz.sizeOf29 rfl rfl ((show RowAt _ _ _ [Value.slice (some ⟨b1_1, 0, none⟩) 1 1] from (hX6.ext eq).rowAt 0 1)) rfl) (VS.op (fun wq eq => R.mvS rfl) (VS.spec (fun u w' => ∃ b, u = .slice (some ⟨b, 0, none⟩) 1 1 ∧ OwnT encBo 1 4 v6.heap.size w' (some ⟨b, 0, none⟩) 1 (List.replicate 1 false)) (fun u a b _ ⟨c, hc, h1⟩ eb => ⟨c, hc, h1.ext eb⟩) rfl (fun wq eq hq => yieldsR_make el67 false rfl rfl rfl (by omega) (by unfold maxLen; omega) eq.size fun b w' hb he hO => ⟨⟨b, rfl, hO⟩, he⟩) (VS.nil (fun v7 f7 h7 => ?_)))))))) rfl
    obtain ⟨nb, hnb, hno⟩ := h7 5
    rw [hnb]
    refine VL.callK Tryz.call38 rfl (hcall v6 v7 ⟨4, ((k : Nat) : Int), 0, 0⟩ b1_1 nb (show (4 : Int) ≠ 1 by decide) rfl rfl (E01.trans e6) hO6.sl f7 hno) fun w8 h8 => VL.nil (V.cond rfl (fun c52 => V.seq (?_)) (fun c52 => V.skip (V.region (VL.op (R.mvI rfl) (VL.op (R.add rfl rfl (by omega) (by omega)) (VL.op (R.asI rfl) (VL.nil (?_))))))))
    ·have e8 : Ext w0_1 w8 := e6.trans h8
     have hO8 := hO6.sl.ext h8
     refine V.region (VL.op (R.fld' (o := 0) Tryz.runUnderlying29 rfl rfl Tryz.sizeOf27 rfl rfl) (VL.op (R.ld1 Tryz.isAgg27 rfl ((show _ = some (Value.slice (some ⟨b1_1, 0, none⟩) 1 1) from (hX6.ext h8).cell 0))) (VL.op (R.ixS Tryz.runUnderlying27 Tryz.sizeOf51 rfl rfl (by decide) (by decide) (hO8.some (i := 0) (Nat.le_of_ble_eq_true rfl))) (VL.op (R.ldA Tryz.isAgg51 Tryz.sizeOf51 rfl rfl ((show RowAt _ _ _ (encS4 (⟨4, ((k : Nat) : Int), 0, 0⟩ : St4)) from (hO8.row (i := 0) (Nat.le_of_ble_eq_true rfl)))) rfl) (VL.store (v := .agg _) Tryz.sizeOf51 rfl rfl rfl rfl (hX8.ext e8) rfl rfl fun w9 m9 hs9 hB9 => VL.op (R.asB rfl) (VL.nil (V.ret (fretCT (v := .bool _) rfl rfl rfl rfl rfl Tryz.isAgg51 Tryz.sizeOf51 rfl ?_ rfl (⟨some ⟨4, ((k : Nat) : Int), 0, 0⟩, rfl, ?_, hst e8 m9⟩)))))))))
     ·exact hB9.rowAt 0 4
     rw [← hcd] at c52 ⊢
     exact (leaf_at (by omega) (hf rfl) c52).symm
    ·refine ⟨(k + 1, ⟨4, ((k : Nat) : Int), 0, 0⟩), rfl, ⟨by dsimp only; omega, (fun h => nomatch h), fun _ i hi => ?_, hO6.ext h8, hX6.ext h8, e6.trans h8⟩, by dsimp only; omega⟩
     dsimp only at hi
     by_cases e : i = k
     ·subst e; rw [hcd]; exact c52
     ·exact hf rfl i (by omega)
   ·have hCh : C.h = false := by rw [hC]
    have hfN : firstN C = W.length := by unfold firstN; rw [if_neg (by rw [hCh]; decide), hCW]
    exact ⟨(), rfl, fun i hi => hf rfl i (by omega), e5⟩
 ·obtain ⟨hfn, e4⟩ := hBB0
  refine V.loop [3, 4, 8, 12] (fun k : Nat => [.slice ta N tc, .pointer (some ⟨b0_0, 0, none⟩), .pointer (some ⟨b0_1, 0, none⟩), .int .i64 (k : Nat)]) (fun k w' => k ≤ g.edges.length ∧ (∀ i, i < firstN C + k → leafA C s (candG C i) = false) ∧ Ext w0_1 w') (fun k => g.edges.length - k) 0 rfl ⟨Nat.zero_le _, hfn, e4⟩ ?_
  rintro ρ k w5 ⟨hk, hf, e5⟩
  have hE5 := (hG.ext (E01.trans e5)).e
  refine V.seq (V.seq (V.region (VL.op (R.mvI rfl) (VL.op (R.fld' (o := 2) Tryz.runUnderlying25 rfl rfl Tryz.sizeOf23 rfl rfl) (VL.op (R.ld1 Tryz.isAgg23 rfl ((show _ = some (Value.slice g.ea g.edges.length g.ec) from (hXg.ext e5).cell 2))) (VL.op (R.lenS Tryz.runUnderlying23 rfl) (VL.op (R.lss rfl rfl) (VL.nil (V.condP rfl (fun c61 => V.skip (V.seq (V.block (V.seq (?_))))) (fun c61 => V.exit (?_)))))))))))
  ·have hkn : k < g.edges.length := by omega
   have hcd : candG C (firstN C + k) = ⟨2, ((k : Nat) : Int), 0, 0⟩ := cand_edge (by omega)
   have hla : leafA C s ⟨2, ((k : Nat) : Int), 0, 0⟩ = areA s (g.edges.getD k default).l 1 := by
    rw [hC]
    unfold leafA
    rw [if_pos rfl, decide_eq_true (show 0 ≤ ((k : Nat) : Int) ∧ ((k : Nat) : Int) < ((vals g.edges).length : Int) by rw [show (vals g.edges).length = g.edges.length from List.length_map _]; omega), Bool.true_and, Int.toNat_natCast, gmap SlI.l g.edges default hkn]
   have hall : RetsP Tryz.prog 63 #[.slice ta N tc, .slice (g.edges.getD k default).a (g.edges.getD k default).l.length (g.edges.getD k default).c, .int .i64 1] w5 (.bool (areA s (g.edges.getD k default).l 1)) := by
    have := rall30_spec ta tc s (g.edges.getD k default).a (g.edges.getD k default).c (g.edges.getD k default).l 1 w5 (hTs.ext (E01.trans e5)) (hE5.at hkn) (by rw [hs]; exact hR.E _ (List.mem_map_of_mem (gmem hkn))) (by omega) (hR.gl.each _ (gmem hkn)).1
    rw [hs] at this; exact this
   refine V.region (VL.op (R.mvS rfl) (VL.op (R.fld' (o := 2) Tryz.runUnderlying25 rfl rfl Tryz.sizeOf23 rfl rfl) (VL.op (R.ld1 Tryz.isAgg23 rfl ((show _ = some (Value.slice g.ea g.edges.length g.ec) from (hXg.ext e5).cell 2))) (VL.op (R.mvI rfl) (VL.op (R.ixS Tryz.runUnderlying23 Tryz.sizeOf22 rfl rfl (by omega) (by omega) (hE5.sl.some (i := k) hkn)) (VL.op (R.ld1 Tryz.isAgg22 rfl (((hE5.sl.row (i := k) hkn).cell (i := 0) rfl))) (VL.callP Tryz.call63 rfl (hall) fun w13_6 e13_6 => VL.nil (V.cond rfl (fun c70 => V.seq (V.region (VL.op (R.mvI rfl) (VL.op (R.build Tryz.zeroValue51 Tryz.runUnderlying51 pl51 rfl) (VL.store (v := .agg _) Tryz.sizeOf51 rfl rfl rfl rfl (hX8.ext (e5.trans e13_6)) rfl rfl fun w9 m9 hs9 hB9 => VL.op (R.asB rfl) (VL.nil (V.ret (fretCT (v := .bool _) rfl rfl rfl rfl rfl Tryz.isAgg51 Tryz.sizeOf51 rfl ?_ rfl (⟨some ⟨2, ((k : Nat) : Int), 0, 0⟩, rfl, ?_, hst (e5.trans e13_6) m9⟩))))))))) (fun c70 => V.skip (V.region (VL.op (R.mvI rfl) (VL.op (R.add rfl rfl (by omega) (by omega)) (VL.op (R.asI rfl) (VL.nil (⟨k + 1, rfl, ⟨by omega, fun i hi => ?_, e5.trans e13_6⟩, by omega⟩)))))))))))))))
   ·exact hB9.rowAt 0 4
   ·show some _ = leafF C s
    rw [← hcd]
    exact (leaf_at (by omega) hf (by rw [hcd, hla]; exact c70)).symm
   ·by_cases e : i = firstN C + k
    ·subst e; rw [hcd, hla]; exact c70
    ·exact hf i (by omega)
  ·have hke : k = g.edges.length := by omega
   subst hke
   exact ⟨(), rfl, hf, e5⟩
 ·obtain ⟨hfn, e4⟩ := hBB2
  refine V.region (VL.op (R.asI rfl) (VL.nil (V.block (?_))))
  refine V.loop [3, 4, 8, 13] (fun k : Nat => [.slice ta N tc, .pointer (some ⟨b0_0, 0, none⟩), .pointer (some ⟨b0_1, 0, none⟩), .int .i64 (k : Nat)]) (fun k w' => k ≤ N ∧ (∀ i, i < firstN C + g.edges.length + k → leafA C s (candG C i) = false) ∧ Ext w0_1 w') (fun k => N - k) 0 rfl ⟨Nat.zero_le _, hfn, e4⟩ ?_
  rintro ρ k w5 ⟨hk, hf, e5⟩
  have hT5 := hTs.ext (E01.trans e5)
  refine V.seq (V.seq (V.region (VL.op (R.mvI rfl) (VL.op (R.fld' (o := 0) Tryz.runUnderlying25 rfl rfl Tryz.sizeOf3 rfl rfl) (VL.op (R.ld1 Tryz.isAgg3 rfl ((show _ = some (Value.int .i64 ((N : Nat) : Int)) from by rw [← hn]; exact (hXg.ext e5).cell 0))) (VL.op (R.lss rfl rfl) (VL.nil (V.condP rfl (fun c76 => V.skip (V.seq (V.block (V.seq (?_))))) (fun c76 => V.exit (V.seq (?_)))))))))))
  ·have hkn : k < N := by omega
   have hcd : candG C (firstN C + g.edges.length + k) = ⟨3, ((k : Nat) : Int), 0, 0⟩ := by rw [← hCE]; exact cand_vert (by omega)
   have hla : leafA C s ⟨3, ((k : Nat) : Int), 0, 0⟩ = (decide (s.getD k default = 2) && frA (vals g.edges) s ((k : Nat) : Int)) := by
    rw [hC]
    unfold leafA
    rw [if_neg (show ¬ (3 : Int) = 2 by decide), if_pos rfl]
    congr 1
    refine decide_eq_decide.2 ⟨fun h => ?_, fun h => ⟨by dsimp only; omega, by dsimp only; omega, ?_⟩⟩
    ·have := h.2.2; unfold stA at this; rwa [Int.toNat_natCast] at this
    ·unfold stA; rw [Int.toNat_natCast]; exact h
   have hfr : ∀ {w'}, Ext w5 w' → RetsP Tryz.prog 64 #[.agg (encGr g).toArray, .slice ta N tc, .int .i64 ((k : Nat) : Int)] w' (.bool (frA (vals g.edges) s ((k : Nat) : Int))) := fun e => by
    have := rfree30_spec g ta tc s ((k : Nat) : Int) _ (hG.ext (E01.trans (e5.trans e))) hR.gl (hT5.ext e) (by rw [hs]; exact hR.E) (by omega)
    rw [hs] at this; exact this
   refine V.region (VL.op (R.mvS rfl) (VL.op (R.mvI rfl) (VL.op (R.ixS Tryz.runUnderlying22 Tryz.sizeOf3 rfl rfl (by omega) (by omega) (hT5.some (i := k) (by omega))) (VL.op (R.ld1 Tryz.isAgg3 rfl (((hT5.row (i := k) (by omega)).cell (i := 0) rfl))) (VL.op (R.eql rfl rfl) (VL.op (R.mvB rfl) (VL.andP rfl rfl (fun g18_5 => VL.op (R.ldA Tryz.isAgg25 Tryz.sizeOf25 rfl rfl ((show RowAt _ _ _ (encGr g) from (hXg.ext e5).rowAt 0 3)) rfl) (VL.gT rfl rfl (VL.op (R.mvS rfl) (VL.gT rfl rfl (VL.op (R.mvI rfl) (VL.gT rfl rfl (VL.callP Tryz.call64 rfl (hfr (Vc.Mod.refl _ _)) fun w18_9 e18_9 => VL.op (R.pickTB rfl rfl) (VL.nil (V.cond rfl (fun c89 => V.seq (V.region (VL.op (R.mvI rfl) (VL.op (R.build Tryz.zeroValue51 Tryz.runUnderlying51 pl51 rfl) (VL.store (v := .agg _) Tryz.sizeOf51 rfl rfl rfl rfl (hX8.ext (e5.trans e18_9)) rfl rfl fun w9 m9 hs9 hB9 => VL.op (R.asB rfl) (VL.nil (V.ret (fretCT (v := .bool _) rfl rfl rfl rfl rfl Tryz.isAgg51 Tryz.sizeOf51 rfl ?_ rfl (⟨some ⟨3, ((k : Nat) : Int), 0, 0⟩, rfl, ?_, hst (e5.trans e18_9) m9⟩))))))))) (fun c89 => V.skip (V.region (VL.op (R.mvI rfl) (VL.op (R.add rfl rfl (by omega) (by omega)) (VL.op (R.asI rfl) (VL.nil (⟨k + 1, rfl, ⟨by omega, fun i hi => ?_, e5.trans e18_9⟩, by omega⟩)))))))))))))))) (fun g18_5 => VL.gF rfl rfl (VL.gF rfl rfl (VL.gF rfl rfl (VL.op (R.pickFB rfl rfl) (VL.nil (V.condF rfl (V.skip (V.region (VL.op (R.mvI rfl) (VL.op (R.add rfl rfl (by omega) (by omega)) (VL.op (R.asI rfl) (VL.nil (⟨k + 1, rfl, ⟨by omega, fun i hi => ?_, e5.trans (Mod.refl _ _)⟩, by omega⟩))))))))))))))))))))
   ·exact hB9.rowAt 0 4
   ·show some _ = leafF C s
    rw [← hcd]
    exact (leaf_at (by omega) hf (by rw [hcd, hla, decide_eq_true g18_5, c89]; rfl)).symm
   ·by_cases e : i = firstN C + g.edges.length + k
    ·subst e; rw [hcd, hla, c89, Bool.and_false]
    ·exact hf i (by omega)
   ·by_cases e : i = firstN C + g.edges.length + k
    ·subst e; rw [hcd, hla, decide_eq_false g18_5, Bool.false_and]
    ·exact hf i (by omega)
  ·have hke : k = N := by omega
   subst hke
   refine V.region (VL.op (R.build Tryz.zeroValue51 Tryz.runUnderlying51 pl51 rfl) (VL.store (v := .agg _) Tryz.sizeOf51 rfl rfl rfl rfl (hX8.ext e5) rfl rfl fun w9 m9 hs9 hB9 => VL.op (R.asB rfl) (VL.nil (V.ret (fretCT (v := .bool _) rfl rfl rfl rfl rfl Tryz.isAgg51 Tryz.sizeOf51 rfl ?_ rfl (⟨none, rfl, ?_, hst e5 m9⟩))))))
   ·exact hB9.rowAt 0 4
   ·exact (leaf_none fun i hi => hf i (by omega)).symm
end Go.Proofs.YtmglkjigmcikdaaGreatDoor

/- Proof: the reference: a proof that branches on all vertices. -/
namespace Go.Proofs.YtmglkjigmcikdaaGreatDoor
open Go.Vc
set_option maxRecDepth 100000
set_option maxHeartbeats 16000000
theorem grow_some {c : PrfC} {s : List Int} {x : St4} (h : leafF c s = some x) (f v : Nat) (S : List St4) : growF c f v s S = some (S ++ [x]) := by
 cases f <;> (unfold growF; rw [h])
theorem grow_0 {c : PrfC} {s : List Int} (h : leafF c s = none) (v : Nat) (S : List St4) : growF c 0 v s S = none := by unfold growF; rw [h]
theorem grow_S {c : PrfC} {s : List Int} (h : leafF c s = none) (f v : Nat) (S : List St4) : growF c (f + 1) v s S = (growF c f (v + 1) (s.set v 1) (S ++ [⟨1, (v : Int), (S.length : Int) + 1, 0⟩])).bind fun S1 => growF c f (v + 1) (s.set v 2) (S1.set S.length { S1.getD S.length default with o := (S1.length : Int) }) := by
 conv => lhs; unfold growF
 rw [h]
structure GwK (w0 : World) (a : Option Addr) (o : Option (List St4)) (w : World) (r : Option Addr × Nat × Option (List St4)) (w' : World) : Prop where
 o : r.2.2 = o
 s : ∀ S, r.2.2 = some S → OwnT encS4 4 51 w0.heap.size w' r.1 r.2.1 S
 n : r.2.2 = none → r.1 = none ∧ r.2.1 = 0
 b : ∀ q, aBlk r.1 q → aBlk a q ∨ w.heap.size ≤ q
 m : Vc.Mod (aBlk a) w w'
def gwV (r : Option Addr × Nat × Option (List St4)) : Value := .tuple #[.slice r.1 (r.2.2.getD []).length r.2.1, .bool r.2.2.isSome]
theorem rgrow30_spec (g : GrW) (wa : Option Addr) (wc : Nat) (W : List WyI) (h : Bool) (N : Nat) (hR : RrR g W N) (C : PrfC) (hC : C = ⟨g.n, vals g.edges, W.map wyV, h, []⟩) (w0 : World) (hG0 : GOk w0 g) (hW0 : WL w0 wa W) :
  ∀ (f v : Nat) (s : List Int) (ta : Option Addr) (tc : Nat) (S : List St4) (a : Option Addr) (c : Nat) (w : World), v + f = N → s.length = N → Ext w0 w → IntSl w ta s → (ta = none → tc = 0) → (∀ q, aBlk ta q → q < w.heap.size) → Sep ta a → OwnT encS4 4 51 w0.heap.size w a c S → S.length + 2 ^ (f + 1) ≤ 1000000 →
   RetsY Tryz.prog 49 #[.agg (encGr g).toArray, .slice wa W.length wc, .bool h, .slice ta N tc, .slice a S.length c, .int .i64 (v : Nat)] w gwV (GwK w0 a (growF C f v s S) w) := by
 intro f
 induction f using Nat.strongRecOn with
 | _ f ih =>
  intro v s ta tc S a c w hv hs e0 hT hax hlt hsp ho hsz
  have hn := hR.n
  have hN4 := hR.N4
  have hp2 : 2 ≤ 2 ^ (f + 1) := by rw [Nat.pow_succ]; have := Nat.two_pow_pos f; omega
  refine enter (args := [_, _, _, _, _, _]) Tryz.func49 rfl Tryz.ntmps49 (by kernel_rfl) rfl ?_
  refine V.seq (V.region (VL.box (v := .agg _) rfl fun b0_0 w0_0 hb0_0 e0_0 hB0_0 => VL.op (R.asS rfl) (VL.op (R.asB rfl) (VL.nil (V.seq (V.region (VL.op (R.ldA Tryz.isAgg25 Tryz.sizeOf25 rfl rfl ((show RowAt _ _ _ (encGr g) from hB0_0.rowAt 0 3)) rfl) (VL.op (R.mvS rfl) (VL.op (R.mvB rfl) (VL.op (R.mvS rfl) (VL.callX Tryz.call72 rfl (rleaf30_spec g wa wc W h N hR s ta tc _ (hG0.ext (e0.trans e0_0)) (hW0.ext (e0.trans e0_0)) (hT.ext e0_0) hax (fun q hq => Nat.lt_of_lt_of_le (hlt q hq) e0_0.size) hs) fun o w1 h1 e1 => VL.op (R.mvT rfl) (VL.op (R.extr rfl rfl) (VL.op (R.extr rfl rfl) (VL.allocSt (v := .agg (encS4 (o.getD ⟨0, 0, 0, 0⟩)).toArray) Tryz.zeroValue51 Tryz.sizeOf51 rfl rfl rfl rfl rfl fun b1_8 w1_8 hb1_8 e1_8 hB1_8 => VL.op (R.asB rfl) (VL.nil (V.seq (V.seq (?_))))))))))))))))))
  rw [← hC] at h1
  have E1 : Ext w w1_8 := (e0_0.trans e1).trans e1_8
  have hXg := (hB0_0.ext e1).ext e1_8
  have ho1 := ho.ext E1
  have hcap := ho.cap
  cases hL : leafF C s with
  | some x =>
   rw [hL] at h1
   subst h1
   rw [grow_some hL]
   refine V.region (VL.op (R.mvB rfl) (VL.nil (V.condT rfl (V.seq (V.region (VL.op (R.mvS rfl) (VL.op (R.ldA Tryz.isAgg51 Tryz.sizeOf51 rfl rfl ((show RowAt _ _ _ (encS4 x) from hB1_8.rowAt 0 4)) rfl) (VL.append1 el27 Tryz.runUnderlying27 Tryz.sizeOf51 Tryz.zeroValue51 rfl (x) rfl rfl rfl ho1 rfl rfl rfl (by omega) (by unfold maxLen; omega) (Vc.Mod.size (e0.trans E1)) fun a4 c4 w4 vt4 ho4 m4 hf4 => VL.op (R.asS rfl) (VL.op (R.asB rfl) (VL.nil (V.ret (fret2 (v := .slice _ _ _) (x := .bool _) rfl rfl rfl rfl rfl (?_)))))))))))))
   refine ⟨(a4, c4, some (S ++ [x])), by show _ = Value.tuple #[Value.slice a4 (S ++ [x]).length c4, Value.bool true]; rw [List.length_append]; rfl, rfl, fun S' h => by injection h with h; subst h; exact ho4, (fun h => nomatch h), fun q hq => ?_, (E1.weaken fun _ _ h => h.elim).then m4 fun _ _ h => h⟩
   rcases hf4 q hq with h2 | h2
   ·exact .inl h2
   ·exact .inr (Nat.le_trans E1.size h2)
  | none =>
   rw [hL] at h1
   subst h1
   cases f with
   | zero =>
    rw [grow_0 hL]
    refine V.region (VL.op (R.mvB rfl) (VL.nil (V.condF rfl (V.skip (V.seq (V.seq (V.region (VL.op (R.mvI rfl) (VL.op (R.fld' (o := 0) Tryz.runUnderlying25 rfl rfl Tryz.sizeOf3 rfl rfl) (VL.op (R.ld1 Tryz.isAgg3 rfl ((show _ = some (Value.int .i64 ((N : Nat) : Int)) from by rw [← hn]; exact hXg.cell 0))) (VL.op (R.lit (R.eql rfl rfl) ((decide_eq_true (by omega)))) (VL.nil (V.condT rfl (V.seq (V.region (VL.op (R.asS rfl) (VL.op (R.asB rfl) (VL.nil (V.ret (fret2 (v := .slice _ _ _) (x := .bool _) rfl rfl rfl rfl rfl (?_)))))))))))))))))))))
    exact ⟨(none, 0, none), rfl, rfl, (fun S h => nomatch h), fun _ => ⟨rfl, rfl⟩, fun q hq => by (obtain ⟨x, h, _⟩ := hq; cases h), E1.weaken fun _ _ h => h.elim⟩
   | succ f =>
    rw [grow_S hL]
    refine V.region (VL.op (R.mvB rfl) (VL.nil (V.condF rfl (V.skip (V.seq (V.seq (V.region (VL.op (R.mvI rfl) (VL.op (R.fld' (o := 0) Tryz.runUnderlying25 rfl rfl Tryz.sizeOf3 rfl rfl) (VL.op (R.ld1 Tryz.isAgg3 rfl ((show _ = some (Value.int .i64 ((N : Nat) : Int)) from by rw [← hn]; exact hXg.cell 0))) (VL.op (R.lit (R.eql rfl rfl) ((decide_eq_false (by omega)))) (VL.nil (V.condF rfl (V.skip (V.seq (?_))))))))))))))))
    have hpS : 2 ^ (f + 1 + 1) = 2 * 2 ^ (f + 1) := by rw [Nat.pow_succ, Nat.mul_comm]
    have hp1 : 1 ≤ 2 ^ (f + 1) := Nat.two_pow_pos _
    refine V.region (VL.op (R.mvS rfl) (VL.op (R.lenS Tryz.runUnderlying27 rfl) (VL.op (R.asI rfl) (VL.nil (V.seq (V.region (VL.op (R.mvS rfl) (VL.op (R.mvI rfl) (VL.op (R.mvI rfl) (VL.op (R.add rfl rfl (by omega) (by omega)) (VL.op (R.build Tryz.zeroValue51 Tryz.runUnderlying51 pl51 rfl) (VL.append1 el27 Tryz.runUnderlying27 Tryz.sizeOf51 Tryz.zeroValue51 rfl ((⟨1, ((v : Nat) : Int), ((S.length : Nat) : Int) + 1, 0⟩ : St4)) rfl rfl rfl ho1 rfl rfl rfl (by omega) (by unfold maxLen; omega) (Vc.Mod.size (e0.trans E1)) fun a7 c7 w7 vt7 ho7 m7 hf7 => VL.op (R.asS rfl) (VL.nil (V.seq (?_)))))))))))))))
    have hM7 : Vc.Mod (aBlk a) w w7 := (E1.weaken fun _ _ h => h.elim).then m7 fun _ _ h => h
    have hf7' : ∀ q, aBlk a7 q → aBlk a q ∨ w.heap.size ≤ q := fun q hq => (hf7 q hq).imp id fun h => Nat.le_trans E1.size h
    have e7 : Ext w0 w7 := e0.ownA hM7 ho.ge
    have hT7 : IntSl w7 ta s := hT.mod hM7 fun ad h1 h2 => hsp ad.block ⟨ad, h1, rfl⟩ h2
    have hz7 := hM7.size
    refine V.region (VL.buildSl Tryz.runUnderlying22 Tryz.sizeOf3 Tryz.zeroValue3 rfl rfl rfl fun b8 w8 hb8 f8 hC8 => VL.op (R.mvS rfl) (VL.appendT el22 (fun _ => rfl) rfl (rfl) ((OwnT.of0 Vc.encI 1 hC8 (Nat.le_of_eq hb8.symm))) rfl ( hs.symm) ((hT7.ext f8)) (hax) (by simp; omega) (by simp [maxLen]; omega) f8.size (show 0 + N = N by omega) fun aI cI w9 hoI mI hfI => VL.op (R.asS rfl) (VL.nil (V.seq (?_)))))
    rw [List.nil_append] at hoI
    have E9 : Ext w7 w9 := f8.ownA mI fun x hx => by have := aBlk_some hx; omega
    refine V.region (VL.buildSl Tryz.runUnderlying22 Tryz.sizeOf3 Tryz.zeroValue3 rfl rfl rfl fun b10 w10 hb10 f10 hC10 => VL.op (R.mvS rfl) (VL.appendT el22 (fun _ => rfl) rfl (rfl) ((OwnT.of0 Vc.encI 1 hC10 (Nat.le_of_eq hb10.symm))) rfl ( hs.symm) ((hT7.ext (E9.trans f10))) (hax) (by simp; omega) (by simp [maxLen]; omega) f10.size (show 0 + N = N by omega) fun aJ cJ w11 hoJ mJ hfJ => VL.op (R.asS rfl) (VL.nil (V.seq (?_)))))
    rw [List.nil_append] at hoJ
    have E11 : Ext w9 w11 := f10.ownA mJ fun x hx => by have := aBlk_some hx; omega
    have hoI11 := hoI.ext E11
    refine V.region (VL.op (R.mvS rfl) (VL.op (R.mvI rfl) (VL.op (R.ixS Tryz.runUnderlying22 Tryz.sizeOf3 rfl rfl (by omega) (by omega) (hoI11.sl.some (i := v) (by omega))) (VL.ownSt eltI (v := .int _ _) Tryz.sizeOf3 (hoI11) v 0 1 rfl rfl (by omega) rfl rfl rfl rfl rfl fun w12 hoI12 m12 hs12 => VL.nil (V.seq (?_))))))
    have hoJ12 := hoJ.mod m12 fun k h1 h2 => by have := hoJ.ge k h1; have := hoI.lt k h2; omega
    refine V.region (VL.op (R.mvS rfl) (VL.op (R.mvI rfl) (VL.op (R.ixS Tryz.runUnderlying22 Tryz.sizeOf3 rfl rfl (by omega) (by omega) (hoJ12.sl.some (i := v) (by omega))) (VL.ownSt eltI (v := .int _ _) Tryz.sizeOf3 (hoJ12) v 0 2 rfl rfl (by omega) rfl rfl rfl rfl rfl fun w13 hoJ13 m13 hs13 => VL.nil (V.seq (?_))))))
    have hoI13 := hoI12.mod m13 fun k h1 h2 => by have := hoJ.ge k h2; have := hoI.lt k h1; omega
    have E13 : Ext w7 w13 := ((E9.trans E11).ownA m12 hoI.ge).ownA m13 fun x hx => by have := hoJ.ge x hx; have := E9.size; omega
    have e13 : Ext w0 w13 := e7.trans E13
    have hXg13 := (hXg.mod m7 fun h => by have := ho.lt b0_0 h; omega).ext E13
    have hlI : (s.set v 1).length = N := by rw [List.length_set]; exact hs
    have hlJ : (s.set v 2).length = N := by rw [List.length_set]; exact hs
    have ho13 := ho7.ext E13
    have hspI : Sep aI a7 := fun k h1 h2 => by have := hoI.ge k h1; have := ho7.lt k h2; omega
    have hspJ : Sep aJ a7 := fun k h1 h2 => by have := hoJ.ge k h1; have := ho7.lt k h2; have := E9.size; omega
    have hl7 : (S ++ [(⟨1, ((v : Nat) : Int), ((S.length : Nat) : Int) + 1, 0⟩ : St4)]).length = S.length + 1 := by simp
    have hr1 := ih f (Nat.lt_succ_self f) (v + 1) (s.set v 1) aI cI (S ++ [(⟨1, ((v : Nat) : Int), ((S.length : Nat) : Int) + 1, 0⟩ : St4)]) a7 c7 w13 (by omega) hlI e13 hoI13.sl hoI13.hax hoI13.lt hspI ho13 (by rw [hl7]; omega)
    rw [hl7] at hr1
    refine V.region (VL.op (R.ldA Tryz.isAgg25 Tryz.sizeOf25 rfl rfl ((show RowAt _ _ _ (encGr g) from hXg13.rowAt 0 3)) rfl) (VL.op (R.mvS rfl) (VL.op (R.mvB rfl) (VL.op (R.mvS rfl) (VL.op (R.mvS rfl) (VL.op (R.mvI rfl) (VL.op (R.add rfl rfl (by omega) (by omega)) (VL.callY Tryz.call49 rfl (hr1) fun r14 w14 h14 => VL.op (R.mvT rfl) (VL.op (R.extr rfl rfl) (VL.op (R.extr rfl rfl) (VL.op (R.asS rfl) (VL.op (R.asB rfl) (VL.nil (V.seq (V.seq (?_))))))))))))))))
    obtain ⟨aR, cR, oR⟩ := r14
    have ho14 := h14.o
    dsimp only at ho14
    have hM13 : Vc.Mod (aBlk a) w w13 := hM7.then E13 fun _ _ h => h.elim
    have hM14 : Vc.Mod (aBlk a) w w14 := hM13.then h14.m fun q hq hS => (hf7' q hS).resolve_right (by omega)
    have hz13 := hM13.size
    have hz14 := h14.m.size
    rw [← ho14]
    cases oR with
    | none =>
     obtain ⟨hn1, hn2⟩ := h14.n rfl
     dsimp only at hn1 hn2
     subst hn1
     subst hn2
     refine V.region (VL.op (R.mvB rfl) (VL.op (R.not rfl) (VL.nil (V.condT rfl (V.seq (V.region (VL.op (R.asS rfl) (VL.op (R.asB rfl) (VL.nil (V.ret (fret2 (v := .slice _ _ _) (x := .bool _) rfl rfl rfl rfl rfl (?_))))))))))))
     exact ⟨(none, 0, none), rfl, rfl, (fun S h => nomatch h), fun _ => ⟨rfl, rfl⟩, fun q hq => by (obtain ⟨x, h, _⟩ := hq; cases h), hM14⟩
    | some S1 =>
     rw [Option.bind_some]
     have hO14 : OwnT encS4 4 51 w0.heap.size w14 aR cR S1 := h14.s S1 rfl
     have hgd : ((some S1).getD []).length = S1.length := rfl
     have hgd2 : ((((aR, cR, some S1) : Option Addr × Nat × Option (List St4)).2.2).getD []).length = S1.length := rfl
     have hpf := grow_pfx _ _ _ _ _ ho14.symm
     have hpl := hpf.lt
     have hpe := hpf.le
     rw [hl7] at hpl hpe
     have hb7 : ¬ aBlk a7 b0_0 := fun hh => by
      rcases hf7 _ hh with h2 | h2
      ·have := ho.lt b0_0 h2; omega
      ·have := hXg.lt; omega
     have hbR : ∀ q, aBlk aR q → aBlk a7 q ∨ w13.heap.size ≤ q := h14.b
     have hX14 := hXg13.mod h14.m hb7
     have hoJ14 := hoJ13.mod h14.m fun k h1 h2 => hspJ k h1 h2
     have hspR : Sep aJ aR := fun k h1 h2 => (hbR k h2).elim (fun h3 => hspJ k h1 h3) fun h3 => by have := hoJ13.lt k h1; omega
     have e14 : Ext w0 w14 := e13.ownA h14.m ho13.ge
     refine V.region (VL.op (R.mvB rfl) (VL.op (R.not rfl) (VL.nil (V.condF rfl (V.skip (V.seq (?_)))))))
     refine V.region (VL.op (R.mvS rfl) (VL.op (R.mvI rfl) (VL.op (R.mvS rfl) (VL.op (R.lenS Tryz.runUnderlying27 rfl) (VL.op (R.ixS Tryz.runUnderlying27 Tryz.sizeOf51 rfl rfl (by omega) (show ((S.length : Nat) : Int) < ((S1.length : Nat) : Int) by omega) (hO14.sl.some (i := S.length) (by omega))) (VL.op (R.fld' (o := 3) Tryz.runUnderlying51 rfl rfl Tryz.sizeOf3 rfl rfl) (VL.ownSt eltS4 (v := .int _ _) Tryz.sizeOf3 (hO14) S.length 3 ({ S1.getD S.length default with o := ((S1.length : Nat) : Int) } : St4) rfl rfl (by omega) rfl rfl rfl rfl rfl fun w15 hO15 m15 hs15 => VL.nil (V.seq (?_)))))))))
     have hb15 : ¬ aBlk aR b0_0 := fun hh => (hbR _ hh).elim hb7 fun h3 => by have := hXg13.lt; omega
     have hX15 := hX14.mod m15 hb15
     have hoJ15 := hoJ14.mod m15 fun k h1 h2 => hspR k h1 h2
     have e15 : Ext w0 w15 := e14.ownA m15 hO14.ge
     have hM15 : Vc.Mod (aBlk a) w w15 := hM14.then m15 fun q hq hS => (hbR q hS).elim (fun h3 => (hf7' q h3).resolve_right (by omega)) fun h3 => by omega
     have hz15 := hM15.size
     have hr2 := ih f (Nat.lt_succ_self f) (v + 1) (s.set v 2) aJ cJ (S1.set S.length { S1.getD S.length default with o := ((S1.length : Nat) : Int) }) aR cR w15 (by omega) hlJ e15 hoJ15.sl hoJ15.hax hoJ15.lt hspR hO15 (by rw [List.length_set]; omega)
     rw [List.length_set] at hr2
     refine V.region (VL.op (R.ldA Tryz.isAgg25 Tryz.sizeOf25 rfl rfl ((show RowAt _ _ _ (encGr g) from hX15.rowAt 0 3)) rfl) (VL.op (R.mvS rfl) (VL.op (R.mvB rfl) (VL.op (R.mvS rfl) (VL.op (R.mvS rfl) (VL.op (R.mvI rfl) (VL.op (R.add rfl rfl (by omega) (by omega)) (VL.callY Tryz.call49 rfl (hr2) fun r17 w17 h17 => VL.op (R.extr rfl rfl) (VL.op (R.extr rfl rfl) (VL.op (R.asS rfl) (VL.op (R.asB rfl) (VL.nil (V.ret (fret2 (v := .slice _ _ _) (x := .bool _) rfl rfl rfl rfl rfl (⟨r17, rfl, h17.o, h17.s, h17.n, fun q hq => ?_, hM15.then h17.m fun q hq hS => (hbR q hS).elim (fun h3 => (hf7' q h3).resolve_right (by omega)) fun h3 => by omega⟩)))))))))))))))
     rcases h17.b q hq with h2 | h2
     ·rcases hbR q h2 with h3 | h3
      ·exact hf7' q h3
      ·exact .inr (by omega)
     ·exact .inr (by omega)
end Go.Proofs.YtmglkjigmcikdaaGreatDoor

/- Proof: the walk of law ProofComplete. -/
namespace Go.Proofs.YtmglkjigmcikdaaGreatDoor
open Go.Vc
set_option maxRecDepth 100000
set_option maxHeartbeats 16000000
theorem GwK.sl {w0 : World} {a : Option Addr} {o : Option (List St4)} {w : World} {r : Option Addr × Nat × Option (List St4)} {w' : World} (h : GwK w0 a o w r w') : TSl encS4 4 w' r.1 (o.getD []) := by
 have h1 := h.o
 cases o with
 | none => exact TSl.nil _ _ _ _
 | some S => exact (h.s S h1).sl
def PvU (o : Option (List St4)) (n : Nat) (a : Option Addr) (w : World) : Prop := TSl encS4 4 w a (o.getD []) ∧ ∀ q, aBlk a q → n ≤ q
theorem PvU.ext {o : Option (List St4)} {n : Nat} {a : Option Addr} {w w' : World} (h : PvU o n a w) (e : Ext w w') : PvU o n a w' := ⟨h.1.ext e, h.2⟩
def pvV (r : Option Addr × Nat × Option (List St4)) : Value := .tuple #[.agg #[.slice r.1 (r.2.2.getD []).length r.2.1], .bool r.2.2.isSome]
theorem rprove30_spec (g : GrW) (wa : Option Addr) (wc : Nat) (W : List WyI) (h : Bool) (N : Nat) (hR : RrR g W N) (hN8 : N ≤ 8) (w : World) (hG : GOk w g) (hW : WL w wa W) (o : Option (List St4)) (ho : growF ⟨g.n, vals g.edges, W.map wyV, h, []⟩ N 0 (List.replicate N 0) [] = o) :
  RetsX Tryz.prog 22 #[.agg (encGr g).toArray, .slice wa W.length wc, .bool h] w pvV (fun r w' => r.2.2 = o ∧ TSl encS4 4 w' r.1 (o.getD [])) := by
 have hn := hR.n
 refine enter (args := [_, _, _]) Tryz.func22 rfl Tryz.ntmps22 (by kernel_rfl) rfl ?_
 refine V.seq (V.region (VL.box (v := .agg _) rfl fun b0_0 w0_0 hb0_0 e0_0 hB0_0 => VL.alloc Tryz.zeroValue29 fun b0_1 w0_1 hb0_1 e0_1 hB0_1 => VL.op (R.asB rfl) (VL.nil (V.seq (V.seq (V.region (VL.op (R.fld' (o := 0) Tryz.runUnderlying25 rfl rfl Tryz.sizeOf3 rfl rfl) (VL.op (R.ld1 Tryz.isAgg3 rfl ((show _ = some (Value.int .i64 ((N : Nat) : Int)) from by rw [← hn]; exact (hB0_0.ext e0_1).cell 0))) (VL.op (R.lit (R.gtr rfl rfl) ((decide_eq_false (by omega)))) (VL.nil (V.condF rfl (V.skip (V.seq (?_))))))))))))))
 have E0 : Ext w w0_1 := e0_0.trans e0_1
 have hXg := hB0_0.ext e0_1
 refine V.regionS mixed 11 (by kernel_rfl) rfl (fun us => VS.op (fun wq eq => R.ldA Tryz.isAgg25 Tryz.sizeOf25 rfl rfl ((show RowAt _ _ _ (encGr g) from (hXg.ext eq).rowAt 0 3)) rfl) (VS.op (fun wq eq => R.mvS rfl) (VS.op (fun wq eq => R.mvB rfl) (VS.op (fun wq eq => R.fld' (o := 0) Tryz.runUnderlying25 rfl rfl Tryz.sizeOf3 rfl rfl) (VS.op (fun wq eq => R.ld1 Tryz.isAgg3 rfl ((show wq.cell? ⟨b0_0, 0, none⟩ = some (Value.int .i64 ((N : Nat) : Int)) from by rw [← hn]; exact (hXg.ext eq).cell 0))) (VS.spec (fun u w' => ∃ b, u = .slice (some ⟨b, 0, none⟩) N N ∧ OwnT Vc.encI 1 3 w0_1.heap.size w' (some ⟨b, 0, none⟩) N (List.replicate N (0 : Int))) (fun u a b _ ⟨c, hc, h1⟩ eb => ⟨c, hc, h1.ext eb⟩) rfl (fun wq eq hq => yieldsR_make el22 (0 : Int) rfl rfl rfl (by omega) (by unfold maxLen; omega) eq.size fun b w' hb he hO => ⟨⟨b, rfl, hO⟩, he⟩) (VS.callX (fun u w' => ∃ a c, u = .tuple #[.slice a (o.getD []).length c, .bool o.isSome] ∧ PvU o w0_1.heap.size a w') (fun u a b _ ⟨c, d, hc, h1⟩ eb => ⟨c, d, hc, h1.ext eb⟩) Tryz.call49 rfl (fun wq eq hq => by
    obtain ⟨b, hb, hO⟩ := hq 5 (by kernel_rfl)
    rw [hb]
    refine Rets.mono (rgrow30_spec g wa wc W h N hR _ rfl wq (hG.ext (E0.trans eq)) (hW.ext (E0.trans eq)) N 0 (List.replicate N 0) (some ⟨b, 0, none⟩) N [] none 0 wq (by omega) (by simp) (Vc.Mod.refl _ _) hO.sl (fun h => by cases h) hO.lt (fun k _ h2 => by (obtain ⟨x, h, _⟩ := h2; cases h)) (OwnT.nil _ _ _ _ _) (by have : 2 ^ (N + 1) ≤ 2 ^ 9 := Nat.pow_le_pow_right (by decide) (by omega); simp only [List.length_nil]; omega)) ?_
    rintro u w' ⟨⟨a, c, o2⟩, hu, hk⟩
    have h5 := hk.o
    have h6 := hk.sl
    dsimp only at h5 h6
    rw [ho] at h5 h6
    subst h5
    exact ⟨⟨a, c, hu, h6, fun q hq => (hk.b q hq).elim (fun h => by (obtain ⟨x, h, _⟩ := h; cases h)) fun h => Nat.le_trans eq.size h⟩, hk.m.weaken fun q _ h2 => by (obtain ⟨x, h, _⟩ := h2; cases h)⟩) (VS.spec (fun u w' => ∃ a c, u = .tuple #[.slice a (o.getD []).length c, .bool o.isSome] ∧ PvU o w0_1.heap.size a w') (fun u a b _ ⟨c, d, hc, h1⟩ eb => ⟨c, d, hc, h1.ext eb⟩) rfl (fun wq eq hq => by
    obtain ⟨a, c, hu, hk⟩ := hq 6 (by kernel_rfl)
    exact yieldsR_op (R.mv hu) ⟨⟨a, c, rfl, hk⟩, Vc.Mod.refl _ _⟩) (VS.spec (fun u w' => ∃ a c, u = .slice a (o.getD []).length c ∧ PvU o w0_1.heap.size a w') (fun u a b _ ⟨c, d, hc, h1⟩ eb => ⟨c, d, hc, h1.ext eb⟩) rfl (fun wq eq hq => by
    obtain ⟨a, c, hu, hk⟩ := hq 7 (by kernel_rfl)
    exact yieldsR_op (R.extr hu rfl) ⟨⟨a, c, rfl, hk⟩, Vc.Mod.refl _ _⟩) (VS.spec (fun u _ => u = .bool o.isSome) (fun u a b _ h eb => h) rfl (fun wq eq hq => by
    obtain ⟨a, c, hu, hk⟩ := hq 7 (by kernel_rfl)
    exact yieldsR_op (R.extr hu rfl) ⟨rfl, Vc.Mod.refl _ _⟩) (VS.spec (fun u w' => ∃ a c, u = .slice a (o.getD []).length c ∧ PvU o w0_1.heap.size a w') (fun u a b _ ⟨c, d, hc, h1⟩ eb => ⟨c, d, hc, h1.ext eb⟩) rfl (fun wq eq hq => by
    obtain ⟨a, c, hu, hk⟩ := hq 8 (by kernel_rfl)
    exact yieldsR_op (R.as hu) ⟨⟨a, c, rfl, hk⟩, Vc.Mod.refl _ _⟩) (VS.nil (fun w3 e3 h3 => ?_))))))))))))) rfl
 obtain ⟨a, c, hu, hk⟩ := h3 10
 have h9 : us 9 = .bool o.isSome := h3 9
 rw [hu, h9]
 refine VL.op (R.asB rfl) (VL.nil (V.seq (?_)))
 have E3 : Ext w0_1 w3 := e3
 refine V.region (VL.op (R.mvS rfl) (VL.op (R.build Tryz.zeroValue29 Tryz.runUnderlying29 pl29 rfl) (VL.op (R.mvB rfl) (VL.store (v := .agg _) Tryz.sizeOf29 rfl rfl rfl rfl (hB0_1.ext e3) rfl rfl fun w4 m4 hs4 hB4 => VL.op (R.asB rfl) (VL.nil (V.ret (fretCT (v := .bool _) rfl rfl rfl rfl rfl Tryz.isAgg29 Tryz.sizeOf29 rfl ?_ rfl (⟨(a, c, o), rfl, ⟨rfl, ?_⟩, ?_⟩))))))))
 ·exact hB4.rowAt 0 1
 ·exact hk.1.mod m4 fun ad h1 h2 => by
   have h5 := hk.2 ad.block ⟨ad, h1, rfl⟩
   have h6 : ad.block = b0_1 := h2
   have := hB0_1.lt
   omega
 ·refine (E0.trans E3).ownA m4 fun q hq => ?_
  have h6 : q = b0_1 := hq
  have := e0_0.size
  omega
end Go.Proofs.YtmglkjigmcikdaaGreatDoor
