/- Repair: Cheapest. -/
import Derived.Test.YtlnbkoojelhjdaaGreatDoorXR11
import Derived.Test.YtlnbkoojelhjdaaGreatDoorXH8
namespace Go.Proofs.YtlnbkoojelhjdaaGreatDoor
open Go.Vc
theorem foldl_inv {α β : Type} {P : β → Prop} {f : β → α → β} : ∀ (l : List α) (b : β), P b → (∀ b r, r ∈ l → P b → P (f b r)) → P (l.foldl f b)
  | [], _, h, _ => h
  | x :: l, b, h, hs => foldl_inv l (f b x) (hs b x (by simp) h) fun b r hr hb => hs b r (by simp [hr]) hb
theorem chF_bnd {cost vs : List Int} {L : List (List Int)} (hc : ∀ x ∈ cost, 0 ≤ x ∧ x ≤ 1000000000) (hL : ∀ r ∈ L, r.length ≤ 40) : (chF cost vs L).1.length ≤ 40 ∧ -1 ≤ (chF cost vs L).2 ∧ (chF cost vs L).2 ≤ 40000000000 := by
  refine foldl_inv (P := fun b : List Int × Int => b.1.length ≤ 40 ∧ -1 ≤ b.2 ∧ b.2 ≤ 40000000000) L ([], -1) ⟨by decide, by decide, by decide⟩ fun b r hr hb => ?_
  unfold stepC
  split
  · have h1 := selC_bnd (r := r) hc r.length
    have h2 := hL r hr
    have h3 : selC cost r r.length = costR cost r := by unfold selC costR; rw [List.take_length]
    rw [h3] at h1
    refine ⟨by rw [List.length_map]; exact h2, ?_, ?_⟩
    · dsimp only; omega
    · dsimp only; omega
  · exact hb
def catK (L : List ChI) (k : Nat) : List Int := ((L.take k).map fun y => y.s.l).flatten
def sumK (L : List ChI) (k : Nat) : Int := sm ((L.take k).map fun y => y.k)
theorem catK_succ {L : List ChI} {k : Nat} (h : k < L.length) : catK L (k + 1) = catK L k ++ (L.getD k default).s.l := by
  unfold catK
  rw [List.take_succ_eq_append_getElem h, List.map_append, List.flatten_append, gget h]
  simp
theorem sumK_succ {L : List ChI} {k : Nat} (h : k < L.length) : sumK L (k + 1) = sumK L k + (L.getD k default).k := by
  unfold sumK
  rw [List.take_succ_eq_append_getElem h, List.map_append, gget h]
  exact sm_snoc _ _
theorem catK_len {L : List ChI} (h : ∀ y ∈ L, y.s.l.length ≤ 40) : ∀ k, k ≤ L.length → (catK L k).length ≤ 40 * k := by
  intro k
  induction k with
  | zero => intro _; exact Nat.le_refl _
  | succ k ih =>
    intro hk
    rw [catK_succ (by omega), List.length_append]
    have := ih (by omega)
    have := h _ (gmem (show k < L.length by omega))
    omega
theorem sumK_bnd {L : List ChI} (h : ∀ y ∈ L, -1 ≤ y.k ∧ y.k ≤ 40000000000) : ∀ k, k ≤ L.length → -(k : Int) ≤ sumK L k ∧ sumK L k ≤ 40000000000 * (k : Int) := by
  intro k
  induction k with
  | zero => intro _; exact ⟨Int.le_refl _, Int.le_refl _⟩
  | succ k ih =>
    intro hk
    rw [sumK_succ (by omega)]
    have := ih (by omega)
    have := h _ (gmem (show k < L.length by omega))
    omega
/-- The cheapest repair of all. -/
def cheapG (g : Gr) : (List Int × Int) × Int := if partsE g = 0 then ((srtF ((partsC g).1.map fun y => y.1).flatten, sm ((partsC g).1.map fun y => y.2)), 0) else (([], 0), partsE g)
set_option maxRecDepth 100000 in
set_option maxHeartbeats 8000000 in
theorem cheapest_spec (g : GrW) (B : Nat) (w : World) (hG : GOk w g) (hl : GLen g) (hB : B ≤ w.heap.size) (hT : TabW B w) :
    RetsX Tryz.prog 25 #[.agg (encGr g).toArray] w (fun x : SlI × Int × Int => .tuple #[.slice x.1.a x.1.l.length x.1.c, .int .i64 x.2.1, .int .i64 x.2.2]) (fun x w' => OwnT Vc.encI 1 3 w.heap.size w' x.1.a x.1.c x.1.l ∧ ((x.1.l, x.2.1), x.2.2) = cheapG (grV g)) := by
  refine enter (args := [_]) Tryz.func25 rfl Tryz.ntmps25 (by kernel_rfl) rfl ?_
  refine V.seq (V.region (VL.box (v := .agg _) rfl fun b0_0 w0_0 hb0_0 e0_0 hB0_0 => VL.op (R.asS rfl) (VL.op (R.asI rfl) (VL.op (R.asI rfl) (VL.nil (V.seq (V.region (VL.op (R.ldA Tryz.isAgg25 Tryz.sizeOf25 rfl rfl ((show RowAt _ _ _ (encGr g) from (hB0_0.rowAt 0 3))) rfl) (VL.callX Tryz.call57 rfl (partsC_spec g B _ (hG.ext e0_0) hl (Nat.le_trans hB (e0_0).size) (hT.ext hB e0_0)) fun x1 w1 h1 e1 => VL.op (R.mvT rfl) (VL.op (R.extr rfl rfl) (VL.op (R.extr rfl rfl) (VL.op (R.asS rfl) (VL.op (R.asI rfl) (VL.nil (V.seq (V.seq (V.region (VL.op (R.mvI rfl) (VL.op (R.neq rfl rfl) (VL.nil (V.condP rfl (fun c17 => V.seq (?_)) (fun c17 => V.skip (V.seq (?_))))))))))))))))))))))))
  · obtain ⟨_, h2⟩ := h1
    refine V.region (VL.op (R.mvI rfl) (VL.op (R.asS rfl) (VL.op (R.asI rfl) (VL.op (R.asI rfl) (VL.nil (V.ret (fret3 (v := .slice _ _ _) (x := .int _ _) (y := .int _ _) rfl rfl rfl rfl rfl rfl rfl (?_))))))))
    refine ⟨(⟨none, 0, []⟩, 0, x1.2.2.2), rfl, ⟨OwnT.nil _ _ _ _ _, ?_⟩, e0_0.trans e1⟩
    have h3 := congrArg Prod.snd h2
    unfold partsC at h3
    by_cases hz : partsE (grV g) = 0
    · rw [if_pos hz] at h3
      exact absurd h3 c17
    · rw [if_neg hz] at h3
      unfold cheapG
      rw [if_neg hz]
      dsimp only at h3 ⊢
      rw [h3]
  · obtain ⟨ho, h2⟩ := h1
    obtain ⟨a, c, L, er⟩ := x1
    have c17 : er = 0 := by simpa using c17
    dsimp only at ho h2 c17 ⊢
    have hz : partsE (grV g) = 0 := by
      refine Classical.byContradiction fun hz => ?_
      unfold partsC at h2
      rw [if_neg hz] at h2
      have := congrArg Prod.snd h2
      exact hz (this.symm.trans c17)
    have hL : L.map chV = (partsC (grV g)).1 := congrArg Prod.fst h2
    have hv : validG (grV g) = true := by
      cases hh : validG (grV g) with
      | true => rfl
      | false => unfold partsE at hz; rw [hh, if_neg (by decide)] at hz; cases hz
    have hPl : (partsC (grV g)).1 = (compsG (grV g)).map fun c => chF (partG (grV g) c).cost c (repsG (partG (grV g) c)) := by unfold partsC; rw [if_pos hz]
    have hlen : L.length ≤ 4000 := by
      have h1 := comps_len hv
      have h3 := costB_iff.1 (validG_iff.1 hv).1
      have h0 : (grV g).n ≤ 4000 := h3.2.1
      have := congrArg List.length hL
      rw [hPl, List.length_map, List.length_map] at this
      omega
    have hbd : ∀ y ∈ L, y.s.l.length ≤ 40 ∧ -1 ≤ y.k ∧ y.k ≤ 40000000000 := fun y hy => by
      have h1 : chV y ∈ (partsC (grV g)).1 := by rw [← hL]; exact List.mem_map_of_mem hy
      rw [hPl] at h1
      obtain ⟨cc, hcc, he⟩ := List.mem_map.1 h1
      have hset := comps_set hv hcc
      have hpv := part_valid hv hset
      have hcb := costB_iff.1 (validG_iff.1 hpv).1
      have h40 : cc.length ≤ 40 := by
        unfold partsE at hz
        rw [if_pos hv] at hz
        have h3 : (compsG (grV g)).any (fun c => decide (40 < c.length)) = false := by
          cases hh : (compsG (grV g)).any (fun c => decide (40 < c.length)) with
          | false => rfl
          | true => rw [hh, if_pos rfl] at hz; cases hz
        have := List.any_eq_false.1 h3 _ hcc
        simpa using this
      have := chF_bnd (vs := cc) (L := repsG (partG (grV g) cc)) hcb.2.2.2 fun r hr => by
        have h5 := setB_iff.1 ((reps_mem hpv).1 hr).set
        have h6 := set_len h5.1 h5.2 hcb.1
        have h7 : (partG (grV g) cc).n = (cc.length : Int) := rfl
        omega
      rw [he] at this
      exact this
    have E1 := e0_0.trans e1
    refine V.region (VL.op (R.asS rfl) (VL.nil (V.seq (V.region (VL.op (R.asI rfl) (VL.nil (V.seq (V.seq (V.region (VL.op (R.mvS rfl) (VL.op (R.lenS Tryz.runUnderlying75 rfl) (VL.op (R.mvI rfl) (VL.nil (V.block (?_)))))))))))))))
    refine V.loop [7, 8, 19, 20, 21] (fun x : Nat × Option Addr × Nat => [.slice x.2.1 (catK L x.1).length x.2.2, .int .i64 (sumK L x.1), .slice a L.length c, .int .i64 (L.length : Nat), .int .i64 (x.1 : Nat)])
      (fun x w' => x.1 ≤ L.length ∧ OwnT Vc.encI 1 3 w1.heap.size w' x.2.1 x.2.2 (catK L x.1) ∧ Ext w1 w') (fun x => L.length - x.1) (0, none, 0) rfl ⟨Nat.zero_le _, OwnT.nil _ _ _ _ _, Vc.Mod.refl _ _⟩ ?_
    rintro ρ ⟨k, a7, c7⟩ w5 ⟨hk, ho7, e5⟩
    dsimp only at hk ho7 e5 ⊢
    have ho5 := ho.ext e5
    have hcl := catK_len (fun y hy => (hbd y hy).1) k hk
    have hsb := sumK_bnd (fun y hy => (hbd y hy).2) k hk
    refine V.seq (V.region (VL.op (R.lss rfl rfl) (VL.nil (V.seq (V.condP rfl (fun c22 => V.skip (V.seq (V.block (V.seq (?_))))) (fun c22 => V.exit (V.seq (?_))))))))
    · have hkl : k < L.length := by omega
      have hb := hbd _ (gmem hkl)
      have hsl := ho5.each _ (gmem hkl)
      refine V.region (VL.op (R.ixS Tryz.runUnderlying75 Tryz.sizeOf79 rfl rfl (by omega) (by omega) (ho5.own.sl.some (i := k) hkl)) (VL.op (R.ldA Tryz.isAgg79 Tryz.sizeOf79 rfl rfl ((show RowAt _ _ _ (encCh (L.getD k default)) from (ho5.own.sl.row (i := k) hkl))) rfl) (VL.allocSt (v := .agg (encCh (L.getD k default)).toArray) Tryz.zeroValue79 Tryz.sizeOf79 rfl rfl rfl rfl rfl fun b8_2 w8_2 hb8_2 e8_2 hB8_2 => VL.nil (V.seq (?_)))))
      refine V.region (VL.op (R.mvS rfl) (VL.op (R.fld' (o := 0) Tryz.runUnderlying79 rfl rfl Tryz.sizeOf22 rfl rfl) (VL.op (R.ld1 Tryz.isAgg22 rfl ((hB8_2.cell 0))) (VL.appendT el22 (fun _ => rfl) rfl (rfl) ((ho7.ext e8_2)) rfl (rfl) ((hsl.sl.ext e8_2)) ((fun h => hsl.hax h)) (by omega) (by unfold maxLen; omega) (e5.trans e8_2).size rfl fun a9 c9 w9 ho9 m9 hf9 => VL.op (R.asS rfl) (VL.nil (?_))))))
      have off9 : ¬ aBlk a7 b8_2 := (OwnT.tyA (ho7.ext e8_2)).apart hB8_2 (by decide)
      have hB9 := hB8_2.mod m9 off9
      have e9 := (e5.trans e8_2).ownA m9 fun q hq => ho7.ge q hq
      refine V.region (VL.op (R.mvI rfl) (VL.op (R.fld' (o := 1) Tryz.runUnderlying79 rfl rfl Tryz.sizeOf3 rfl rfl) (VL.op (R.ld1 Tryz.isAgg3 rfl ((hB9.cell 1))) (VL.op (R.add rfl rfl (by omega) (by omega)) (VL.op (R.asI rfl) (VL.nil (V.region (VL.op (R.add rfl rfl (by omega) (by omega)) (VL.op (R.mvI rfl) (VL.nil (?_)))))))))))
      refine ⟨(k + 1, a9, c9), ?_, ⟨by dsimp only; omega, ?_, e9⟩, by dsimp only; omega⟩
      · dsimp only
        rw [catK_succ hkl, sumK_succ hkl, List.length_append]
        rfl
      · dsimp only
        rw [catK_succ hkl]
        exact ho9
    · have hke : k = L.length := by omega
      subst hke
      refine V.region (VL.op (R.mvS rfl) (VL.callK Tryz.call59 rfl (sortI_spec a7 c7 w1.heap.size (catK L L.length) _ ho7 (by omega)) fun w12 h12 => VL.nil (V.seq (V.region (VL.op (R.mvS rfl) (VL.op (R.mvI rfl) (VL.op (R.asS rfl) (VL.op (R.asI rfl) (VL.op (R.asI rfl) (VL.nil (V.ret (fret3 (v := .slice _ _ _) (x := .int _ _) (y := .int _ _) rfl rfl rfl rfl rfl rfl rfl (?_)))))))))))))
      refine ⟨(⟨a7, c7, srtF (catK L L.length)⟩, sumK L L.length, 0), ?_, ⟨h12.2.weaken E1.size, ?_⟩, (E1.trans e5).ownA h12.1 fun q hq => Nat.le_trans E1.size (ho7.ge q hq)⟩
      · dsimp only
        rw [srtF_len]
      · dsimp only
        unfold cheapG
        rw [if_pos hz, ← hL, List.map_map, List.map_map]
        unfold catK sumK
        rw [List.take_length]
        rfl
end Go.Proofs.YtlnbkoojelhjdaaGreatDoor
