/- Repair: Count, joined. -/
import Derived.Test.YtlnbkoojelhjdaaGreatDoorXR8
namespace Go.Proofs.YtlnbkoojelhjdaaGreatDoor
open Go.Vc
/-- The product, as far as it may go. -/
def cntR : List Int → Int → Int × Int
  | [], p => (p, 0)
  | x :: l, p => if 1000000000 < x ∨ 1000000000 < p * x then (0, 2) else cntR l (p * x)
theorem cntR_cons (x : Int) (l : List Int) (p : Int) : cntR (x :: l) p = if 1000000000 < x ∨ 1000000000 < p * x then (0, 2) else cntR l (p * x) := rfl
def cntL (G : Gr) : Int := ((repsG G).length : Nat)
def countG (g : Gr) : Int × Int := if partsE g = 0 then cntR ((compsG g).map fun c => cntL (partG g c)) 1 else (0, partsE g)
theorem drop_at {l : List Int} {k : Nat} (h : k < l.length) : l.drop k = l.getD k default :: l.drop (k + 1) := by
  rw [List.drop_eq_getElem_cons h, gget h]
set_option maxRecDepth 100000 in
set_option maxHeartbeats 8000000 in
theorem count_spec (g : GrW) (B : Nat) (w : World) (hG : GOk w g) (hl : GLen g) (hB : B ≤ w.heap.size) (hT : TabW B w) :
    RetsX Tryz.prog 23 #[.agg (encGr g).toArray] w (fun x : Int × Int => .tuple #[.int .i64 x.1, .int .i64 x.2]) (fun x _ => x = countG (grV g)) := by
  refine enter (args := [_]) Tryz.func23 rfl Tryz.ntmps23 (by kernel_rfl) rfl ?_
  have hspec := fun w' hG' hB' hT' => partsI_spec 55 cntL g B w' Tryz.call55 hG' hl hB' hT' (fun g' va w' h1 h2 h3 h4 => count1_spec g' va w' h1 h2 h3 h4)
  refine V.seq (V.region (VL.box (v := .agg _) rfl fun b0_0 w0_0 hb0_0 e0_0 hB0_0 => VL.op (R.asI rfl) (VL.op (R.asI rfl) (VL.nil (V.seq (V.region (VL.op (R.ldA Tryz.isAgg25 Tryz.sizeOf25 rfl rfl ((show RowAt _ _ _ (encGr g) from (hB0_0.rowAt 0 3))) rfl) (VL.callX Tryz.call54 rfl (hspec _ (hG.ext e0_0) (Nat.le_trans hB (e0_0).size) (hT.ext hB e0_0)) fun x1 w1 h1 e1 => VL.op (R.mvT rfl) (VL.op (R.extr rfl rfl) (VL.op (R.extr rfl rfl) (VL.op (R.asS rfl) (VL.op (R.asI rfl) (VL.nil (V.seq (V.seq (V.region (VL.op (R.mvI rfl) (VL.op (R.neq rfl rfl) (VL.nil (V.condP rfl (fun c15 => V.seq (?_)) (fun c15 => V.skip (V.seq (?_)))))))))))))))))))))))
  · obtain ⟨_, h2⟩ := h1
    refine V.region (VL.op (R.mvI rfl) (VL.op (R.asI rfl) (VL.op (R.asI rfl) (VL.nil (V.ret (fret2 (v := .int _ _) (x := .int _ _) rfl rfl rfl rfl rfl (?_)))))))
    refine ⟨(0, x1.2.2.2), rfl, ?_, e0_0.trans e1⟩
    have h3 := congrArg Prod.snd h2
    unfold partsI at h3
    by_cases hz : partsE (grV g) = 0
    · rw [if_pos hz] at h3
      exact absurd h3 c15
    · rw [if_neg hz] at h3
      unfold countG
      rw [if_neg hz, h3]
  · obtain ⟨ho, h2⟩ := h1
    obtain ⟨a, c, l, er⟩ := x1
    have c15 : er = 0 := by simpa using c15
    dsimp only at ho h2 c15 ⊢
    have hz : partsE (grV g) = 0 := by
      refine Classical.byContradiction fun hz => ?_
      unfold partsI at h2
      rw [if_neg hz] at h2
      have := congrArg Prod.snd h2
      exact hz (this.symm.trans c15)
    have hL : l = (compsG (grV g)).map fun c => cntL (partG (grV g) c) := by
      unfold partsI at h2
      rw [if_pos hz] at h2
      exact congrArg Prod.fst h2
    have hv : validG (grV g) = true := by
      cases hh : validG (grV g) with
      | true => rfl
      | false => unfold partsE at hz; rw [hh, if_neg (by decide)] at hz; cases hz
    have hlen : l.length ≤ 4000 := by
      have h1 := comps_len hv
      have h3 := costB_iff.1 (validG_iff.1 hv).1
      have h0 : (grV g).n ≤ 4000 := h3.2.1
      rw [hL, List.length_map]
      omega
    have hpos : ∀ x ∈ l, 0 ≤ x := fun x hx => by
      rw [hL] at hx
      obtain ⟨c, _, rfl⟩ := List.mem_map.1 hx
      unfold cntL
      omega
    have hcnt : countG (grV g) = cntR l 1 := by unfold countG; rw [if_pos hz, ← hL]
    have E1 := e0_0.trans e1
    refine V.region (VL.op (R.asI rfl) (VL.nil (V.seq (V.seq (V.region (VL.op (R.mvS rfl) (VL.op (R.lenS Tryz.runUnderlying22 rfl) (VL.op (R.mvI rfl) (VL.nil (V.block (?_)))))))))))
    refine V.loop [6, 17, 18, 19] (fun x : Nat × Int => [.int .i64 x.2, .slice a l.length c, .int .i64 (l.length : Nat), .int .i64 (x.1 : Nat)])
      (fun x w' => x.1 ≤ l.length ∧ cntR l 1 = cntR (l.drop x.1) x.2 ∧ 0 ≤ x.2 ∧ x.2 ≤ 1000000000 ∧ Ext w1 w') (fun x => l.length - x.1) (0, 1) rfl ⟨Nat.zero_le _, rfl, by decide, by decide, Vc.Mod.refl _ _⟩ ?_
    rintro ρ ⟨k, p⟩ w5 ⟨hk, hc, hp0, hp1, e5⟩
    dsimp only at hk hc hp0 hp1 e5 ⊢
    have ho5 := (ho.ext e5).sl
    refine V.seq (V.region (VL.op (R.lss rfl rfl) (VL.nil (V.seq (V.condP rfl (fun c20 => V.skip (V.seq (V.block (V.seq (?_))))) (fun c20 => V.exit (V.seq (?_))))))))
    · have hkl : k < l.length := by omega
      have hx0 := hpos _ (gmem hkl)
      have hmb : l.getD k default ≤ 1000000000 → 0 ≤ p * l.getD k default ∧ p * l.getD k default ≤ 1000000000000000000 := fun h => ⟨Int.mul_nonneg hp0 hx0, by
        have := Int.mul_le_mul hp1 h hx0 (by decide)
        omega⟩
      rw [drop_at hkl, cntR_cons] at hc
      refine V.region (VL.op (R.ixS Tryz.runUnderlying22 Tryz.sizeOf3 rfl rfl (by omega) (by omega) ((ho5).some (i := k) (by omega))) (VL.op (R.ld1 Tryz.isAgg3 rfl (((((ho5).ext (Mod.refl _ _)).row (i := k) (by omega)).cell (i := 0) rfl))) (VL.op (R.asI rfl) (VL.nil (V.seq (V.seq (V.region (VL.op (R.mvI rfl) (VL.op (R.gtr rfl rfl) (VL.op (R.mvB rfl) (VL.orP rfl rfl (fun g8_2 => VL.op (R.mvI rfl) (VL.gT rfl rfl (VL.op (R.mvI rfl) (VL.gT rfl rfl (VL.op (R.mul rfl rfl (by have := hmb (by omega); omega) (by have := hmb (by omega); omega)) (VL.gT rfl rfl (VL.op (R.gtr rfl rfl) (VL.op (R.pickFB rfl rfl) (VL.nil (V.condP rfl (fun c30 => V.seq (V.region (VL.op (R.asI rfl) (VL.op (R.asI rfl) (VL.nil (V.ret (fret2 (v := .int _ _) (x := .int _ _) rfl rfl rfl rfl rfl (?_)))))))) (fun c30 => V.skip (V.region (VL.op (R.mvI rfl) (VL.op (R.mvI rfl) (VL.op (R.mul rfl rfl (by have := hmb (by omega); omega) (by have := hmb (by omega); omega)) (VL.op (R.asI rfl) (VL.nil (V.region (VL.op (R.add rfl rfl (by omega) (by omega)) (VL.op (R.mvI rfl) (VL.nil (?_)))))))))))))))))))))) (fun g8_2 => VL.gF rfl rfl (VL.gF rfl rfl (VL.gF rfl rfl (VL.op (R.pickTB rfl rfl) (VL.nil (V.condT rfl (V.seq (V.region (VL.op (R.asI rfl) (VL.op (R.asI rfl) (VL.nil (V.ret (fret2 (v := .int _ _) (x := .int _ _) rfl rfl rfl rfl rfl (?_)))))))))))))))))))))))))
      · exact ⟨(0, 2), rfl, by rw [hcnt, hc, if_pos (.inr (by assumption))], E1.trans e5⟩
      · refine ⟨(k + 1, p * l.getD k default), rfl, ⟨by dsimp only; omega, ?_, (hmb (by omega)).1, by dsimp only; omega, e5⟩, by dsimp only; omega⟩
        dsimp only
        rw [hc, if_neg fun h => h.elim (by assumption) (by assumption)]
      · exact ⟨(0, 2), rfl, by rw [hcnt, hc, if_pos (.inl (by assumption))], E1.trans e5⟩
    · have hke : k = l.length := by omega
      subst hke
      refine V.region (VL.op (R.mvI rfl) (VL.op (R.asI rfl) (VL.op (R.asI rfl) (VL.nil (V.ret (fret2 (v := .int _ _) (x := .int _ _) rfl rfl rfl rfl rfl (?_)))))))
      refine ⟨(p, 0), rfl, ?_, E1.trans e5⟩
      rw [hcnt, hc, List.drop_length]
      rfl
end Go.Proofs.YtlnbkoojelhjdaaGreatDoor
