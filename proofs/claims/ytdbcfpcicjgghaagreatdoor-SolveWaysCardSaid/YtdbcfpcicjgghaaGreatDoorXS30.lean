/- Solve: the same ways in another order, more ways. Plain. -/
import Derived.Test.YtdbcfpcicjgghaaGreatDoorXS28
namespace Go.Proofs.YtdbcfpcicjgghaaGreatDoor
open Go.Vc
theorem named_len {g : Gr} {W : List Wy} (hr : readyG g W = true) : (ptI g W).length ≤ g.n.toNat := by
 have hv := (ready_ok hr true []).v
 have hn0 := (costB_iff.1 (validG_iff.1 hv).1).1
 have := set_len (srt_lt (ptL_nd hv W)) (fun v hvm => ptI_rng hv hvm) hn0
 unfold ptI
 omega
theorem dc_small {g : Gr} {W : List Wy} (he : errG g W = 0) (hn : g.n ≤ 4000) (hp : (ptI g W).length ≤ 15) : (decideF g W).2 = 0 := by
 rcases decide_cases he with ⟨R, Q, h1, _⟩ | ⟨R, S, h1, _⟩ | ⟨Q, S, h1, _⟩ | ⟨h1, h2 | h2⟩
 ·rw [h1]
 ·rw [h1]
 ·rw [h1]
 ·exact absurd h2 (exists_small he hn hp)
 ·exact absurd h2 (exists_small he hn hp)
theorem dc_code {g : Gr} {W : List Wy} (hn : g.n ≤ 4000) (hp : (ptI g W).length ≤ 15) : (decideF g W).2 = errG g W := by
 by_cases he : errG g W = 0
 ·rw [dc_small he hn hp, he]
 ·rw [decide_err he]
theorem ready_len {g : Gr} {W : List Wy} (hn : g.n ≤ 15) : errG g W = (if readyG g W = true then 0 else 1) ∧ (decideF g W).2 = errG g W := by
 by_cases hr : readyG g W = true
 ·have h1 := named_len hr
  have h2 : errG g W = 0 := by
   unfold errG
   rw [if_pos hr, if_neg (by omega)]
  exact ⟨by rw [h2, if_pos hr], dc_code (by omega) (by omega)⟩
 ·have h2 : errG g W = 1 := by unfold errG; rw [if_neg hr]
  exact ⟨by rw [h2, if_neg hr], by rw [decide_err (by rw [h2]; decide)]⟩
theorem some_congr {W V : List Wy} (hm : ∀ x, x ∈ W ↔ x ∈ V) (R : List Int) : someW W R = someW V R := by
 unfold someW
 rw [Bool.eq_iff_iff, List.any_eq_true, List.any_eq_true]
 exact ⟨fun ⟨x, h1, h2⟩ => ⟨x, (hm x).1 h1, h2⟩, fun ⟨x, h1, h2⟩ => ⟨x, (hm x).2 h1, h2⟩⟩
theorem ready_congr {g : Gr} {W V : List Wy} (hl : W.length = V.length) (hm : ∀ x, x ∈ W ↔ x ∈ V) : readyG g W = readyG g V := by
 unfold readyG
 rw [hl]
 congr 1
 rw [Bool.eq_iff_iff, List.all_eq_true, List.all_eq_true]
 exact ⟨fun h x hx => h x ((hm x).2 hx), fun h x hx => h x ((hm x).1 hx)⟩
theorem fst_uniq {g : Gr} {W V : List Wy} {h : Bool} {R Q : List Int} (hR : FstR g W h R) (hQ : FstR g V h Q) (hs : ∀ X, someW W X = someW V X) : R = Q := by
 rcases hR.f Q hQ.r (by rw [hs]; exact hQ.s) with e | e
 ·exact e.symm
 ·rcases hQ.f R hR.r (by rw [← hs]; exact hR.s) with e2 | e2
  ·exact e2
  ·have := lexB_sto.trans _ _ _ e e2
   rw [lexB_sto.irr] at this; cases this
theorem dc_congr {g : Gr} {W V : List Wy} (hW : (decideF g W).2 = 0) (hV : (decideF g V).2 = 0) (hs : ∀ X, someW W X = someW V X) : (decideF g W).1.1 = (decideF g V).1.1 ∧ (decideF g W).1.2.1 = (decideF g V).1.2.1 ∧ (decideF g W).1.2.2.1 = (decideF g V).1.2.2.1 := by
 have he : errG g W = 0 := Classical.byContradiction fun he => by rw [decide_err he] at hW; exact he hW
 have he' : errG g V = 0 := Classical.byContradiction fun he => by rw [decide_err he] at hV; exact he hV
 have hno : ∀ {U U' : List Wy} {h : Bool} {R : List Int} {S : List St4}, (∀ X, someW U X = someW U' X) → FstR g U h R → checkA g U' h S = true → False := fun hu h1 h2 => by
  have := check_sound h2 h1.r
  rw [← hu, h1.s] at this
  revert this
  cases ‹Bool› <;> decide
 have hs' : ∀ X, someW V X = someW W X := fun X => (hs X).symm
 rcases decide_cases he with ⟨R, Q, h1, _, _, h2, h3⟩ | ⟨R, S, h1, _, _, h2, h3⟩ | ⟨Q, S, h1, _, _, h2, h3⟩ | ⟨h1, _⟩
 ·rcases decide_cases he' with ⟨R', Q', k1, _, _, k2, k3⟩ | ⟨R', S', k1, _, _, k2, k3⟩ | ⟨Q', S', k1, _, _, k2, k3⟩ | ⟨k1, _⟩
  ·rw [h1, k1]; exact ⟨rfl, fst_uniq h2 k2 hs, fst_uniq h3 k3 hs⟩
  ·exact (hno hs h3 k3).elim
  ·exact (hno hs h2 k3).elim
  ·rw [k1] at hV; cases hV
 ·rcases decide_cases he' with ⟨R', Q', k1, _, _, k2, k3⟩ | ⟨R', S', k1, _, _, k2, k3⟩ | ⟨Q', S', k1, _, _, k2, k3⟩ | ⟨k1, _⟩
  ·exact (hno hs' k3 h3).elim
  ·rw [h1, k1]; exact ⟨rfl, fst_uniq h2 k2 hs, rfl⟩
  ·exact (hno hs h2 k3).elim
  ·rw [k1] at hV; cases hV
 ·rcases decide_cases he' with ⟨R', Q', k1, _, _, k2, k3⟩ | ⟨R', S', k1, _, _, k2, k3⟩ | ⟨Q', S', k1, _, _, k2, k3⟩ | ⟨k1, _⟩
  ·exact (hno hs' k2 h3).elim
  ·exact (hno hs' k2 h3).elim
  ·rw [h1, k1]; exact ⟨rfl, rfl, fst_uniq h2 k2 hs⟩
  ·rw [k1] at hV; cases hV
 ·rw [h1] at hW; cases hW
theorem some_app (W V : List Wy) (X : List Int) : someW (W ++ V) X = (someW W X || someW V X) := List.any_append
theorem dc_more {g : Gr} {W V : List Wy} (hW : (decideF g W).2 = 0) (hV : (decideF g (W ++ V)).2 = 0) : ((decideF g W).1.1 = 1 → (decideF g (W ++ V)).1.1 = 1) ∧ ((decideF g (W ++ V)).1.1 = 3 → (decideF g W).1.1 = 3) := by
 have he : errG g W = 0 := Classical.byContradiction fun he => by rw [decide_err he] at hW; exact he hW
 have hv := (ready_ok (err_ready he) true []).v
 obtain ⟨Z, hZ⟩ : ∃ X, IsRep g X := by
  obtain ⟨X, hX⟩ := List.exists_mem_of_ne_nil _ (reps_ne hv)
  exact ⟨X, (reps_mem hv).1 hX⟩
 constructor
 ·intro h
  have hall : ∀ X, IsRep g X → someW (W ++ V) X = true := by
   rcases dc_verdict hW with ⟨_, h2⟩ | ⟨h1, _⟩ | ⟨h1, _⟩
   ·exact fun X hX => by rw [some_app, h2 X hX]; rfl
   ·rw [h1] at h; cases h
   ·rw [h1] at h; cases h
  rcases dc_verdict hV with ⟨h1, _⟩ | ⟨_, h2⟩ | ⟨_, _, X, hX, h2⟩
  ·exact h1
  ·have := h2 Z hZ; rw [hall Z hZ] at this; cases this
  ·rw [hall X hX] at h2; cases h2
 ·intro h
  have hno : ∀ X, IsRep g X → someW W X = false := by
   rcases dc_verdict hV with ⟨h1, _⟩ | ⟨_, h2⟩ | ⟨h1, _⟩
   ·rw [h1] at h; cases h
   ·intro X hX
    have := h2 X hX
    rw [some_app] at this
    cases h3 : someW W X with
    | false => rfl
    | true => rw [h3] at this; cases this
   ·rw [h1] at h; cases h
  rcases dc_verdict hW with ⟨_, h2⟩ | ⟨h1, _⟩ | ⟨_, ⟨X, hX, h2⟩, _⟩
  ·have := h2 Z hZ; rw [hno Z hZ] at this; cases this
  ·exact h1
  ·rw [hno X hX] at h2; cases h2
end Go.Proofs.YtdbcfpcicjgghaaGreatDoor
