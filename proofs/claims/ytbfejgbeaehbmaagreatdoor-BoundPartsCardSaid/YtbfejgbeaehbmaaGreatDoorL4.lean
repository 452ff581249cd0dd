/- Hyper: the walk of law HyperConflicts. -/
import Derived.Test.YtbfejgbeaehbmaaGreatDoorL3
namespace Go.Proofs.YtbfejgbeaehbmaaGreatDoor
open Go.Vc
theorem eqB4 : ∀ a b w, (Op.equal 4 (.bool a) (.bool b)).run Tryz.prog w = .ok (decide (a = b)) w := by
  intro a b w
  show (Op.equalIn (9999 + 1) 4 _ _).run Tryz.prog w = _
  unfold Op.equalIn
  simp [go_sem]
  cases a <;> cases b <;> rfl
theorem makeF_no {n : Int} {cost : List Int} {E : List (List Int)} (h : (makeF n cost E).2 ≠ 0) : (makeF n cost E).1 = default := by
  unfold makeF at h ⊢
  split
  · rename_i h1
    rw [if_pos h1] at h
    split
    · rename_i h2; rw [if_pos h2] at h; exact absurd rfl h
    · rfl
  · rfl
/-- What has been made, whole. -/
theorem GNew.made {w w' : World} {g : GrW} {n : Int} {cost : List Int} {E : List (List Int)} {z : Int} (h : GNew w w' g) (hz : (grV g, z) = makeF n cost E) (h0 : z = 0) (hc : cost.length ≤ 9223372036854775807) : grV g = ⟨n, cost, minF E⟩ ∧ validG (grV g) = true ∧ GLen g ∧ ∀ e ∈ E, e ≠ [] := by
  have h2 : (makeF n cost E).2 = 0 := by rw [← hz]; exact h0
  obtain ⟨k1, k2, k3, k4⟩ := makeF_ok h2
  have hg : grV g = ⟨n, cost, minF E⟩ := by rw [← k1, ← hz]
  refine ⟨hg, by rw [show grV g = (makeF n cost E).1 by rw [← hz]]; exact makeF_valid h2, h.glen hg hc (by dsimp only; omega) ?_, fun e he => (k3 e he).1⟩
  exact List.all_eq_true.2 fun e he => decide_eq_true (minF_inc he).2
theorem free_all {E : List (List Int)} {s : List Int} (hs : Inc s) (hE : ∀ e ∈ E, e ≠ []) : freeF (minF E) s = E.all fun e => !contF s (setF e) := by
  refine Bool.eq_iff_iff.2 ?_
  rw [free_min hs, List.all_eq_true]
  constructor
  · intro h e he
    rw [contF_sub hs (setF_inc e), h e he (hE e he)]; rfl
  · intro h e he _
    have := h e he
    rw [contF_sub hs (setF_inc e)] at this
    simpa using this
end Go.Proofs.YtbfejgbeaehbmaaGreatDoor
