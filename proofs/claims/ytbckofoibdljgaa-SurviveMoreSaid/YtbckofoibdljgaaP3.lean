/- The plain law: what the choice is. -/
import Derived.Test.YtbckofoibdljgaaP2
namespace Go.Proofs.Ytbckofoibdljgaa
open Go.Vc Go.Sort

theorem chooseF_rng (by_ : Int) (l : List Cell) (t : List Int) : -1 ≤ chooseF by_ l t ∧ chooseF by_ l t < l.length := by rw [choose_eq]; exact rchooseF_lt _ _ _
theorem okW_nil (l : List Cell) (i : Nat) : okW l [] i = counts (l.getD i default) := by simp [okW]
theorem choose_right {by_ : Int} {l : List Cell} {t : List Int} (hr : rightB by_ l.length t.length = true) : Least by_ l t (okW l []) l.length (chooseF by_ l t) := by
  rw [choose_eq, rchooseF, if_pos hr]
  exact bestK_least by_ l t [] l.length
theorem choose_wrong {by_ : Int} {l : List Cell} {t : List Int} (hr : rightB by_ l.length t.length = false) : chooseF by_ l t = -1 := by
  rw [choose_eq, rchooseF, if_neg (by rw [hr]; decide)]
theorem choose_pos {by_ : Int} {l : List Cell} {t : List Int} (h : 0 ≤ chooseF by_ l t) : rightB by_ l.length t.length = true ∧ counts (l.getD (chooseF by_ l t).toNat default) = true := by
  cases hr : rightB by_ l.length t.length with
  | false => rw [choose_wrong hr] at h; omega
  | true =>
    have := ((choose_right hr).some h).2.1
    rw [okW_nil] at this
    exact ⟨rfl, this⟩
theorem choose_neg {by_ : Int} {l : List Cell} {t : List Int} (hr : rightB by_ l.length t.length = true) (h : chooseF by_ l t < 0) {j : Nat} (hj : j < l.length) : counts (l.getD j default) = false := by
  have := (choose_right hr).none h j hj
  rwa [okW_nil] at this
theorem choose_le {by_ : Int} {l : List Cell} {t : List Int} (h : 0 ≤ chooseF by_ l t) {j : Nat} (hj : j < l.length) (hc : counts (l.getD j default) = true) : cmpC by_ (cand l t (chooseF by_ l t).toNat) (cand l t j) ≤ 0 := by
  have hr := (choose_pos h).1
  by_cases e : j = (chooseF by_ l t).toNat
  · rw [← e, (cmpC_cmp by_).self]; omega
  · have := ((choose_right hr).some h).2.2 j hj (by rw [okW_nil]; exact hc) e
    omega
theorem thenC_le {α : Type} {f g : α → α → Int} {a b : α} (h : thenC f g a b ≤ 0) : f a b ≤ 0 := by
  unfold thenC at h
  split at h <;> omega
theorem better_le {by_ : Int} {l : List Cell} {t : List Int} (h : 0 ≤ chooseF by_ l t) {j : Nat} (hj : j < l.length) (hc : counts (l.getD j default) = true) : better by_ (cand l t (chooseF by_ l t).toNat) (cand l t j) ≤ 0 :=
  thenC_le (choose_le h hj hc)
theorem cmpI_le (a b : Int) : cmpI a b ≤ 0 ↔ a ≤ b := by unfold cmpI; (repeat' split) <;> omega
theorem counts_val {c d : Cell} (h : c.val = d.val) : counts c = counts d := by unfold counts; rw [h]
theorem freq_count (l : List Cell) {c : Cell} (hc : counts c = true) : freqV l c.val = countV l c.val := by
  unfold freqV countV
  congr 1
  refine List.filter_congr fun x _ => ?_
  by_cases h : x.val = c.val
  · rw [counts_val h, hc]; simp
  · simp [h]
end Go.Proofs.Ytbckofoibdljgaa
