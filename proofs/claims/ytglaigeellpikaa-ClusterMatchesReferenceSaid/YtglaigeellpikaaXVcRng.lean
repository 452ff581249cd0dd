/- Own library: ranges of sums over repairs, plainly. No program. -/
import Derived.Test.YtglaigeellpikaaXVcExt
import Derived.Test.YtglaigeellpikaaXVcGrp
namespace Go.Vc
def sm : List Int → Int
  | [] => 0
  | x :: l => x + sm l
theorem sm_app (l m : List Int) : sm (l ++ m) = sm l + sm m := by
  induction l with
  | nil => show sm m = 0 + sm m; omega
  | cons x l ih => show x + sm (l ++ m) = x + sm l + sm m; rw [ih]; omega
theorem sm_bnd {M : Int} : ∀ {l : List Int}, (∀ x ∈ l, -M ≤ x ∧ x ≤ M) → -(M * l.length) ≤ sm l ∧ sm l ≤ M * l.length := by
  intro l
  induction l with
  | nil => intro _; simp [sm]
  | cons x l ih =>
    intro h
    have h1 := h x List.mem_cons_self
    have h2 := ih fun y hy => h y (List.mem_cons_of_mem _ hy)
    have h3 : M * ((x :: l).length : Int) = M * l.length + M := by rw [List.length_cons]; rw [Int.natCast_add, Int.mul_add]; simp
    rw [h3]
    show -(M * ↑l.length + M) ≤ x + sm l ∧ x + sm l ≤ _
    omega
theorem sm_congr {α : Type} (f g : α → Int) {l : List α} (h : ∀ x ∈ l, f x = g x) : sm (l.map f) = sm (l.map g) := by rw [List.map_congr_left h]
theorem sm_filter {α : Type} (p : α → Bool) (f : α → Int) (l : List α) : sm ((l.filter p).map f) = sm (l.map fun v => if p v = true then f v else 0) := by
  induction l with
  | nil => rfl
  | cons x l ih =>
    cases h : p x
    · rw [List.filter_cons_of_neg (by simp [h]), List.map_cons, ih, h]
      show _ = (if false = true then f x else 0) + sm _
      rw [if_neg (by decide)]; omega
    · rw [List.filter_cons_of_pos h, List.map_cons, List.map_cons, h]
      show f x + _ = (if true = true then f x else 0) + sm _
      rw [if_pos rfl, ih]
end Go.Vc
