/- Own library: ranges of sums over repairs, plainly. No program. -/
import Derived.Test.YtglaigeellpikaaXVcExt
import Derived.Test.YtglaigeellpikaaXVcGrp
namespace Go.Vc
def sm : List Int → Int
  | [] => 0
  | x :: l => x + sm l
theorem sm_app (l m : List Int) : sm (l ++ m) = sm l + sm m := by
  induction l with
  | nil => show sm m = 0 + sm m; omega
  | cons x l ih => show x + sm (l ++ m) = x + sm l + sm m; rw [ih]; omega
theorem sm_snoc (l : List Int) (x : Int) : sm (l ++ [x]) = sm l + x := by rw [sm_app]; show sm l + (x + 0) = _; omega
theorem sm_le {α : Type} (f g : α → Int) : ∀ {l : List α}, (∀ x ∈ l, f x ≤ g x) → sm (l.map f) ≤ sm (l.map g) := by
  intro l
  induction l with
  | nil => intro _; exact Int.le_refl _
  | cons x l ih =>
    intro h
    have h1 := h x List.mem_cons_self
    have h2 := ih fun y hy => h y (List.mem_cons_of_mem _ hy)
    show f x + sm (l.map f) ≤ g x + sm (l.map g)
    omega
theorem sm_bnd {M : Int} : ∀ {l : List Int}, (∀ x ∈ l, -M ≤ x ∧ x ≤ M) → -(M * l.length) ≤ sm l ∧ sm l ≤ M * l.length := by
  intro l
  induction l with
  | nil => intro _; simp [sm]
  | cons x l ih =>
    intro h
    have h1 := h x List.mem_cons_self
    have h2 := ih fun y hy => h y (List.mem_cons_of_mem _ hy)
    have h3 : M * ((x :: l).length : Int) = M * l.length + M := by rw [List.length_cons]; rw [Int.natCast_add, Int.mul_add]; simp
    rw [h3]
    show -(M * ↑l.length + M) ≤ x + sm l ∧ x + sm l ≤ _
    omega
theorem sm_congr {α : Type} (f g : α → Int) {l : List α} (h : ∀ x ∈ l, f x = g x) : sm (l.map f) = sm (l.map g) := by rw [List.map_congr_left h]
theorem sm_filter {α : Type} (p : α → Bool) (f : α → Int) (l : List α) : sm ((l.filter p).map f) = sm (l.map fun v => if p v = true then f v else 0) := by
  induction l with
  | nil => rfl
  | cons x l ih =>
    cases h : p x
    · rw [List.filter_cons_of_neg (by simp [h]), List.map_cons, ih, h]
      show _ = (if false = true then f x else 0) + sm _
      rw [if_neg (by decide)]; omega
    · rw [List.filter_cons_of_pos h, List.map_cons, List.map_cons, h]
      show f x + _ = (if true = true then f x else 0) + sm _
      rw [if_pos rfl, ih]
/-- The sums over the groups make the sum over all. -/
theorem sm_hds (f : Nat → Int) (x : Nat) (a : Int) : ∀ {H : List Nat}, H.Nodup → x ∈ H → sm (H.map fun h => f h + if x = h then a else 0) = sm (H.map f) + a := by
  intro H
  induction H with
  | nil => intro _ h; cases h
  | cons y H ih =>
    intro hn hx
    rw [List.nodup_cons] at hn
    show f y + (if x = y then a else 0) + sm _ = f y + sm _ + a
    by_cases e : x = y
    · subst e
      rw [if_pos rfl, sm_congr (fun h => f h + if x = h then a else 0) f fun h hh => by rw [if_neg (fun e => hn.1 (by rw [e]; exact hh))]; omega]
      omega
    · rw [if_neg e, ih hn.2 ((List.mem_cons.1 hx).resolve_left e)]
      omega
theorem sm_grps (r : Nat → Nat) (f : Int → Int) : ∀ {n : Nat}, (∀ i, i < n → r i ≤ i) → (∀ i, i < n → r (r i) = r i) → sm ((grpsK r n).map fun c => sm (c.map f)) = sm ((List.range n).map fun i => f ((i : Nat) : Int)) := by
  intro n
  induction n with
  | zero => intro _ _; rfl
  | succ n ih =>
    intro hle hid
    have h0 := ih (fun i hi => hle i (by omega)) (fun i hi => hid i (by omega))
    have hx : r n ∈ hdsK r (n + 1) := hdsK_mem.2 ⟨by have := hle n (by omega); omega, hid n (by omega)⟩
    rw [List.range_succ, List.map_append, List.map_cons, List.map_nil, sm_snoc, ← h0]
    unfold grpsK
    rw [List.map_map, List.map_map]
    have hs : ∀ h, ((fun c => sm (c.map f)) ∘ memsK r (n + 1)) h = ((fun c => sm (c.map f)) ∘ memsK r n) h + if r n = h then f (n : Int) else 0 := fun h => by
      show sm ((memsK r (n + 1) h).map f) = sm ((memsK r n h).map f) + _
      rw [memsK_succ, List.map_append, sm_app]
      by_cases e : r n = h
      · rw [if_pos e, if_pos e]; show _ + (f n + 0) = _; omega
      · rw [if_neg e, if_neg e]; rfl
    rw [show ((fun c => sm (c.map f)) ∘ memsK r (n + 1)) = fun h => ((fun c => sm (c.map f)) ∘ memsK r n) h + if r n = h then f (n : Int) else 0 from funext hs, sm_hds _ _ _ (hdsK_nodup r (n + 1)) hx, hdsK_succ, List.map_append, sm_app]
    by_cases e : r n = n
    · rw [if_pos e]
      have : memsK r n n = [] := by
        refine List.eq_nil_iff_forall_not_mem.2 fun x hx => ?_
        obtain ⟨i, hi, hri, _⟩ := memsK_mem.1 hx
        have := hle i (by omega)
        omega
      show _ + (sm ((memsK r n n).map f) + 0) + _ = _
      rw [this]; show _ + ((0 : Int) + 0) + _ = _; omega
    · rw [if_neg e]; show _ + (0 : Int) + _ = _; omega
end Go.Vc
