/- Own library: the groups of a division, one number after another. No program. -/
import Derived.Test.YtglaigeellpikaaXVcComp
import Derived.Test.YtglaigeellpikaaXVcTMap
namespace Go.Vc
theorem map_app_set {α β : Type} [DecidableEq α] (f g : α → List β) (x : α) (a : β) : ∀ (H : List α), H.Nodup → x ∈ H → (∀ h ∈ H, g h = f h ++ if x = h then [a] else []) → H.map g = (H.map f).set (H.idxOf x) (f x ++ [a]) := by
  intro H
  induction H with
  | nil => intro _ h _; cases h
  | cons h H ih =>
    intro hn hx hg
    have hn := List.nodup_cons.1 hn
    by_cases e : x = h
    · subst e
      rw [List.idxOf_cons_self]
      simp only [List.map_cons, List.set_cons_zero]
      rw [hg x (by simp), if_pos rfl]
      congr 1
      refine List.map_congr_left fun y hy => ?_
      rw [hg y (by simp [hy]), if_neg (fun e : x = y => hn.1 (by rw [e]; exact hy)), List.append_nil]
    · have hx2 : x ∈ H := by rcases List.mem_cons.1 hx with h1 | h1; exact absurd h1 e; exact h1
      rw [show (h :: H).idxOf x = H.idxOf x + 1 by rw [List.idxOf_cons, show (h == x) = false by simpa using fun h => e h.symm]; rfl]
      simp only [List.map_cons, List.set_cons_succ]
      rw [ih hn.2 hx2 fun y hy => hg y (by simp [hy]), hg h (by simp), if_neg e, List.append_nil]
theorem hdsK_nodup (r : Nat → Nat) (k : Nat) : (hdsK r k).Nodup := (hdsK_lt r k).imp fun h => Nat.ne_of_lt h
/-- The next number belongs to a class that is there already. -/
theorem grpsK_old {r : Nat → Nat} {k : Nat} (h : r k ∈ hdsK r k) : hdsK r (k + 1) = hdsK r k ∧ grpsK r (k + 1) = (grpsK r k).set ((hdsK r k).idxOf (r k)) (memsK r k (r k) ++ [(k : Int)]) := by
  have hk := hdsK_mem.1 h
  have h1 : hdsK r (k + 1) = hdsK r k := by rw [hdsK_succ, if_neg (by omega), List.append_nil]
  refine ⟨h1, ?_⟩
  unfold grpsK
  rw [h1]
  exact map_app_set _ _ _ _ _ (hdsK_nodup r k) h fun y _ => memsK_succ r k y
/-- It heads a class of its own. -/
theorem grpsK_new {r : Nat → Nat} {k : Nat} (h : r k = k) (hle : ∀ i, i < k → r i ≤ i) : hdsK r (k + 1) = hdsK r k ++ [k] ∧ k ∉ hdsK r k ∧ grpsK r (k + 1) = (grpsK r k ++ [[]]).set (hdsK r k).length [(k : Int)] := by
  have h1 : hdsK r (k + 1) = hdsK r k ++ [k] := by rw [hdsK_succ, if_pos h]
  have h2 : k ∉ hdsK r k := fun hh => by have := (hdsK_mem.1 hh).1; omega
  refine ⟨h1, h2, ?_⟩
  have h3 : memsK r k k = [] := List.eq_nil_iff_forall_not_mem.2 fun x hx => by
    obtain ⟨i, hi, hr, _⟩ := memsK_mem.1 hx
    have := hle i hi; omega
  unfold grpsK
  rw [h1, List.map_append, List.set_append_right _ _ (by rw [List.length_map]; exact Nat.le_refl _), List.length_map, Nat.sub_self]
  congr 1
  · refine List.map_congr_left fun y hy => ?_
    have := (hdsK_mem.1 hy).1
    rw [memsK_succ, if_neg (by omega), List.append_nil]
  · simp [memsK_succ, h, h3]
theorem grpsK_len (r : Nat → Nat) (k : Nat) : (grpsK r k).length = (hdsK r k).length := by unfold grpsK; rw [List.length_map]
theorem grpsK_at {r : Nat → Nat} {k x : Nat} (h : x ∈ hdsK r k) : (grpsK r k).getD ((hdsK r k).idxOf x) default = memsK r k x := by
  have hi : (hdsK r k).idxOf x < (hdsK r k).length := List.idxOf_lt_length_iff.2 h
  unfold grpsK
  simp only [List.getD, List.getElem?_map, List.getElem?_eq_getElem hi, Option.map_some, Option.getD_some]
  rw [List.getElem_idxOf]
/-- Where each class lies. -/
def PlaceM (r : Nat → Nat) (k : Nat) (m : List (Int × Nat)) : Prop := ∀ h : Nat, tget m (h : Int) = if h ∈ hdsK r k then some ((hdsK r k).idxOf h) else none
theorem PlaceM.zero (r : Nat → Nat) : PlaceM r 0 [] := fun h => by simp [tget, hdsK]
theorem PlaceM.old {r : Nat → Nat} {k : Nat} {m : List (Int × Nat)} (h : PlaceM r k m) (hk : r k ∈ hdsK r k) : PlaceM r (k + 1) m := by
  unfold PlaceM
  rw [(grpsK_old hk).1]; exact h
theorem PlaceM.new {r : Nat → Nat} {k : Nat} {m : List (Int × Nat)} (h : PlaceM r k m) (hk : r k = k) (hle : ∀ i, i < k → r i ≤ i) : PlaceM r (k + 1) (tset m (k : Int) (hdsK r k).length) := by
  intro x
  obtain ⟨h1, h2, _⟩ := grpsK_new hk hle
  rw [h1, tget_tset]
  by_cases e : x = k
  · subst e
    rw [if_pos rfl, if_pos (by simp), List.idxOf_append, if_neg h2]
    simp
  · rw [if_neg (by omega), h x]
    by_cases hx : x ∈ hdsK r k
    · rw [if_pos hx, if_pos (by simp [hx]), List.idxOf_append, if_pos hx]
    · rw [if_neg hx, if_neg (by simp [hx, e])]
theorem memsK_len (r : Nat → Nat) (k h : Nat) : (memsK r k h).length ≤ k := by
  unfold memsK
  rw [List.length_map]
  exact Nat.le_trans (List.length_filter_le _ _) (by simp)
theorem hdsK_len (r : Nat → Nat) (k : Nat) : (hdsK r k).length ≤ k := by
  unfold hdsK
  exact Nat.le_trans (List.length_filter_le _ _) (by simp)
end Go.Vc
