/- Own library: components, plainly. No program. -/
import Derived.Test.YtglaigeellpikaaXVcGraph
import Derived.Test.YtglaigeellpikaaXVcRoot
namespace Go.Vc
/-- For each of n numbers the least one of its class, the pairs of J being joined. -/
structure IsComp (n : Nat) (J : List (Nat × Nat)) (r : Nat → Nat) : Prop where
  le : ∀ i, i < n → r i ≤ i
  idem : ∀ i, i < n → r (r i) = r i
  join : ∀ p ∈ J, r p.1 = r p.2
  keep : ∀ f : Nat → Nat, (∀ p ∈ J, f p.1 = f p.2) → ∀ i, i < n → f (r i) = f i
theorem IsComp.unique {n : Nat} {J J' : List (Nat × Nat)} {r r' : Nat → Nat} (h : IsComp n J r) (h' : IsComp n J' r') (h1 : ∀ p ∈ J, r' p.1 = r' p.2) (h2 : ∀ p ∈ J', r p.1 = r p.2) : ∀ i, i < n → r i = r' i := by
  intro i hi
  have a1 := h.keep r' h1 i hi
  have a2 := h'.keep r h2 i hi
  have b1 := h.le i hi
  have b2 := h'.le i hi
  have c1 := h'.le (r i) (by omega)
  have c2 := h.le (r' i) (by omega)
  omega
theorem IsComp.nil (n : Nat) : IsComp n [] (fun i => i) := ⟨fun _ _ => Nat.le_refl _, fun _ _ => rfl, fun _ hp => absurd hp (List.not_mem_nil), fun _ _ _ _ => rfl⟩
def joinR (r : Nat → Nat) (a b : Nat) : Nat → Nat := fun j => if r j = max (r a) (r b) then min (r a) (r b) else r j
theorem IsComp.step {n : Nat} {J : List (Nat × Nat)} {r : Nat → Nat} (h : IsComp n J r) {a b : Nat} (ha : a < n) (hb : b < n) (_hJ : ∀ p ∈ J, p.1 < n ∧ p.2 < n) : IsComp n (J ++ [(a, b)]) (joinR r a b) := by
  have la := h.le a ha
  have lb := h.le b hb
  have ia := h.idem a ha
  have ib := h.idem b hb
  have hmin : r (min (r a) (r b)) = min (r a) (r b) := by
    rcases Nat.le_total (r a) (r b) with hh | hh
    · rw [Nat.min_eq_left hh]; exact ia
    · rw [Nat.min_eq_right hh]; exact ib
  refine ⟨fun i hi => ?_, fun i hi => ?_, fun p hp => ?_, fun f hf i hi => ?_⟩
  · have := h.le i hi
    unfold joinR
    split <;> omega
  · unfold joinR
    by_cases e : r i = max (r a) (r b)
    · rw [if_pos e, hmin]
      split <;> omega
    · rw [if_neg e, h.idem i hi, if_neg e]
  · rcases List.mem_append.1 hp with hp | hp
    · unfold joinR; rw [h.join p hp]
    · rw [List.mem_singleton] at hp
      subst hp
      unfold joinR
      show (if r a = max (r a) (r b) then min (r a) (r b) else r a) = if r b = max (r a) (r b) then min (r a) (r b) else r b
      split <;> split <;> omega
  · have hfJ : ∀ p ∈ J, f p.1 = f p.2 := fun p hp => hf p (by simp [hp])
    have hab : f a = f b := hf (a, b) (by simp)
    have k1 := h.keep f hfJ
    unfold joinR
    by_cases e : r i = max (r a) (r b)
    · rw [if_pos e]
      have ki := k1 i hi
      have ka := k1 a ha
      have kb := k1 b hb
      rcases Nat.le_total (r a) (r b) with hh | hh
      · rw [Nat.min_eq_left hh, ka, hab, ← kb, ← ki, e, Nat.max_eq_right hh]
      · rw [Nat.min_eq_right hh, kb, ← hab, ← ka, ← ki, e, Nat.max_eq_left hh]
    · rw [if_neg e]; exact k1 i hi
/-- Joining the pairs one by one. -/
def compR : List (Nat × Nat) → Nat → Nat := fun J => J.foldl (fun r p => joinR r p.1 p.2) (fun i => i)
theorem compR_snoc (J : List (Nat × Nat)) (p : Nat × Nat) : compR (J ++ [p]) = joinR (compR J) p.1 p.2 := by simp [compR]
theorem compR_is (n : Nat) (J : List (Nat × Nat)) (hJ : ∀ p ∈ J, p.1 < n ∧ p.2 < n) : IsComp n J (compR J) := by
  have key : ∀ k, k ≤ J.length → IsComp n (J.take k) (compR (J.take k)) := by
    intro k
    induction k with
    | zero => intro _; exact IsComp.nil n
    | succ k ih =>
      intro hk
      rw [List.take_succ_eq_append_getElem (by omega), compR_snoc]
      have hm := hJ _ (List.getElem_mem (show k < J.length by omega))
      exact (ih (by omega)).step hm.1 hm.2 fun p hp => hJ p (List.mem_of_mem_take hp)
  have := key J.length (Nat.le_refl _)
  rwa [List.take_length] at this
/-- The pairs that an edge joins: its first vertex with each. -/
def prE (e : List Int) : List (Nat × Nat) := e.map fun v => ((e.getD 0 default).toNat, v.toNat)
def prsE (E : List (List Int)) : List (Nat × Nat) := E.flatMap prE
theorem prsE_mem {E : List (List Int)} {p : Nat × Nat} : p ∈ prsE E ↔ ∃ e ∈ E, ∃ v ∈ e, p = ((e.getD 0 default).toNat, v.toNat) := by
  unfold prsE prE
  simp only [List.mem_flatMap, List.mem_map]
  constructor
  · rintro ⟨e, he, v, hv, h⟩; exact ⟨e, he, v, hv, h.symm⟩
  · rintro ⟨e, he, v, hv, h⟩; exact ⟨e, he, v, hv, h.symm⟩
/-- The classes by their heads, the first 'k' numbers being sorted in. -/
def memsK (r : Nat → Nat) (k h : Nat) : List Int := ((List.range k).filter fun i => decide (r i = h)).map fun i => ((i : Nat) : Int)
def hdsK (r : Nat → Nat) (k : Nat) : List Nat := (List.range k).filter fun h => decide (r h = h)
def grpsK (r : Nat → Nat) (k : Nat) : List (List Int) := (hdsK r k).map (memsK r k)
theorem memsK_succ (r : Nat → Nat) (k h : Nat) : memsK r (k + 1) h = memsK r k h ++ if r k = h then [(k : Int)] else [] := by
  unfold memsK
  rw [List.range_succ, List.filter_append, List.map_append]
  congr 1
  by_cases e : r k = h
  · rw [if_pos e, List.filter_cons_of_pos (by simpa using e)]; rfl
  · rw [if_neg e, List.filter_cons_of_neg (by simpa using e)]; rfl
theorem hdsK_succ (r : Nat → Nat) (k : Nat) : hdsK r (k + 1) = hdsK r k ++ if r k = k then [k] else [] := by
  unfold hdsK
  rw [List.range_succ, List.filter_append]
  congr 1
  by_cases e : r k = k
  · rw [if_pos e, List.filter_cons_of_pos (by simpa using e)]; rfl
  · rw [if_neg e, List.filter_cons_of_neg (by simpa using e)]; rfl
theorem memsK_mem {r : Nat → Nat} {k h : Nat} {x : Int} : x ∈ memsK r k h ↔ ∃ i, i < k ∧ r i = h ∧ x = (i : Int) := by
  unfold memsK
  simp only [List.mem_map, List.mem_filter, List.mem_range, decide_eq_true_eq]
  constructor
  · rintro ⟨i, ⟨h1, h2⟩, rfl⟩; exact ⟨i, h1, h2, rfl⟩
  · rintro ⟨i, h1, h2, rfl⟩; exact ⟨i, ⟨h1, h2⟩, rfl⟩
theorem hdsK_mem {r : Nat → Nat} {k h : Nat} : h ∈ hdsK r k ↔ h < k ∧ r h = h := by
  unfold hdsK
  simp [List.mem_filter]
theorem memsK_inc (r : Nat → Nat) (k h : Nat) : Inc (memsK r k h) := by
  unfold memsK Inc
  rw [List.pairwise_map]
  refine (List.Pairwise.sublist List.filter_sublist List.pairwise_lt_range).imp ?_
  intro a b h; omega
theorem hdsK_lt (r : Nat → Nat) (k : Nat) : (hdsK r k).Pairwise (· < ·) := List.Pairwise.sublist List.filter_sublist List.pairwise_lt_range
end Go.Vc
