/- Own library: the minimal sets, one edge after another. No program. -/
import Derived.Test.YtoengpialdolbaaGreatDoorVcDiv
namespace Go.Vc
theorem setsOf_snoc (P : List (List Int)) (x : List Int) : setsOf (P ++ [x]) = setsOf P ++ if x = [] then [] else [setF x] := by
  unfold setsOf
  rw [List.filter_append, List.map_append]
  congr 1
  by_cases h : x = [] <;> simp [h]
theorem minF_skip0 (P : List (List Int)) : minF (P ++ [[]]) = minF P := minF_congr fun e => by rw [setsOf_snoc, if_pos rfl, List.append_nil]
/-- A set within which one lies already. -/
theorem minF_skip {P : List (List Int)} {x : List Int} (h : aboveB (setF x) (minF P) = true) : minF (P ++ [x]) = minF P := by
  by_cases hx : x = []
  · rw [hx]; exact minF_skip0 P
  obtain ⟨o, ho, hoe⟩ := aboveB_iff.1 h
  have hoS := minF_mem.1 ho
  refine Up.ext lexB_sto (minF_up _) (minF_up _) fun f => ?_
  rw [minF_mem, minF_mem, setsOf_snoc, if_neg hx]
  constructor
  · rintro ⟨h1, h2⟩
    have h3 : f ∈ setsOf P := by
      rcases List.mem_append.1 h1 with h3 | h3
      · exact h3
      · rw [List.mem_singleton] at h3
        have := h2 o (List.mem_append.2 (.inl hoS.1)) (by rw [h3]; exact hoe)
        rw [← this]; exact hoS.1
    exact ⟨h3, fun g hg hs => h2 g (List.mem_append.2 (.inl hg)) hs⟩
  · rintro ⟨h1, h2⟩
    refine ⟨List.mem_append.2 (.inl h1), fun g hg hs => ?_⟩
    rcases List.mem_append.1 hg with h3 | h3
    · exact h2 g h3 hs
    · rw [List.mem_singleton] at h3
      subst h3
      have h4 := h2 o hoS.1 (subB_trans hoe hs)
      rw [← h4] at hs ⊢
      exact subB_anti (setF_inc x) (setsOf_inc hoS.1).1 hs hoe
/-- A set that takes its place: those that hold it go. -/
theorem minF_ins {P : List (List Int)} {x : List Int} (hx : x ≠ []) (h : aboveB (setF x) (minF P) = false) : minF (P ++ [x]) = insU lexB (setF x) ((minF P).filter fun f => !subB (setF x) f) := by
  have hup : Up lexB ((minF P).filter fun f => !subB (setF x) f) := List.Pairwise.sublist List.filter_sublist (minF_up P)
  refine Up.ext lexB_sto (minF_up _) (insU_up lexB_sto _ _ hup) fun f => ?_
  rw [insU_mem lexB_sto, List.mem_filter, minF_mem, minF_mem, setsOf_snoc, if_neg hx]
  have hno : ∀ g ∈ setsOf P, subB g (setF x) = true → False := fun g hg hs => by
    obtain ⟨o, ho, hog⟩ := minF_below _ g (Nat.le_refl _) hg
    have := aboveB_iff.2 ⟨o, ho, subB_trans hog hs⟩
    rw [h] at this; cases this
  constructor
  · rintro ⟨h1, h2⟩
    rcases List.mem_append.1 h1 with h3 | h3
    · right
      refine ⟨⟨h3, fun g hg hs => h2 g (List.mem_append.2 (.inl hg)) hs⟩, ?_⟩
      cases hs : subB (setF x) f with
      | false => rfl
      | true =>
        have := h2 (setF x) (by simp) hs
        exact (hno f h3 (by rw [this]; exact subB_refl _)).elim
    · left; simpa using h3
  · rintro (h1 | ⟨⟨h1, h2⟩, h3⟩)
    · subst h1
      refine ⟨by simp, fun g hg hs => ?_⟩
      rcases List.mem_append.1 hg with h4 | h4
      · exact (hno g h4 hs).elim
      · simpa using h4
    · refine ⟨List.mem_append.2 (.inl h1), fun g hg hs => ?_⟩
      rcases List.mem_append.1 hg with h4 | h4
      · exact h2 g h4 hs
      · rw [List.mem_singleton] at h4
        subst h4
        rw [hs] at h3; cases h3
theorem insU_end {e : List Int} : ∀ {F : List (List Int)}, (∀ f ∈ F, lexB f e = true) → insU lexB e F = F ++ [e]
  | [], _ => rfl
  | f :: F, h => by
    have h1 := h f (by simp)
    rw [insU, if_neg (by rw [lexB_sto.asym h1]; decide), if_pos h1, insU_end fun g hg => h g (by simp [hg])]
    rfl
theorem insU_at {e f : List Int} (hf : lexB e f = true) : ∀ {F : List (List Int)}, (∀ g ∈ F, lexB g e = true) → insU lexB e (F ++ [f]) = F ++ [e, f]
  | [], _ => by rw [List.nil_append, insU, if_pos hf]; rfl
  | g :: F, h => by
    have h1 := h g (by simp)
    rw [List.cons_append, insU, if_neg (by rw [lexB_sto.asym h1]; decide), if_pos h1, insU_at hf fun x hx => h x (by simp [hx])]
    rfl
theorem insU_snoc {e f : List Int} : ∀ {F : List (List Int)}, (∃ g ∈ F, lexB e g = true) → insU lexB e (F ++ [f]) = insU lexB e F ++ [f]
  | [], ⟨g, hg, _⟩ => nomatch hg
  | g :: F, ⟨x, hx, he⟩ => by
    rw [List.cons_append, insU, insU]
    by_cases h1 : lexB e g = true
    · rw [if_pos h1, if_pos h1]; rfl
    · rw [if_neg h1, if_neg h1]
      have hxF : x ∈ F := by
        rcases List.mem_cons.1 hx with h | h
        · rw [h] at he; exact absurd he h1
        · exact h
      by_cases h2 : lexB g e = true
      · rw [if_pos h2, if_pos h2, insU_snoc ⟨x, hxF, he⟩]; rfl
      · rw [if_neg h2, if_neg h2]; rfl
end Go.Vc
