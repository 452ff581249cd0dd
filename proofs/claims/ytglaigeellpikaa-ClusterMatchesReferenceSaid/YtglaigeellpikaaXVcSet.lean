/- Own library: sorted lists without repetition; sets of numbers and their order; minimal sets. No program. -/
import Derived.Test.YtglaigeellpikaaXVcTMap
namespace Go.Vc
/-- A strict total order. -/
structure STO {α : Type} (lt : α → α → Bool) : Prop where
  irr : ∀ a, lt a a = false
  trans : ∀ a b c, lt a b = true → lt b c = true → lt a c = true
  tot : ∀ a b, lt a b = false → lt b a = false → a = b
section
variable {α : Type} {lt : α → α → Bool}
theorem STO.asym (h : STO lt) {a b : α} (h1 : lt a b = true) : lt b a = false := by
  cases h2 : lt b a with
  | false => rfl
  | true => have := h.trans a b a h1 h2; rw [h.irr] at this; cases this
def Up (lt : α → α → Bool) (l : List α) : Prop := l.Pairwise fun a b => lt a b = true
theorem Up.nodup (h : STO lt) {l : List α} (hl : Up lt l) : l.Nodup := List.Pairwise.imp (fun {a b} hab e => by subst e; rw [h.irr] at hab; cases hab) hl
end
/-! ### Sets of numbers -/
def ltI (a b : Int) : Bool := decide (a < b)
theorem ltI_sto : STO ltI := ⟨fun a => by simp [ltI], fun a b c h1 h2 => by simp [ltI] at *; omega, fun a b h1 h2 => by simp [ltI] at *; omega⟩
abbrev Inc (l : List Int) : Prop := l.Pairwise (· < ·)
theorem up_inc {l : List Int} : Up ltI l ↔ Inc l := by
  unfold Up Inc
  constructor
  · exact List.Pairwise.imp fun {a b} h => of_decide_eq_true h
  · exact List.Pairwise.imp fun {a b} h => decide_eq_true h
theorem inc_nodup {l : List Int} (h : Inc l) : l.Nodup := (up_inc.2 h).nodup ltI_sto
/-! ### The order of lists -/
def lexB : List Int → List Int → Bool
  | [], [] => false
  | [], _ :: _ => true
  | _ :: _, [] => false
  | a :: l, b :: m => if a < b then true else if b < a then false else lexB l m
theorem lexB_sto : STO lexB where
  irr := by
    intro a
    induction a with
    | nil => rfl
    | cons x a ih => rw [lexB, if_neg (by omega), if_neg (by omega)]; exact ih
  trans := by
    intro a
    induction a with
    | nil =>
      intro b c h1 h2
      cases b with
      | nil => cases h1
      | cons y b => cases c with
        | nil => cases h2
        | cons z c => rfl
    | cons x a ih =>
      intro b c h1 h2
      cases b with
      | nil => cases h1
      | cons y b =>
        cases c with
        | nil => cases h2
        | cons z c =>
          rw [lexB] at h1 h2 ⊢
          by_cases h3 : x < y
          · by_cases h4 : y < z
            · rw [if_pos (by omega)]
            · rw [if_neg h4] at h2
              by_cases h5 : z < y
              · rw [if_pos h5] at h2; cases h2
              · rw [if_pos (by omega)]
          · rw [if_neg h3] at h1
            by_cases h6 : y < x
            · rw [if_pos h6] at h1; cases h1
            · rw [if_neg h6] at h1
              by_cases h4 : y < z
              · rw [if_pos (by omega)]
              · rw [if_neg h4] at h2
                by_cases h5 : z < y
                · rw [if_pos h5] at h2; cases h2
                · rw [if_neg h5] at h2
                  rw [if_neg (by omega), if_neg (by omega)]
                  exact ih b c h1 h2
  tot := by
    intro a
    induction a with
    | nil =>
      intro b h1 h2
      cases b with
      | nil => rfl
      | cons y b => cases h1
    | cons x a ih =>
      intro b h1 h2
      cases b with
      | nil => cases h2
      | cons y b =>
        rw [lexB] at h1 h2
        by_cases h3 : x < y
        · rw [if_pos h3] at h1; cases h1
        · by_cases h4 : y < x
          · rw [if_pos h4] at h2; cases h2
          · rw [if_neg h3, if_neg h4] at h1
            rw [if_neg h4, if_neg h3] at h2
            have : x = y := by omega
            rw [this, ih b h1 h2]
/-! ### Minimal sets -/
end Go.Vc
