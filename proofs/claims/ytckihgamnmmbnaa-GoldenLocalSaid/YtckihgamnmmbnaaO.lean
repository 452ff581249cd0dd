/- The order of values, as plain mathematics. -/
import Derived.Test.YtckihgamnmmbnaaS4
namespace Go.Proofs.Ytckihgamnmmbnaa
open Go.Vc

theorem bl_irr (a : List UInt8) : Op.bytesLess a a = false := by
  induction a with
  | nil => rfl
  | cons x a ih => simp [Op.bytesLess, ih]
theorem bl_asym (a b : List UInt8) (h : Op.bytesLess a b = true) : Op.bytesLess b a = false := by
  induction a generalizing b with
  | nil => cases b <;> simp [Op.bytesLess] at h ⊢
  | cons x a ih =>
    cases b with
    | nil => simp [Op.bytesLess] at h
    | cons y b =>
      simp [Op.bytesLess] at h ⊢
      rcases h with h | ⟨rfl, h⟩
      · have h1 := UInt8.lt_asymm h
        refine ⟨UInt8.not_lt.1 h1, ?_⟩
        rintro rfl
        exact absurd h (UInt8.lt_irrefl _)
      · exact ⟨UInt8.le_refl _, fun _ => ih b h⟩
theorem bl_total (a b : List UInt8) (h : a ≠ b) : Op.bytesLess a b = true ∨ Op.bytesLess b a = true := by
  induction a generalizing b with
  | nil => cases b with | nil => exact absurd rfl h | cons => exact .inl rfl
  | cons x a ih =>
    cases b with
    | nil => exact .inr rfl
    | cons y b =>
      simp [Op.bytesLess]
      by_cases hxy : x = y
      · subst hxy
        have : a ≠ b := fun e => h (by rw [e])
        rcases ih b this with h | h
        · exact .inl (.inr ⟨rfl, h⟩)
        · exact .inr (.inr ⟨rfl, h⟩)
      · rcases UInt8.lt_or_lt_of_ne hxy with h | h
        · exact .inl (.inl h)
        · exact .inr (.inl h)
theorem bl_trans (a b c : List UInt8) (h1 : Op.bytesLess a b = true) (h2 : Op.bytesLess b c = true) : Op.bytesLess a c = true := by
  induction a generalizing b c with
  | nil =>
    cases c with
    | nil => cases b <;> simp [Op.bytesLess] at h1 h2
    | cons => rfl
  | cons x a ih =>
    cases b with
    | nil => simp [Op.bytesLess] at h1
    | cons y b =>
      cases c with
      | nil => simp [Op.bytesLess] at h2
      | cons z c =>
        simp [Op.bytesLess] at h1 h2 ⊢
        rcases h1 with h1 | ⟨rfl, h1⟩
        · rcases h2 with h2 | ⟨rfl, h2⟩
          · exact .inl (UInt8.lt_trans h1 h2)
          · exact .inl h1
        · rcases h2 with h2 | ⟨rfl, h2⟩
          · exact .inl h2
          · exact .inr ⟨rfl, ih b c h1 h2⟩

/-- What is asked of a comparing function of numbers: below, equal or above nothing. -/
structure Cmp {α : Type} (f : α → α → Int) : Prop where
  anti : ∀ a b, f b a = - f a b
  trans : ∀ a b c, f a b ≤ 0 → f b c ≤ 0 → f a c ≤ 0
theorem Cmp.self {α : Type} {f : α → α → Int} (h : Cmp f) (a : α) : f a a = 0 := by have := h.anti a a; omega
theorem Cmp.trans0 {α : Type} {f : α → α → Int} (h : Cmp f) {a b c : α} (h1 : f a b = 0) (h2 : f b c = 0) : f a c = 0 := by
  have h3 := h.trans a b c (by omega) (by omega)
  have h4 := h.trans c b a (by have := h.anti b c; omega) (by have := h.anti a b; omega)
  have := h.anti a c
  omega
theorem Cmp.transL {α : Type} {f : α → α → Int} (h : Cmp f) {a b c : α} (h1 : f a b < 0) (h2 : f b c ≤ 0) : f a c < 0 := by
  have h3 := h.trans a b c (by omega) h2
  rcases Int.lt_or_eq_of_le h3 with h4 | h4
  · exact h4
  · exfalso
    have h5 := h.trans b c a h2 (by have := h.anti a c; omega)
    have := h.anti a b
    omega
theorem Cmp.transR {α : Type} {f : α → α → Int} (h : Cmp f) {a b c : α} (h1 : f a b ≤ 0) (h2 : f b c < 0) : f a c < 0 := by
  have h3 := h.trans a b c h1 (by omega)
  rcases Int.lt_or_eq_of_le h3 with h4 | h4
  · exact h4
  · exfalso
    have h5 := h.trans c a b (by have := h.anti a c; omega) h1
    have := h.anti b c
    omega

theorem cmpI_cmp : Cmp cmpI := ⟨fun a b => by unfold cmpI; (repeat' split) <;> omega, fun a b c => by unfold cmpI; (repeat' split) <;> omega⟩
theorem cmpI_neg (a b : Int) : cmpI a b < 0 ↔ a < b := by unfold cmpI; (repeat' split) <;> omega

theorem sLt_irr (a : ByteArray) : sLt a a = false := bl_irr _
theorem sLt_asym {a b : ByteArray} (h : sLt a b = true) : sLt b a = false := bl_asym _ _ h
theorem sLt_total {a b : ByteArray} (h : a ≠ b) : sLt a b = true ∨ sLt b a = true := bl_total _ _ fun e => h (ba_inj e)
theorem sLt_trans {a b c : ByteArray} (h1 : sLt a b = true) (h2 : sLt b c = true) : sLt a c = true := bl_trans _ _ _ h1 h2
theorem cmpG_zero (a b : ByteArray) : cmpG a b = 0 ↔ a = b := by
  unfold cmpG
  by_cases h : a = b
  · subst h; simp [sLt_irr]
  · split <;> simp [h]
theorem cmpG_neg (a b : ByteArray) : cmpG a b < 0 ↔ sLt a b = true := by
  unfold cmpG
  by_cases h : sLt a b = true
  · simp [h]
  · rw [if_neg h]
    split <;> simp [h]
theorem cmpG_cmp : Cmp cmpG := by
  have key : ∀ a b, (sLt a b = true ∧ sLt b a = false ∧ a ≠ b) ∨ (a = b ∧ sLt a b = false) ∨ (sLt b a = true ∧ sLt a b = false ∧ a ≠ b) := by
    intro a b
    by_cases h : a = b
    · subst h; exact .inr (.inl ⟨rfl, sLt_irr a⟩)
    · rcases sLt_total h with h1 | h1
      · exact .inl ⟨h1, sLt_asym h1, h⟩
      · exact .inr (.inr ⟨h1, sLt_asym h1, h⟩)
  refine ⟨fun a b => ?_, fun a b c h1 h2 => ?_⟩
  · unfold cmpG
    rcases key a b with ⟨h1, h2, h3⟩ | ⟨h1, h2⟩ | ⟨h1, h2, h3⟩
    · simp [h1, h2, Ne.symm h3]
    · subst h1; simp [h2]
    · simp [h1, h2, h3]
  · have le : ∀ a b, cmpG a b ≤ 0 ↔ sLt a b = true ∨ a = b := by
      intro a b
      rw [Int.le_iff_lt_or_eq, cmpG_neg, cmpG_zero]
    rw [le] at *
    rcases h1 with h1 | rfl
    · rcases h2 with h2 | rfl
      · exact .inl (sLt_trans h1 h2)
      · exact .inl h1
    · exact h2

/-- The first comparison that is not 0. -/
def thenC {α : Type} (f g : α → α → Int) : α → α → Int := fun a b => if f a b = 0 then g a b else f a b
theorem thenC_cmp {α : Type} {f g : α → α → Int} (hf : Cmp f) (hg : Cmp g) : Cmp (thenC f g) := by
  refine ⟨fun a b => ?_, fun a b c h1 h2 => ?_⟩
  · have h1 := hf.anti a b
    have h2 := hg.anti a b
    unfold thenC
    by_cases h : f a b = 0
    · have h' : f b a = 0 := by omega
      rw [if_pos h, if_pos h', h2]
    · have h' : ¬ f b a = 0 := by omega
      rw [if_neg h, if_neg h', h1]
  · unfold thenC at *
    by_cases e1 : f a b = 0
    · rw [if_pos e1] at h1
      by_cases e2 : f b c = 0
      · rw [if_pos e2] at h2
        rw [if_pos (hf.trans0 e1 e2)]
        exact hg.trans _ _ _ h1 h2
      · rw [if_neg e2] at h2
        have := hf.transR (a := a) (b := b) (c := c) (by omega) (by omega)
        rw [if_neg (by omega)]; omega
    · rw [if_neg e1] at h1
      have h3 : f b c ≤ 0 := by
        by_cases e2 : f b c = 0
        · omega
        · rw [if_neg e2] at h2; exact h2
      have := hf.transL (a := a) (b := b) (c := c) (by omega) h3
      rw [if_neg (by omega)]; omega
theorem Cmp.on {α β : Type} {f : β → β → Int} (h : Cmp f) (g : α → β) : Cmp fun a b => f (g a) (g b) := ⟨fun a b => h.anti _ _, fun a b c => h.trans _ _ _⟩
theorem Cmp.flip {α : Type} {f : α → α → Int} (h : Cmp f) : Cmp fun a b => f b a := ⟨fun a b => h.anti _ _, fun a b c h1 h2 => h.trans _ _ _ h2 h1⟩

theorem cmpV_eq : cmpV = thenC (fun a b => cmpI a.kind b.kind) (thenC (fun a b => cmpI a.n b.n) fun a b => cmpG a.text b.text) := by
  funext a b
  unfold cmpV thenC
  by_cases h1 : cmpI a.kind b.kind = 0 <;> by_cases h2 : cmpI a.n b.n = 0 <;> simp [h1, h2]
theorem cmpV_cmp : Cmp cmpV := by
  rw [cmpV_eq]
  exact thenC_cmp (cmpI_cmp.on _) (thenC_cmp (cmpI_cmp.on _) (cmpG_cmp.on _))
theorem cmpV_zero (a b : Val) : cmpV a b = 0 ↔ a = b := by
  obtain ⟨k, n, t⟩ := a
  obtain ⟨k', n', t'⟩ := b
  unfold cmpV
  by_cases h1 : cmpI k k' = 0
  · by_cases h2 : cmpI n n' = 0
    · have h1' := (cmpI_zero _ _).1 h1
      have h2' := (cmpI_zero _ _).1 h2
      subst h1'; subst h2'
      simp [cmpI_cmp.self, cmpG_zero]
    · have h2' : ¬ n = n' := fun e => h2 ((cmpI_zero _ _).2 e)
      simp [h1, h2, h2']
  · have h1' : ¬ k = k' := fun e => h1 ((cmpI_zero _ _).2 e)
    simp [h1, h1']

/-! ### Candidates -/
structure Cand where
  cell : Cell
  at_ : Int
  trust : Int
  many : Int
  deriving DecidableEq, Inhabited
def better (by_ : Int) (a b : Cand) : Int :=
  if by_ = 1 then cmpI b.cell.time a.cell.time else if by_ = 2 then cmpI b.many a.many else if by_ = 3 then cmpI b.trust a.trust
  else if by_ = 4 then cmpI b.cell.val.text.size a.cell.val.text.size else if by_ = 5 then cmpV a.cell.val b.cell.val else cmpV b.cell.val a.cell.val
theorem better_cmp (by_ : Int) : Cmp (better by_) := by
  have h : better by_ = if by_ = 1 then (fun a b => cmpI b.cell.time a.cell.time) else if by_ = 2 then (fun a b => cmpI b.many a.many) else if by_ = 3 then (fun a b => cmpI b.trust a.trust)
    else if by_ = 4 then (fun a b => cmpI b.cell.val.text.size a.cell.val.text.size) else if by_ = 5 then (fun a b => cmpV a.cell.val b.cell.val) else (fun a b => cmpV b.cell.val a.cell.val) := by
    funext a b
    unfold better
    (repeat' split) <;> rfl
  rw [h]
  (repeat' split)
  · exact (cmpI_cmp.on fun a : Cand => a.cell.time).flip
  · exact (cmpI_cmp.on fun a : Cand => a.many).flip
  · exact (cmpI_cmp.on fun a : Cand => a.trust).flip
  · exact (cmpI_cmp.on fun a : Cand => (a.cell.val.text.size : Int)).flip
  · exact cmpV_cmp.on fun a : Cand => a.cell.val
  · exact (cmpV_cmp.on fun a : Cand => a.cell.val).flip
/-- The comparison of candidates. -/
def cmpC (by_ : Int) : Cand → Cand → Int :=
  thenC (better by_) (thenC (fun a b => cmpI b.trust a.trust) (thenC (fun a b => cmpI b.cell.time a.cell.time) (thenC (fun a b => cmpV a.cell.val b.cell.val) fun a b => cmpI a.at_ b.at_)))
theorem cmpC_cmp (by_ : Int) : Cmp (cmpC by_) :=
  thenC_cmp (better_cmp by_) (thenC_cmp (cmpI_cmp.on fun a : Cand => a.trust).flip (thenC_cmp (cmpI_cmp.on fun a : Cand => a.cell.time).flip (thenC_cmp (cmpV_cmp.on fun a : Cand => a.cell.val) (cmpI_cmp.on fun a : Cand => a.at_))))
theorem cmpC_at {by_ : Int} {a b : Cand} (h : cmpC by_ a b = 0) : a.at_ = b.at_ := by
  unfold cmpC thenC at h
  simp only at h
  (repeat' split at h) <;> first | exact (cmpI_zero _ _).1 h | (exfalso; omega)
theorem cmpC_or (by_ : Int) (a b : Cand) : cmpC by_ a b = orL [better by_ a b, cmpI b.trust a.trust, cmpI b.cell.time a.cell.time, cmpV a.cell.val b.cell.val, cmpI a.at_ b.at_] := by
  unfold cmpC thenC
  simp only [orL_cons]
  by_cases h : cmpI a.at_ b.at_ = 0
  · rw [h]; rfl
  · simp [h, orL]
end Go.Proofs.Ytckihgamnmmbnaa

