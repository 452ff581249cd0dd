/- Own library: clusters united step by step, plainly. No program. -/
import Derived.Test.YtglaigeellpikaaXVcClu
import Derived.Test.YtglaigeellpikaaXVcRng
namespace Go.Vc
/-! ### sums -/
theorem sm_add {α : Type} (f g : α → Int) : ∀ l : List α, sm (l.map fun x => f x + g x) = sm (l.map f) + sm (l.map g)
  | [] => rfl
  | x :: l => by show f x + g x + sm _ = f x + sm _ + (g x + sm _); rw [sm_add f g l]; omega
theorem sm_zero {α : Type} (f : α → Int) {l : List α} (h : ∀ x ∈ l, f x = 0) : sm (l.map f) = 0 := by
  rw [sm_congr f (fun _ => 0) h]
  clear h
  induction l with
  | nil => rfl
  | cons x l ih => show 0 + sm _ = 0; rw [ih]; rfl
theorem sm_swap {α β : Type} (f : α → β → Int) : ∀ (l : List α) (m : List β), sm (l.map fun x => sm (m.map fun y => f x y)) = sm (m.map fun y => sm (l.map fun x => f x y))
  | [], m => by rw [List.map_nil]; exact (sm_zero _ fun _ _ => rfl).symm
  | x :: l, m => by
    have ih := sm_swap f l m
    show sm _ + sm _ = sm (m.map fun y => f x y + sm (l.map fun x => f x y))
    rw [sm_add, ih]
theorem sm_one {α : Type} [DecidableEq α] (f : α → Int) (a : α) : ∀ {l : List α}, l.Nodup → a ∈ l → sm (l.map fun x => if x = a then f x else 0) = f a
  | [], _, h => by cases h
  | x :: l, hn, h => by
    have hn := List.nodup_cons.1 hn
    show (if x = a then f x else 0) + sm _ = f a
    by_cases e : x = a
    · subst e
      rw [if_pos rfl, sm_zero _ fun y hy => by rw [if_neg (fun e : y = x => hn.1 (e ▸ hy))]]; omega
    · rw [if_neg e, sm_one f a hn.2 ((List.mem_cons.1 h).resolve_left fun h => e h.symm)]; omega
theorem sm_perm {l m : List Int} (h : l.Perm m) : sm l = sm m := by
  induction h with
  | nil => rfl
  | cons x _ ih => show x + _ = x + _; rw [ih]
  | swap x y l => show y + (x + sm l) = x + (y + sm l); omega
  | trans _ _ i1 i2 => exact i1.trans i2
/-! ### clusters -/
/-- The weight between two classes, whichever is named first. -/
def wtS (wt : Int → Int → Int) (c d : Int) : Int := if c < d then wt c d else if d < c then wt d c else 0
theorem wtS_comm (wt : Int → Int → Int) (c d : Int) : wtS wt c d = wtS wt d c := by unfold wtS; (repeat' split) <;> first | rfl | omega
/-- The weight between two clusters. -/
def btw (wt : Int → Int → Int) (cs : List Int) (h : Int → Int) (a b : Int) : Int := sm (cs.map fun c => sm (cs.map fun d => if h c = a ∧ h d = b then wtS wt c d else 0))
/-- Two clusters are decided to be different. -/
def apH (ap : Int → Int → Bool) (cs : List Int) (h : Int → Int) (a b : Int) : Prop := ∃ c ∈ cs, ∃ d ∈ cs, h c = a ∧ h d = b ∧ ap c d = true
theorem btw_comm (wt : Int → Int → Int) (cs : List Int) (h : Int → Int) (a b : Int) : btw wt cs h a b = btw wt cs h b a := by
  unfold btw
  rw [sm_swap]
  refine sm_congr _ _ fun d _ => sm_congr _ _ fun c _ => ?_
  by_cases e : h c = a ∧ h d = b
  · rw [if_pos e, if_pos ⟨e.2, e.1⟩, wtS_comm]
  · rw [if_neg e, if_neg (fun e' => e ⟨e'.2, e'.1⟩)]
def mrg (h : Int → Int) (p : Int × Int) : Int → Int := fun c => if h c = p.2 then p.1 else h c
theorem btw_left {wt : Int → Int → Int} {cs : List Int} {h : Int → Int} {x y b : Int} (hxy : x ≠ y) (hb : b ≠ x) (hb2 : b ≠ y) : btw wt cs (mrg h (x, y)) x b = btw wt cs h x b + btw wt cs h y b := by
  unfold btw
  rw [← sm_add]
  refine sm_congr _ _ fun c _ => ?_
  rw [← sm_add]
  refine sm_congr _ _ fun d _ => ?_
  have e1 : mrg h (x, y) d = b ↔ h d = b := by unfold mrg; dsimp only; split <;> omega
  have e2 : mrg h (x, y) c = x ↔ h c = x ∨ h c = y := by unfold mrg; dsimp only; split <;> omega
  simp only [e1, e2]
  by_cases hd : h d = b
  · by_cases h1 : h c = x
    · rw [if_pos ⟨.inl h1, hd⟩, if_pos ⟨h1, hd⟩, if_neg (fun h2 => hxy (h1.symm.trans h2.1))]; omega
    · by_cases h2 : h c = y
      · rw [if_pos ⟨.inr h2, hd⟩, if_neg (fun h3 => h1 h3.1), if_pos ⟨h2, hd⟩]; omega
      · rw [if_neg (fun h3 => h3.1.elim h1 h2), if_neg (fun h3 => h1 h3.1), if_neg (fun h3 => h2 h3.1)]; rfl
  · rw [if_neg (fun h3 => hd h3.2), if_neg (fun h3 => hd h3.2), if_neg (fun h3 => hd h3.2)]; rfl
theorem btw_same {wt : Int → Int → Int} {cs : List Int} {h : Int → Int} {x y a b : Int} (ha : a ≠ x) (ha2 : a ≠ y) (hb : b ≠ x) (hb2 : b ≠ y) : btw wt cs (mrg h (x, y)) a b = btw wt cs h a b := by
  unfold btw
  refine sm_congr _ _ fun c _ => sm_congr _ _ fun d _ => ?_
  have e1 : mrg h (x, y) d = b ↔ h d = b := by unfold mrg; dsimp only; split <;> omega
  have e2 : mrg h (x, y) c = a ↔ h c = a := by unfold mrg; dsimp only; split <;> omega
  simp only [e1, e2]
theorem btw_start {wt : Int → Int → Int} {cs : List Int} (hn : cs.Nodup) {a b : Int} (ha : a ∈ cs) (hb : b ∈ cs) : btw wt cs (fun c => c) a b = wtS wt a b := by
  unfold btw
  have e : ∀ c, sm (cs.map fun d => if c = a ∧ d = b then wtS wt c d else 0) = if c = a then wtS wt c b else 0 := fun c => by
    by_cases h : c = a
    · rw [if_pos h, sm_congr (fun d => if c = a ∧ d = b then wtS wt c d else 0) (fun d => if d = b then wtS wt c d else 0) fun d _ => by simp [h], sm_one (fun d => wtS wt c d) b hn hb]
    · rw [if_neg h]; exact sm_zero _ fun d _ => by rw [if_neg (fun e => h e.1)]
  rw [sm_congr _ _ fun c _ => e c]
  exact sm_one (fun c => wtS wt c b) a hn ha
/-- A pair of clusters that may be united. -/
structure Cand (wt : Int → Int → Int) (ap : Int → Int → Bool) (cs : List Int) (h : Int → Int) (p : Int × Int) : Prop where
  m1 : p.1 ∈ cs
  m2 : p.2 ∈ cs
  h1 : h p.1 = p.1
  h2 : h p.2 = p.2
  lt : p.1 < p.2
  free : ¬ apH ap cs h p.1 p.2
  pos : 0 < btw wt cs h p.1 p.2
/-- The order of pairs. -/
def ltP (p q : Int × Int) : Prop := p.1 < q.1 ∨ (p.1 = q.1 ∧ p.2 < q.2)
instance : DecidableRel ltP := fun p q => by unfold ltP; infer_instance
/-- The pair that is united next. -/
structure IsNext (wt : Int → Int → Int) (ap : Int → Int → Bool) (cs : List Int) (h : Int → Int) (p : Int × Int) : Prop where
  cand : Cand wt ap cs h p
  best : ∀ q, Cand wt ap cs h q → btw wt cs h q.1 q.2 < btw wt cs h p.1 p.2 ∨ (btw wt cs h q.1 q.2 = btw wt cs h p.1 p.2 ∧ (q = p ∨ ltP p q))
theorem IsNext.unique {wt : Int → Int → Int} {ap : Int → Int → Bool} {cs : List Int} {h : Int → Int} {p q : Int × Int} (hp : IsNext wt ap cs h p) (hq : IsNext wt ap cs h q) : p = q := by
  rcases hp.best q hq.cand with h1 | ⟨h1, h2 | h2⟩
  · rcases hq.best p hp.cand with h3 | ⟨h3, _⟩ <;> omega
  · exact h2.symm
  · rcases hq.best p hp.cand with h3 | ⟨h3, h4 | h4⟩
    · omega
    · exact h4
    · unfold ltP at h2 h4; omega
/-- The clusters in the end. -/
inductive Grd (wt : Int → Int → Int) (ap : Int → Int → Bool) (cs : List Int) : (Int → Int) → (Int → Int) → Prop
  | stop (h : Int → Int) : (∀ p, ¬ Cand wt ap cs h p) → Grd wt ap cs h h
  | step (h h' : Int → Int) (p : Int × Int) : IsNext wt ap cs h p → Grd wt ap cs (mrg h p) h' → Grd wt ap cs h h'
theorem Grd.unique {wt : Int → Int → Int} {ap : Int → Int → Bool} {cs : List Int} {h h1 h2 : Int → Int} (g1 : Grd wt ap cs h h1) (g2 : Grd wt ap cs h h2) : h1 = h2 := by
  induction g1 with
  | stop h hn =>
    cases g2 with
    | stop _ _ => rfl
    | step _ _ p hp _ => exact absurd hp.cand (hn p)
  | step h h1 p hp _ ih =>
    cases g2 with
    | stop _ hn => exact absurd hp.cand (hn p)
    | step _ _ q hq g2 => rw [hq.unique hp] at g2; exact ih g2
/-- Heads are heads, and the least of their clusters. -/
structure HOk (cs : List Int) (h : Int → Int) : Prop where
  mem : ∀ c ∈ cs, h c ∈ cs
  idem : ∀ c ∈ cs, h (h c) = h c
  le : ∀ c ∈ cs, h c ≤ c
theorem HOk.start (cs : List Int) : HOk cs (fun c => c) := ⟨fun _ h => h, fun _ _ => rfl, fun _ _ => Int.le_refl _⟩
theorem HOk.unite {cs : List Int} {h : Int → Int} (k : HOk cs h) {p : Int × Int} (m1 : p.1 ∈ cs) (h1 : h p.1 = p.1) (_h2 : h p.2 = p.2) (lt : p.1 < p.2) : HOk cs (mrg h p) := by
  have e1 : mrg h p p.1 = p.1 := by unfold mrg; rw [if_neg (by omega), h1]
  refine ⟨fun c hc => ?_, fun c hc => ?_, fun c hc => ?_⟩
  · unfold mrg; split
    · exact m1
    · exact k.mem c hc
  · by_cases e : h c = p.2
    · have : mrg h p c = p.1 := by unfold mrg; rw [if_pos e]
      rw [this, e1]
    · have : mrg h p c = h c := by unfold mrg; rw [if_neg e]
      rw [this]
      unfold mrg
      rw [k.idem c hc, if_neg e]
  · have := k.le c hc
    unfold mrg; split
    · omega
    · exact this
/-- How many clusters there are. -/
def nHd (cs : List Int) (h : Int → Int) : Nat := (cs.filter fun c => decide (h c = c)).length
theorem nHd_mrg {cs : List Int} {h : Int → Int} {p : Int × Int} (m2 : p.2 ∈ cs) (h1 : h p.1 = p.1) (h2 : h p.2 = p.2) (lt : p.1 < p.2) : nHd cs (mrg h p) < nHd cs h := by
  have key : ∀ l : List Int, (l.filter fun c => decide (mrg h p c = c)).length ≤ (l.filter fun c => decide (h c = c)).length ∧ (p.2 ∈ l → (l.filter fun c => decide (mrg h p c = c)).length < (l.filter fun c => decide (h c = c)).length) := by
    intro l
    induction l with
    | nil => exact ⟨Nat.le_refl _, fun h => by cases h⟩
    | cons c l ih =>
      rw [List.filter_cons, List.filter_cons]
      by_cases e : c = p.2
      · have n1 : ¬ mrg h p c = c := by unfold mrg; rw [e, if_pos h2]; omega
        rw [if_neg (by simpa using n1), if_pos (by simp [e, h2])]
        rw [List.length_cons]
        exact ⟨by omega, fun _ => by omega⟩
      · have n1 : mrg h p c = c → h c = c := by
          unfold mrg
          split
          · intro h3; rename_i h4; rw [← h3] at h4; omega
          · exact fun h => h
        by_cases e2 : mrg h p c = c
        · rw [if_pos (by simpa using e2), if_pos (by simpa using n1 e2), List.length_cons, List.length_cons]
          exact ⟨by omega, fun hm => by have := ih.2 ((List.mem_cons.1 hm).resolve_left fun h => e h.symm); omega⟩
        · rw [if_neg (by simpa using e2)]
          split
          · rw [List.length_cons]; exact ⟨by omega, fun hm => by omega⟩
          · exact ⟨ih.1, fun hm => ih.2 ((List.mem_cons.1 hm).resolve_left fun h => e h.symm)⟩
  exact (key cs).2 m2
theorem apH_comm {ap : Int → Int → Bool} (hs : ∀ a b, ap a b = ap b a) {cs : List Int} {h : Int → Int} {a b : Int} : apH ap cs h a b ↔ apH ap cs h b a := by
  constructor <;> (rintro ⟨c, hc, d, hd, e1, e2, e3⟩; exact ⟨d, hd, c, hc, e2, e1, by rw [hs]; exact e3⟩)
theorem apH_left {ap : Int → Int → Bool} {cs : List Int} {h : Int → Int} {x y b : Int} (hb : b ≠ x) (hb2 : b ≠ y) : apH ap cs (mrg h (x, y)) x b ↔ apH ap cs h x b ∨ apH ap cs h y b := by
  have e1 : ∀ d, mrg h (x, y) d = b ↔ h d = b := fun d => by unfold mrg; dsimp only; split <;> omega
  have e2 : ∀ c, mrg h (x, y) c = x ↔ h c = x ∨ h c = y := fun c => by unfold mrg; dsimp only; split <;> omega
  constructor
  · rintro ⟨c, hc, d, hd, h1, h2, h3⟩
    rcases (e2 c).1 h1 with h1 | h1
    · exact .inl ⟨c, hc, d, hd, h1, (e1 d).1 h2, h3⟩
    · exact .inr ⟨c, hc, d, hd, h1, (e1 d).1 h2, h3⟩
  · rintro (⟨c, hc, d, hd, h1, h2, h3⟩ | ⟨c, hc, d, hd, h1, h2, h3⟩)
    · exact ⟨c, hc, d, hd, (e2 c).2 (.inl h1), (e1 d).2 h2, h3⟩
    · exact ⟨c, hc, d, hd, (e2 c).2 (.inr h1), (e1 d).2 h2, h3⟩
theorem apH_same {ap : Int → Int → Bool} {cs : List Int} {h : Int → Int} {x y a b : Int} (ha : a ≠ x) (ha2 : a ≠ y) (hb : b ≠ x) (hb2 : b ≠ y) : apH ap cs (mrg h (x, y)) a b ↔ apH ap cs h a b := by
  have e1 : ∀ d, mrg h (x, y) d = b ↔ h d = b := fun d => by unfold mrg; dsimp only; split <;> omega
  have e2 : ∀ c, mrg h (x, y) c = a ↔ h c = a := fun c => by unfold mrg; dsimp only; split <;> omega
  constructor
  · rintro ⟨c, hc, d, hd, h1, h2, h3⟩; exact ⟨c, hc, d, hd, (e2 c).1 h1, (e1 d).1 h2, h3⟩
  · rintro ⟨c, hc, d, hd, h1, h2, h3⟩; exact ⟨c, hc, d, hd, (e2 c).2 h1, (e1 d).2 h2, h3⟩
end Go.Vc
