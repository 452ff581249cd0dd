/- Bond: the decisions in force, as plain mathematics. -/
import Derived.Test.YtlefkkelohhnkaaB3
import Derived.Test.YtlefkkelohhnkaaVcClear
namespace Go.Proofs.Ytlefkkelohhnkaa
open Go.Vc

def pr (d : Dec) : Key × Key := (d.a, d.b)
def about (q : Key × Key) (d : Dec) : Bool := formed d && decide (pr d = q)
/-- The map of the last formed decisions. -/
def mapK (l : List Dec) : Nat → List ((Key × Key) × Dec)
  | 0 => []
  | k + 1 => if formed (l.getD k default) = true then tset (mapK l k) (pr (l.getD k default)) (l.getD k default) else mapK l k
theorem mapK_nodup (l : List Dec) (k : Nat) : ((mapK l k).map (·.1)).Nodup := by
  induction k with
  | zero => simp [mapK]
  | succ k ih =>
    rw [mapK]; split
    · exact tset_nodup ih _ _
    · exact ih
theorem mapK_get (l : List Dec) (k : Nat) (hk : k ≤ l.length) (q : Key × Key) : tget (mapK l k) q = ((l.take k).filter (about q)).getLast? := by
  induction k with
  | zero => rfl
  | succ k ih =>
    have hg : l.getD k default = l[k] := by simp [List.getD, show k < l.length by omega]
    rw [List.take_succ_eq_append_getElem (by omega), List.filter_append, ← hg, mapK]
    by_cases hf : formed (l.getD k default) = true
    · rw [if_pos hf, tget_tset, ih (by omega)]
      by_cases hq : q = pr (l.getD k default)
      · have ha : about q (l.getD k default) = true := by unfold about; rw [hf, hq]; simp
        rw [if_pos hq, List.filter_cons, if_pos ha, List.filter_nil, List.getLast?_append]; simp
      · have ha : about q (l.getD k default) = false := by unfold about; rw [hf, decide_eq_false (fun e => hq e.symm)]; rfl
        rw [if_neg hq, List.filter_cons, if_neg (by rw [ha]; decide), List.filter_nil, List.append_nil]
    · have ha : about q (l.getD k default) = false := by unfold about; rw [show formed (l.getD k default) = false by simpa only [Bool.not_eq_true] using hf]; rfl
      rw [if_neg hf, ih (by omega), List.filter_cons, if_neg (by rw [ha]; decide), List.filter_nil, List.append_nil]
def isOpen (d : Dec) : Bool := decide (d.kind = 3)
/-- The decision at a place is in force. -/
def lastIx (l : List Dec) (i : Nat) : Prop := formed (l.getD i default) = true ∧ (l.getD i default).kind ≠ 3 ∧ ∀ j, i < j → j < l.length → about (pr (l.getD i default)) (l.getD j default) = false
def inForce (l : List Dec) (d : Dec) : Prop := ∃ i, i < l.length ∧ l.getD i default = d ∧ lastIx l i
theorem mapK_mem (l : List Dec) (d : Dec) : (d ∈ (mapK l l.length).map (·.2) ∧ d.kind ≠ 3) ↔ inForce l d := by
  have key : ∀ q, (q, d) ∈ mapK l l.length ↔ ∃ i, i < l.length ∧ l.getD i default = d ∧ about q d = true ∧ ∀ j, i < j → j < l.length → about q (l.getD j default) = false := fun q => by
    rw [← tget_mem (mapK_nodup l l.length), mapK_get l l.length (Nat.le_refl _), last_iff _ _ _ _ (Nat.le_refl _)]
  constructor
  · rintro ⟨hm, hk⟩
    obtain ⟨⟨q, d'⟩, hm', e⟩ := List.mem_map.1 hm
    simp only at e
    subst e
    obtain ⟨i, h1, h2, h3, h4⟩ := (key q).1 hm'
    unfold about at h3
    rw [Bool.and_eq_true] at h3
    have hq : pr d' = q := of_decide_eq_true h3.2
    refine ⟨i, h1, h2, ?_, ?_, ?_⟩
    · rw [h2]; exact h3.1
    · rw [h2]; exact hk
    · rw [h2, hq]; exact h4
  · rintro ⟨i, h1, h2, h3, h4, h5⟩
    rw [h2] at h3 h4 h5
    refine ⟨List.mem_map.2 ⟨(pr d, d), (key (pr d)).2 ⟨i, h1, h2, ?_, h5⟩, rfl⟩, h4⟩
    unfold about; rw [h3]; simp
theorem mapK_pr (l : List Dec) {q : Key × Key} {d : Dec} (h : (q, d) ∈ mapK l l.length) : q = pr d := by
  rw [← tget_mem (mapK_nodup l l.length), mapK_get l l.length (Nat.le_refl _)] at h
  have := List.mem_of_getLast? h
  have := (List.mem_filter.1 this).2
  unfold about at this
  rw [Bool.and_eq_true] at this
  exact (of_decide_eq_true this.2).symm
theorem cmpDec_pr (a b : Dec) : cmpDec a b = 0 ↔ pr a = pr b := by
  unfold cmpDec thenC pr
  rw [Prod.mk.injEq]
  by_cases h : cmpKey a.a b.a = 0
  · rw [if_pos h, cmpKey_zero, (cmpKey_zero _ _).1 h]; simp
  · rw [if_neg h]
    have : ¬ a.a = b.a := fun e => h ((cmpKey_zero _ _).2 e)
    simp [h, this]

/-- The reference's insertion. -/
def insP (out : List Dec) (d : Dec) : Nat := (out.takeWhile fun x => befD x d).length
def insD (out : List Dec) (d : Dec) : List Dec := out.take (insP out d) ++ [d] ++ out.drop (insP out d)
def lastB (l : List Dec) (i : Nat) : Bool := formed (l.getD i default) && decide ((l.getD i default).kind ≠ 3) && (l.drop (i + 1)).all fun x => !(formed x && decide (x.a = (l.getD i default).a) && decide (x.b = (l.getD i default).b))
theorem lastB_iff (l : List Dec) (i : Nat) : lastB l i = true ↔ lastIx l i := by
  unfold lastB lastIx
  rw [Bool.and_eq_true, Bool.and_eq_true, decide_eq_true_eq, List.all_eq_true, and_assoc]
  refine and_congr Iff.rfl (and_congr Iff.rfl ?_)
  constructor
  · intro h j h1 h2
    have h3 := h (l.getD j default) (by
      rw [List.mem_iff_getElem]
      refine ⟨j - (i + 1), by rw [List.length_drop]; omega, ?_⟩
      rw [List.getElem_drop]
      have : i + 1 + (j - (i + 1)) = j := by omega
      simp [List.getD, this, h2])
    unfold about pr
    rw [Bool.and_assoc] at h3
    have e : decide ((((l.getD j default).a, (l.getD j default).b) : Key × Key) = ((l.getD i default).a, (l.getD i default).b)) = (decide ((l.getD j default).a = (l.getD i default).a) && decide ((l.getD j default).b = (l.getD i default).b)) := by
      rw [← Bool.decide_and]; exact decide_eq_decide.2 (by rw [Prod.mk.injEq])
    rw [e]
    simpa only [Bool.not_eq_true'] using h3
  · intro h x hx
    obtain ⟨j, hj, rfl⟩ := List.getElem_of_mem hx
    rw [List.length_drop] at hj
    rw [List.getElem_drop]
    have h3 := h (i + 1 + j) (by omega) (by omega)
    have hg : l.getD (i + 1 + j) default = l[i + 1 + j] := by simp [List.getD, show i + 1 + j < l.length by omega]
    rw [hg] at h3
    unfold about pr at h3
    have e : decide (((l[i + 1 + j].a, l[i + 1 + j].b) : Key × Key) = ((l.getD i default).a, (l.getD i default).b)) = (decide (l[i + 1 + j].a = (l.getD i default).a) && decide (l[i + 1 + j].b = (l.getD i default).b)) := by
      rw [← Bool.decide_and]; exact decide_eq_decide.2 (by rw [Prod.mk.injEq])
    rw [e, ← Bool.and_assoc] at h3
    rw [h3]; rfl
def effK (l : List Dec) : Nat → List Dec
  | 0 => []
  | k + 1 => if lastB l k = true then insD (effK l k) (l.getD k default) else effK l k
def effL (l : List Dec) : List Dec := effK l l.length
theorem insD_mem (out : List Dec) (d x : Dec) : x ∈ insD out d ↔ x = d ∨ x ∈ out := by
  unfold insD
  rw [List.mem_append, List.mem_append, List.mem_singleton]
  have : x ∈ out ↔ x ∈ out.take (insP out d) ∨ x ∈ out.drop (insP out d) := by rw [← List.mem_append, List.take_append_drop]
  rw [this]
  constructor
  · rintro ((h | h) | h)
    · exact .inr (.inl h)
    · exact .inl h
    · exact .inr (.inr h)
  · rintro (h | h | h)
    · exact .inl (.inr h)
    · exact .inl (.inl h)
    · exact .inr h
theorem insD_sorted {out : List Dec} {d : Dec} (h : out.Pairwise fun a b => cmpDec a b < 0) (hn : ∀ x ∈ out, cmpDec x d ≠ 0) : (insD out d).Pairwise fun a b => cmpDec a b < 0 := by
  have ht : out.take (insP out d) = out.takeWhile fun x => befD x d := by
    unfold insP
    exact (List.prefix_iff_eq_take.1 (List.takeWhile_prefix _)).symm
  have h1 : ∀ x ∈ out.take (insP out d), cmpDec x d < 0 := fun x hx => by
    rw [ht] at hx
    exact of_decide_eq_true (List.all_eq_true.1 (List.all_takeWhile (p := fun x => befD x d) (l := out)) x hx)
  have hsplit := List.take_append_drop (insP out d) out
  have hp : (out.take (insP out d) ++ out.drop (insP out d)).Pairwise fun a b => cmpDec a b < 0 := by rw [hsplit]; exact h
  have hp := List.pairwise_append.1 hp
  have h2 : ∀ y ∈ out.drop (insP out d), cmpDec d y < 0 := by
    have hd : out.drop (insP out d) = out.dropWhile fun x => befD x d := by
      have e := List.takeWhile_append_dropWhile (p := fun x => befD x d) (l := out)
      have := hsplit
      rw [ht] at this
      exact List.append_cancel_left (this.trans e.symm)
    cases hr : out.drop (insP out d) with
    | nil => intro y hy; cases hy
    | cons z r =>
      have hz : befD z d = false := by
        have h3 : out.dropWhile (fun x => befD x d) ≠ [] := by rw [← hd, hr]; simp
        have := List.head_dropWhile_not (fun x => befD x d) h3
        have e : (out.dropWhile fun x => befD x d).head h3 = z := by
          have h4 : (out.dropWhile fun x => befD x d) = z :: r := by rw [← hd, hr]
          simp [h4]
        rw [e] at this
        simpa using this
      have hzo : z ∈ out := by rw [← hsplit, hr]; simp
      have hz2 : cmpDec d z < 0 := by
        have h4 : ¬ cmpDec z d < 0 := of_decide_eq_false hz
        have := hn z hzo
        have := cmpDec_cmp.anti z d
        omega
      have hp2 := hp.2.1
      rw [hr] at hp2
      intro y hy
      rcases List.mem_cons.1 hy with e | hy
      · rw [e]; exact hz2
      · have := (List.pairwise_cons.1 hp2).1 y hy
        exact cmpDec_cmp.transL hz2 (by omega)
  unfold insD
  rw [List.append_assoc, List.pairwise_append]
  refine ⟨hp.1, ?_, ?_⟩
  · rw [List.singleton_append, List.pairwise_cons]
    exact ⟨h2, hp.2.1⟩
  · intro x hx y hy
    rcases List.mem_cons.1 hy with e | hy
    · rw [e]; exact h1 x hx
    · exact hp.2.2 x hx y hy
theorem effK_mem (l : List Dec) (k : Nat) (d : Dec) : d ∈ effK l k ↔ ∃ i, i < k ∧ l.getD i default = d ∧ lastIx l i := by
  induction k with
  | zero => simp [effK]
  | succ k ih =>
    rw [effK]
    by_cases h : lastB l k = true
    · rw [if_pos h, insD_mem, ih]
      constructor
      · rintro (e | ⟨i, h1, h2⟩)
        · exact ⟨k, by omega, e.symm, (lastB_iff l k).1 h⟩
        · exact ⟨i, by omega, h2⟩
      · rintro ⟨i, h1, h2, h3⟩
        by_cases hik : i = k
        · subst hik; exact .inl h2.symm
        · exact .inr ⟨i, by omega, h2, h3⟩
    · rw [if_neg h, ih]
      constructor
      · rintro ⟨i, h1, h2⟩; exact ⟨i, by omega, h2⟩
      · rintro ⟨i, h1, h2, h3⟩
        by_cases hik : i = k
        · subst hik; exact absurd ((lastB_iff l i).2 h3) h
        · exact ⟨i, by omega, h2, h3⟩
theorem effK_sorted (l : List Dec) (k : Nat) (hk : k ≤ l.length) : (effK l k).Pairwise fun a b => cmpDec a b < 0 := by
  induction k with
  | zero => simp [effK]
  | succ k ih =>
    rw [effK]
    by_cases h : lastB l k = true
    · rw [if_pos h]
      refine insD_sorted (ih (by omega)) fun x hx e => ?_
      obtain ⟨i, h1, h2, h3⟩ := (effK_mem l k x).1 hx
      have h4 := h3.2.2 k h1 (by omega)
      have hl := (lastB_iff l k).1 h
      unfold about at h4
      rw [hl.1, h2, (cmpDec_pr _ _).1 e] at h4
      simp at h4
    · rw [if_neg h]; exact ih (by omega)
theorem effL_sorted (l : List Dec) : (effL l).Pairwise fun a b => cmpDec a b < 0 := effK_sorted l _ (Nat.le_refl _)
theorem effL_mem (l : List Dec) (d : Dec) : d ∈ effL l ↔ inForce l d := effK_mem l l.length d
theorem cmpDec_irr (a b : Dec) (h1 : cmpDec a b < 0) (h2 : cmpDec b a < 0) : False := by have := cmpDec_cmp.anti a b; omega
theorem effL_unique {l out : List Dec} (h1 : out.Pairwise fun a b => cmpDec a b < 0) (h2 : ∀ d, d ∈ out ↔ inForce l d) : out = effL l :=
  sorted_ext cmpDec_irr h1 (effL_sorted l) fun x => by rw [h2, effL_mem]
theorem insD_len (out : List Dec) (d : Dec) : (insD out d).length = out.length + 1 := by
  have : insP out d ≤ out.length := by unfold insP; exact (List.takeWhile_prefix _).length_le
  unfold insD; simp; omega
theorem effK_len (l : List Dec) (k : Nat) : (effK l k).length ≤ k := by
  induction k with
  | zero => simp [effK]
  | succ k ih =>
    rw [effK]; split
    · rw [insD_len]; omega
    · omega
end Go.Proofs.Ytlefkkelohhnkaa
