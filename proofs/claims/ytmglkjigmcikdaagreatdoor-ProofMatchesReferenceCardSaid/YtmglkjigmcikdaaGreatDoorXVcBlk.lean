/- Own library: ways, repairs, and what bounds say, plainly. No program. -/
import Derived.Test.YtmglkjigmcikdaaGreatDoorXVcDiv
import Derived.Test.YtmglkjigmcikdaaGreatDoorXVcClear
import Derived.Test.YtmglkjigmcikdaaGreatDoorXVcRun3
namespace Go.Vc
structure Wy where
 pos : List Int
 neg : List Int
instance : Inhabited Wy := ⟨⟨[], []⟩⟩
def wyB (n : Int) (w : Wy) : Bool := setB w.pos n && setB w.neg n
def readyG (g : Gr) (W : List Wy) : Bool := validG g && decide (W.length ≤ 400) && W.all (wyB g.n)
def holdW (R : List Int) (w : Wy) : Bool := (w.pos.all fun v => decide (v ∈ R)) && w.neg.all fun v => !decide (v ∈ R)
def someW (W : List Wy) (R : List Int) : Bool := W.any (holdW R)
structure IsRep (g : Gr) (R : List Int) : Prop where
 set : setB R g.n = true
 free : ∀ e ∈ g.edges, subB e R = false
 max : ∀ v, 0 ≤ v → v < g.n → v ∉ R → ∃ e ∈ g.edges, v ∈ e ∧ ∀ x ∈ e, x ≠ v → x ∈ R
end Go.Vc
/- Own library: how an independent set is extended, plainly. No program. -/
namespace Go.Vc
def blkB (E : List (List Int)) (P : List Int) (v : Int) : Bool := E.any fun e => decide (v ∈ e) && e.all fun x => decide (x = v) || decide (x ∈ P)
theorem blkB_iff {E : List (List Int)} {P : List Int} {v : Int} : blkB E P v = true ↔ ∃ e ∈ E, v ∈ e ∧ ∀ x ∈ e, x ≠ v → x ∈ P := by
 unfold blkB
 simp only [List.any_eq_true, Bool.and_eq_true, decide_eq_true_eq, List.all_eq_true, Bool.or_eq_true]
 constructor
 ·rintro ⟨e, he, hv, h⟩
  exact ⟨e, he, hv, fun x hx hne => (h x hx).resolve_left hne⟩
 ·rintro ⟨e, he, hv, h⟩
  exact ⟨e, he, hv, fun x hx => by by_cases e : x = v <;> simp [e, h x hx]⟩
theorem blkB_mono {E : List (List Int)} {P Q : List Int} {v : Int} (hs : ∀ x ∈ P, x ∈ Q) (h : blkB E P v = true) : blkB E Q v = true := by
 obtain ⟨e, he, hv, hx⟩ := blkB_iff.1 h
 exact blkB_iff.2 ⟨e, he, hv, fun x h1 h2 => hs x (hx x h1 h2)⟩
def indB (E : List (List Int)) (P : List Int) : Bool := E.all fun e => !subB e P
theorem indB_iff {E : List (List Int)} {P : List Int} : indB E P = true ↔ ∀ e ∈ E, subB e P = false := by simp [indB]
theorem ind_snoc {E : List (List Int)} {P : List Int} {v : Int} (h : indB E P = true) (hb : blkB E P v = false) : indB E (P ++ [v]) = true := by
 refine indB_iff.2 fun e he => ?_
 cases hs : subB e (P ++ [v]) with
 | false => rfl
 | true =>
  have hx := subB_iff.1 hs
  by_cases hv : v ∈ e
  ·rw [blkB_iff.2 ⟨e, he, hv, fun x h1 h2 => by have := hx x h1; simp at this; exact this.resolve_right h2⟩] at hb; cases hb
  ·have := indB_iff.1 h e he
   rw [subB_iff.2 fun x h1 => by
    have h2 := hx x h1
    simp at h2
    exact h2.resolve_right fun e2 => hv (e2 ▸ h1)] at this
   cases this
def loadB (g : Gr) (S : List Int) : Bool := validG g && setB S g.n && indB g.edges S
theorem loadB_iff {g : Gr} {S : List Int} : loadB g S = true ↔ validG g = true ∧ setB S g.n = true ∧ indB g.edges S = true := by
 unfold loadB; simp only [Bool.and_eq_true]; exact ⟨fun h => ⟨h.1.1, h.1.2, h.2⟩, fun h => ⟨⟨h.1, h.2.1⟩, h.2.2⟩⟩
def stepX (E : List (List Int)) (P : List Int) (v : Int) : List Int := if v ∈ P ∨ blkB E P v = true then P else P ++ [v]
theorem stepX_sub {E : List (List Int)} {P : List Int} {v x : Int} (h : x ∈ P) : x ∈ stepX E P v := by
 unfold stepX; split
 ·exact h
 ·exact List.mem_append_left _ h
def extK (E : List (List Int)) (P : List Int) (k : Nat) : List Int := (List.range k).foldl (fun Q v => stepX E Q ((v : Nat) : Int)) P
theorem extK_succ (E : List (List Int)) (P : List Int) (k : Nat) : extK E P (k + 1) = stepX E (extK E P k) (k : Int) := by unfold extK; rw [List.range_succ, List.foldl_append]; rfl
theorem extK_mono {E : List (List Int)} {P : List Int} {k : Nat} {x : Int} : ∀ {m : Nat}, k ≤ m → x ∈ extK E P k → x ∈ extK E P m := by
 intro m
 induction m with
 | zero =>
   intro h hx; obtain rfl : k = 0 := by omega
   exact hx
 | succ m ih =>
  intro h hx
  by_cases e : k = m + 1
  ·rw [← e]; exact hx
  ·rw [extK_succ]; exact stepX_sub (ih (by omega) hx)
theorem extK_sub {E : List (List Int)} {P : List Int} (k : Nat) {x : Int} (h : x ∈ P) : x ∈ extK E P k := extK_mono (k := 0) (Nat.zero_le _) h
theorem extK_dec {E : List (List Int)} {P : List Int} {v : Nat} : ∀ {k : Nat}, v < k → (v : Int) ∈ extK E P k ∨ blkB E (extK E P k) v = true := by
 intro k
 induction k with
 | zero => intro h; omega
 | succ k ih =>
  intro h
  rw [extK_succ]
  by_cases e : v = k
  ·subst e
   unfold stepX
   split
   ·assumption
   ·left; simp
  ·rcases ih (by omega) with h1 | h1
   ·exact .inl (stepX_sub h1)
   ·exact .inr (blkB_mono (fun x hx => stepX_sub hx) h1)
theorem extK_mem {E : List (List Int)} {P : List Int} {x : Int} : ∀ {k : Nat}, x ∈ extK E P k → x ∈ P ∨ 0 ≤ x ∧ x < k := by
 intro k
 induction k with
 | zero => intro h; exact .inl h
 | succ k ih =>
  intro h
  rw [extK_succ] at h
  unfold stepX at h
  split at h
  ·rcases ih h with h | h
   ·exact .inl h
   ·right; omega
  ·rw [List.mem_append, List.mem_singleton] at h
   rcases h with h | h
   ·rcases ih h with h | h
    ·exact .inl h
    ·right; omega
   ·right; omega
theorem extK_ind {E : List (List Int)} {P : List Int} (h : indB E P = true) : ∀ k, indB E (extK E P k) = true := by
 intro k
 induction k with
 | zero => exact h
 | succ k ih =>
  rw [extK_succ]
  unfold stepX
  split
  ·exact ih
  ·rename_i hn
   exact ind_snoc ih (by cases hb : blkB E (extK E P k) k with
    | false => rfl
    | true => exact absurd (.inr hb) hn)
def memK (P : List Int) (k : Nat) : List Int := ((List.range k).filter fun i => decide (((i : Nat) : Int) ∈ P)).map fun i => ((i : Nat) : Int)
theorem memK_mem {P : List Int} {k : Nat} {x : Int} : x ∈ memK P k ↔ 0 ≤ x ∧ x < k ∧ x ∈ P := by
 unfold memK
 rw [List.mem_map]
 constructor
 ·rintro ⟨i, hi, rfl⟩
  rw [List.mem_filter, List.mem_range] at hi
  exact ⟨by omega, by omega, by simpa using hi.2⟩
 ·rintro ⟨h1, h2, h3⟩
  refine ⟨x.toNat, List.mem_filter.2 ⟨List.mem_range.2 (by omega), decide_eq_true ?_⟩, by omega⟩
  rw [show ((x.toNat : Nat) : Int) = x by omega]; exact h3
theorem memK_inc (P : List Int) (k : Nat) : Inc (memK P k) := filt_inc _ k
def extF (g : Gr) (S : List Int) : List Int := memK (extK g.edges S g.n.toNat) g.n.toNat
theorem ext_rep {g : Gr} {S : List Int} (h : loadB g S = true) : IsRep g (extF g S) ∧ ∀ x ∈ S, x ∈ extF g S := by
 obtain ⟨hg, hs, hi⟩ := loadB_iff.1 h
 have hn := costB_iff.1 (validG_iff.1 hg).1
 have hsr := (setB_iff.1 hs).2
 have hmem : ∀ x, x ∈ extF g S ↔ x ∈ extK g.edges S g.n.toNat := fun x => by
  unfold extF
  rw [memK_mem]
  refine ⟨fun h => h.2.2, fun h => ?_⟩
  rcases extK_mem h with h1 | h1
  ·have := hsr x h1; exact ⟨this.1, by omega, h⟩
  ·exact ⟨h1.1, h1.2, h⟩
 refine ⟨⟨setB_iff.2 ⟨memK_inc _ _, fun x hx => ?_⟩, fun e he => ?_, fun v h0 h1 hv => ?_⟩, fun x hx => (hmem x).2 (extK_sub _ hx)⟩
 ·have := memK_mem.1 hx
  exact ⟨this.1, by have := this.2.1; have := hn.1; omega⟩
 ·cases hs2 : subB e (extF g S) with
  | false => rfl
  | true =>
   have := indB_iff.1 (extK_ind hi g.n.toNat) e he
   rw [subB_iff.2 fun x hx => (hmem x).1 (subB_iff.1 hs2 x hx)] at this; cases this
 ·rw [hmem] at hv
  have := extK_dec (E := g.edges) (P := S) (v := v.toNat) (k := g.n.toNat) (by omega)
  rw [show ((v.toNat : Nat) : Int) = v by omega] at this
  obtain ⟨e, he, hve, hx⟩ := blkB_iff.1 (this.resolve_left hv)
  exact ⟨e, he, hve, fun x h1 h2 => (hmem x).2 (hx x h1 h2)⟩
end Go.Vc
/- Own library: counts and marks in maps, plainly. No program. -/
namespace Go.Vc
end Go.Vc
/- Own library: the edges of a vertex, and how many vertices of an edge are in, plainly. No program. -/
namespace Go.Vc
def adjK (E : List (List Int)) (k : Nat) (v : Int) : List Int := ((List.range k).filter fun i => decide (v ∈ E.getD i default)).map fun i => ((i : Nat) : Int)
theorem adjK_succ (E : List (List Int)) (k : Nat) (v : Int) : adjK E (k + 1) v = adjK E k v ++ if v ∈ E.getD k default then [(k : Int)] else [] := by
 unfold adjK
 rw [List.range_succ, List.filter_append, List.map_append]
 congr 1
 by_cases h : v ∈ E.getD k default
 ·rw [if_pos h, List.filter_cons_of_pos (by simpa using h)]; rfl
 ·rw [if_neg h, List.filter_cons_of_neg (by simpa using h)]; rfl
theorem adjK_mem {E : List (List Int)} {k : Nat} {v x : Int} : x ∈ adjK E k v ↔ ∃ i, i < k ∧ v ∈ E.getD i default ∧ x = (i : Int) := by
 unfold adjK
 rw [List.mem_map]
 constructor
 ·rintro ⟨i, hi, rfl⟩
  rw [List.mem_filter, List.mem_range, decide_eq_true_eq] at hi
  exact ⟨i, hi.1, hi.2, rfl⟩
 ·rintro ⟨i, h1, h2, rfl⟩
  exact ⟨i, List.mem_filter.2 ⟨List.mem_range.2 h1, decide_eq_true h2⟩, rfl⟩
theorem adjK_len (E : List (List Int)) (k : Nat) (v : Int) : (adjK E k v).length ≤ k := by
 unfold adjK; rw [List.length_map]; exact Nat.le_trans (List.length_filter_le _ _) (by simp)
end Go.Vc
/- Own library: four results. -/
namespace Go.Vc
end Go.Vc
/- Own library: ranges of sums over repairs, plainly. No program. -/
namespace Go.Vc
end Go.Vc
/- Own library: blocks; what a repair does in a component; the ranges of weights. Plain. -/
namespace Go.Vc
end Go.Vc
