/- Own library: the repairs that have the best vertex of each block. Plain. -/
import Derived.Test.YtmglkjigmcikdaaGreatDoorXVcBlk
namespace Go.Vc
end Go.Vc
/- Own library: the graph of some components; ranges of its parts; opposite weights. Plain. -/
namespace Go.Vc
end Go.Vc
/- Own library: all repairs of a graph, in order, by a search that leaves out what cannot be one. Plain. -/
namespace Go.Vc
def outN (e P : List Int) (k : Nat) : Nat := (e.filter fun x => decide (x < (k : Int)) && !decide (x ∈ P)).length
def below (R : List Int) (v : Nat) : List Int := R.filter fun x => decide (x < (v : Int))
theorem out_one {e P : List Int} {N w : Nat} (hn : e.Nodup) (hr : ∀ x ∈ e, x < (N : Int)) (hw : (w : Int) ∈ e) (hP : (w : Int) ∉ P) : outN e P N = 1 ↔ ∀ x ∈ e, x ≠ (w : Int) → x ∈ P := by
 have e1 : (e.filter fun x => decide (x < (N : Int)) && !decide (x ∈ P)) = e.filter fun x => !decide (x ∈ P) := List.filter_congr fun x hx => by rw [decide_eq_true (hr x hx), Bool.true_and]
 unfold outN
 rw [e1]
 have hm : (w : Int) ∈ e.filter fun x => !decide (x ∈ P) := List.mem_filter.2 ⟨hw, by simpa using hP⟩
 constructor
 ·intro h x hx hne
  refine Classical.byContradiction fun hxP => ?_
  have hx2 : x ∈ e.filter fun x => !decide (x ∈ P) := List.mem_filter.2 ⟨hx, by simpa using hxP⟩
  match he : (e.filter fun x => !decide (x ∈ P)), h with
  | [a], _ =>
   rw [he, List.mem_singleton] at hm hx2
   exact hne (hx2.trans hm.symm)
 ·intro h
  have : (e.filter fun x => !decide (x ∈ P)) = [(w : Int)] := by
   have hnd := hn.sublist (List.filter_sublist (p := fun x => !decide (x ∈ P)) (l := e))
   have hall : ∀ x ∈ e.filter (fun x => !decide (x ∈ P)), x = (w : Int) := fun x hx => by
    obtain ⟨h1, h2⟩ := List.mem_filter.1 hx
    refine Classical.byContradiction fun hne => ?_
    have := h x h1 hne
    simp [this] at h2
   match he : (e.filter fun x => !decide (x ∈ P)), hm with
   | a :: l, _ =>
    rw [he] at hall hnd
    have ha := hall a (by simp)
    match l with
    | [] => rw [ha]
    | b :: l =>
     have hb := hall b (by simp)
     exact absurd (ha.trans hb.symm) (by have := (List.nodup_cons.1 hnd).1; intro e; exact this (by simp [e]))
  rw [this]; rfl
end Go.Vc
/- Own library: the repairs of the parts of a graph. Plain. -/
namespace Go.Vc
end Go.Vc
