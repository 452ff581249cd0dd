/- The plain law: times and trusts that are increased. -/
import Derived.Test.YtbckofoibdljgaaP4
namespace Go.Proofs.Ytbckofoibdljgaa
open Go.Vc Go.Sort

/-- The first 'k' have been turned. -/
def shK {α : Type} (f : α → α) (l : List α) (k : Nat) : List α := (l.take k).map f ++ l.drop k
section
variable {α : Type} (f : α → α) (l : List α)
theorem shK_len (k : Nat) : (shK f l k).length = l.length := by unfold shK; simp; omega
theorem shK_zero : shK f l 0 = l := by simp [shK]
theorem shK_all : shK f l l.length = l.map f := by simp [shK]
theorem shK_get [Inhabited α] {k : Nat} (hk : k < l.length) : (shK f l k).getD k default = l.getD k default := by
  unfold shK
  rw [List.getD, List.getElem?_append_right (by simp; omega)]
  simp [List.getD, hk, Nat.min_eq_left (Nat.le_of_lt hk)]
theorem shK_set [Inhabited α] {k : Nat} (hk : k < l.length) : (shK f l k).set k (f (l.getD k default)) = shK f l (k + 1) := by
  unfold shK
  rw [List.set_append_right _ _ (by simp; omega)]
  have e : (List.map f (List.take k l)).length = k := by simp; omega
  rw [e, Nat.sub_self, List.drop_eq_getElem_cons hk, List.set_cons_zero, List.take_succ_eq_append_getElem hk, List.map_append]
  simp [List.getD, hk]
end
def shC (d : Int) (c : Cell) : Cell := { c with time := c.time + d }
def shT (d : Int) (x : Int) : Int := x + d
def shD (d e : Int) (c : Cand) : Cand := { c with cell := shC d c.cell, trust := c.trust + e }
theorem cmpI_sh (a b d : Int) : cmpI (a + d) (b + d) = cmpI a b := by unfold cmpI; (repeat' split) <;> omega
theorem cmpC_sh (by_ d e : Int) (a b : Cand) : cmpC by_ (shD d e a) (shD d e b) = cmpC by_ a b := by
  unfold cmpC thenC better shD shC
  simp only [cmpI_sh]
theorem counts_sh (d : Int) (c : Cell) : counts (shC d c) = counts c := rfl
theorem getD_sh (d : Int) (l : List Cell) {i : Nat} (hi : i < l.length) : (l.map (shC d)).getD i default = shC d (l.getD i default) := by simp [List.getD, hi]
theorem freq_sh (d : Int) (l : List Cell) (v : Val) : freqV (l.map (shC d)) v = freqV l v := by
  unfold freqV
  rw [List.filter_map, List.length_map]; rfl
theorem cand_sh (d e : Int) (l : List Cell) (t : List Int) {i : Nat} (hi : i < l.length) (ht : i < t.length) : cand (l.map (shC d)) (t.map (shT e)) i = shD d e (cand l t i) := by
  unfold cand
  rw [getD_sh d l hi, freq_sh]
  have : (t.map (shT e)).getD i 0 = t.getD i 0 + e := by simp [List.getD, ht, shT]
  rw [this]; rfl
theorem idx_sh (d : Int) (l : List Cell) (n : Nat) (hn : n ≤ l.length) : idxK (l.map (shC d)) n = idxK l n := by
  unfold idxK
  refine List.filter_congr fun i hi => ?_
  rw [getD_sh d l (by have := List.mem_range.1 hi; omega), counts_sh]
theorem rank_sh (by_ d e : Int) (l : List Cell) (t : List Int) (h : l.length = t.length) : rankL by_ (l.map (shC d)) (t.map (shT e)) = (rankL by_ l t).map fun i => i := by
  refine rank_map _ (by rw [List.length_map, idx_sh d l _ (Nat.le_refl _)]; simp) fun i j hi hj hc => ?_
  have h1 := ((mem_idxK _ _ _).1 hi).1
  have h2 := ((mem_idxK _ _ _).1 hj).1
  rw [cand_sh d e l t h1 (by omega), cand_sh d e l t h2 (by omega), cmpC_sh]
  exact hc
theorem choose_sh (by_ d e : Int) (l : List Cell) (t : List Int) (h : l.length = t.length) : chooseF by_ (l.map (shC d)) (t.map (shT e)) = chooseF by_ l t := by
  rw [choose_map (by simp) (rank_sh by_ d e l t h)]
  have := (chooseF_rng by_ l t).1
  split <;> omega
theorem others_sh (by_ d e : Int) (l : List Cell) (t : List Int) (h : l.length = t.length) : othersF by_ (l.map (shC d)) (t.map (shT e)) = othersF by_ l t := by
  rw [others_map (by simp) (rank_sh by_ d e l t h)]
  · refine Eq.trans (List.map_congr_left (g := fun x => x) fun x hx => ?_) (by simp)
    have := (othersF_mem hx).1
    omega
  · intro i hi
    have := ((rankL_mem by_ l t i).1 hi).1
    rw [getD_sh d l this]; rfl
end Go.Proofs.Ytbckofoibdljgaa
