/- The plain law: without the cells that do not count. -/
import Derived.Test.YtbckofoibdljgaaP4
namespace Go.Proofs.Ytbckofoibdljgaa
open Go.Vc Go.Sort

theorem idxK_succ (l : List Cell) (k : Nat) : idxK l (k + 1) = if counts (l.getD k default) = true then idxK l k ++ [k] else idxK l k := by
  unfold idxK
  rw [List.range_succ, List.filter_append]
  by_cases h : counts (l.getD k default) = true
  · rw [if_pos h, List.filter_cons, if_pos h]; rfl
  · rw [if_neg h, List.filter_cons, if_neg h]; simp
theorem idxK_len (l : List Cell) (k : Nat) : (idxK l k).length ≤ k := by
  unfold idxK; exact Nat.le_trans (List.length_filter_le _ _) (by simp)
def cL (l : List Cell) (k : Nat) : List Cell := (idxK l k).map fun i => l.getD i default
def tL (l : List Cell) (t : List Int) (k : Nat) : List Int := (idxK l k).map fun i => t.getD i 0
def pL (l : List Cell) (k : Nat) : List Int := (idxK l k).map fun i => ((i : Nat) : Int)
def plF (l : List Cell) (q : Nat) : Nat := (idxK l l.length).getD q 0
theorem idxK_sorted (l : List Cell) (k : Nat) : (idxK l k).Pairwise (· < ·) := by
  unfold idxK; exact List.pairwise_lt_range.filter _
theorem range_getD (l : List Cell) : l = (List.range l.length).map fun i => l.getD i default := by
  apply List.ext_getElem (by simp)
  intro i h1 h2
  simp [List.getD, h1]
theorem freq_cL (l : List Cell) (v : Val) : freqV (cL l l.length) v = freqV l v := by
  have h : freqV l v = freqV ((List.range l.length).map fun i => l.getD i default) v := by rw [← range_getD]
  rw [h]
  unfold freqV cL idxK
  rw [List.filter_map, List.filter_map, List.length_map, List.length_map, List.filter_filter]
  congr 1
  refine List.filter_congr fun i _ => ?_
  simp only [Function.comp]
  cases counts (l.getD i default) <;> simp
section
variable (l : List Cell) (t : List Int)
theorem plF_lt {q : Nat} (hq : q < (idxK l l.length).length) : plF l q < l.length ∧ counts (l.getD (plF l q) default) = true := by
  have : plF l q ∈ idxK l l.length := by unfold plF; simp [List.getD, hq]
  exact (mem_idxK _ _ _).1 this
theorem cL_len (k : Nat) : (cL l k).length = (idxK l k).length := by simp [cL]
theorem tL_len (k : Nat) : (tL l t k).length = (idxK l k).length := by simp [tL]
theorem pL_len (k : Nat) : (pL l k).length = (idxK l k).length := by simp [pL]
theorem cL_get {q : Nat} (hq : q < (idxK l l.length).length) : (cL l l.length).getD q default = l.getD (plF l q) default := by
  unfold cL plF; simp only [List.getD, List.getElem?_map, List.getElem?_eq_getElem hq]; rfl
theorem tL_get {q : Nat} (hq : q < (idxK l l.length).length) : (tL l t l.length).getD q 0 = t.getD (plF l q) 0 := by
  unfold tL plF; simp only [List.getD, List.getElem?_map, List.getElem?_eq_getElem hq]; rfl
theorem pL_get {q : Nat} (hq : q < (idxK l l.length).length) : (pL l l.length).getD q 0 = ((plF l q : Nat) : Int) := by
  unfold pL plF; simp only [List.getD, List.getElem?_map, List.getElem?_eq_getElem hq]; rfl
theorem idx_cL : idxK (cL l l.length) (cL l l.length).length = List.range (idxK l l.length).length := by
  rw [cL_len]
  unfold idxK
  rw [List.filter_eq_self]
  intro q hq
  have hq : q < (idxK l l.length).length := List.mem_range.1 hq
  rw [cL_get l hq]
  exact (plF_lt l hq).2
theorem cmpI_mono {a b c d : Nat} (h : a < b ↔ c < d) (h2 : b < a ↔ d < c) : cmpI (a : Int) (b : Int) = cmpI (c : Int) (d : Int) := by
  unfold cmpI
  simp only [Int.ofNat_lt]
  by_cases e : a < b
  · rw [if_pos e, if_pos (h.1 e)]
  · rw [if_neg e, if_neg (fun x => e (h.2 x))]
    by_cases e2 : b < a
    · rw [if_pos e2, if_pos (h2.1 e2)]
    · rw [if_neg e2, if_neg (fun x => e2 (h2.2 x))]
theorem cmpC_at_eq {by_ : Int} {a b a' b' : Cand} (h1 : a.cell = a'.cell) (h2 : a.trust = a'.trust) (h3 : a.many = a'.many) (h4 : b.cell = b'.cell) (h5 : b.trust = b'.trust) (h6 : b.many = b'.many) (h : cmpI a.at_ b.at_ = cmpI a'.at_ b'.at_) : cmpC by_ a b = cmpC by_ a' b' := by
  obtain ⟨c1, x1, t1, m1⟩ := a
  obtain ⟨c2, x2, t2, m2⟩ := a'
  obtain ⟨c3, x3, t3, m3⟩ := b
  obtain ⟨c4, x4, t4, m4⟩ := b'
  simp only at h1 h2 h3 h4 h5 h6 h
  subst h1; subst h2; subst h3; subst h4; subst h5; subst h6
  unfold cmpC thenC better
  simp only [h]
theorem rank_cL (by_ : Int) : rankL by_ l t = (rankL by_ (cL l l.length) (tL l t l.length)).map (plF l) := by
  refine rank_map _ ?_ fun i j hi hj hc => ?_
  · rw [idx_cL]
    have : (List.range (idxK l l.length).length).map (plF l) = idxK l l.length := by
      apply List.ext_getElem (by simp)
      intro q h1 h2
      simp [plF, List.getD, h2]
    rw [this]
  · rw [idx_cL, List.mem_range] at hi hj
    have hm : ∀ x y, x < (idxK l l.length).length → y < (idxK l l.length).length → (x < y ↔ plF l x < plF l y) := by
      have key : ∀ x y, x < y → y < (idxK l l.length).length → plF l x < plF l y := fun x y hxy hy => by
        have := List.pairwise_iff_getElem.1 (idxK_sorted l l.length) x y (by omega) hy hxy
        simpa [plF, List.getD, show x < (idxK l l.length).length by omega, hy] using this
      intro x y hx hy
      refine ⟨fun h => key x y h hy, fun h => ?_⟩
      rcases Nat.lt_trichotomy x y with h1 | h1 | h1
      · exact h1
      · subst h1; omega
      · have := key y x h1 hx; omega
    have e : cmpC by_ (cand l t (plF l i)) (cand l t (plF l j)) = cmpC by_ (cand (cL l l.length) (tL l t l.length) i) (cand (cL l l.length) (tL l t l.length) j) := by
      refine cmpC_at_eq ?_ ?_ ?_ ?_ ?_ ?_ ?_
      · simp only [cand, cL_get l hi]
      · simp only [cand, tL_get l t hi]
      · simp only [cand, freq_cL, cL_get l hi]
      · simp only [cand, cL_get l hj]
      · simp only [cand, tL_get l t hj]
      · simp only [cand, freq_cL, cL_get l hj]
      · simp only [cand]
        exact cmpI_mono (hm i j hi hj).symm (hm j i hj hi).symm
    rw [e]; exact hc
theorem right_cL (by_ : Int) (h : t.length = l.length) : rightB by_ l.length t.length = rightB by_ (cL l l.length).length (tL l t l.length).length := by
  rw [cL_len, tL_len]; simp [rightB, h]
/-- What the chosen ones are. -/
def allF (by_ : Int) (l : List Cell) (t : List Int) : List Int := chooseF by_ l t :: othersF by_ l t
theorem all_cL (by_ : Int) (h : t.length = l.length) : allF by_ l t = (allF by_ (cL l l.length) (tL l t l.length)).map fun y => if y < 0 then -1 else ((plF l y.toNat : Nat) : Int) := by
  unfold allF
  rw [choose_map (right_cL l t by_ h) (rank_cL l t by_), others_map (right_cL l t by_ h) (rank_cL l t by_), List.map_cons]
  · congr 1
    refine List.map_congr_left fun x hx => ?_
    have := (othersF_mem hx).1
    rw [if_neg (by omega)]
  · intro i hi
    have := ((rankL_mem by_ _ _ i).1 hi).1
    rw [cL_len] at this
    rw [cL_get l this]
theorem all_mem {by_ : Int} {l : List Cell} {t : List Int} {x : Int} (h : x ∈ allF by_ l t) : -1 ≤ x ∧ x < l.length := by
  rcases List.mem_cons.1 h with rfl | h
  · exact chooseF_rng _ _ _
  · have := othersF_mem h; omega
end
end Go.Proofs.Ytbckofoibdljgaa
