/- The plain law: the chosen cells, one value after the other. -/
import Derived.Test.YtbckofoibdljgaaP6
import Derived.Test.YtbckofoibdljgaaP5
namespace Go.Proofs.Ytbckofoibdljgaa
open Go.Vc Go.Sort

def zap (v : Val) (c : Cell) : Cell := if c.val = v then default else c
def blk (vs : List Val) (c : Cell) : Cell := if (vs.any fun v => decide (c.val = v)) = true then default else c
def left (l : List Cell) (vs : List Val) : List Cell := l.map (blk vs)
theorem left_nil (l : List Cell) : left l [] = l := by
  unfold left
  rw [show blk [] = id from funext fun c => rfl]
  exact List.map_id l
theorem left_len (l : List Cell) (vs : List Val) : (left l vs).length = l.length := by simp [left]
theorem zap_def (v : Val) : zap v default = default := by unfold zap; split <;> rfl
theorem left_zap (l : List Cell) (vs : List Val) (v : Val) : (left l vs).map (zap v) = left l (vs ++ [v]) := by
  unfold left
  rw [List.map_map]
  refine List.map_congr_left fun c _ => ?_
  simp only [Function.comp, blk, List.any_append, List.any_cons, List.any_nil, Bool.or_false]
  by_cases h : (vs.any fun v => decide (c.val = v)) = true
  · rw [if_pos h, h, Bool.true_or, if_pos rfl, zap_def]
  · rw [if_neg h]
    have h : (vs.any fun v => decide (c.val = v)) = false := by simpa only [Bool.not_eq_true] using h
    rw [h, Bool.false_or]
    unfold zap
    by_cases e : c.val = v <;> simp [e]
theorem left_get (l : List Cell) (vs : List Val) {i : Nat} (hi : i < l.length) : (left l vs).getD i default = blk vs (l.getD i default) := by simp [left, List.getD, hi]
theorem counts_def : counts (default : Cell) = false := rfl
theorem counts_blk (vs : List Val) (c : Cell) : counts (blk vs c) = (counts c && !(vs.any fun v => decide (c.val = v))) := by
  unfold blk
  split
  · rename_i h; rw [h, counts_def]; simp
  · rename_i h; simp only [Bool.not_eq_true] at h; rw [h]; simp
def valsOf (l : List Cell) (wl : List Int) : List Val := wl.map fun j => (l.getD j.toNat default).val
theorem okW_vals (l : List Cell) (wl : List Int) {i : Nat} (hi : i < l.length) : counts ((left l (valsOf l wl)).getD i default) = okW l wl i := by
  rw [left_get l _ hi, counts_blk, okW]
  congr 1
  unfold valsOf
  rw [List.any_map]
  induction wl with
  | nil => rfl
  | cons x wl ih =>
    rw [List.any_cons, List.all_cons, Bool.not_or, ih]
    congr 1
    unfold diffB
    simp
theorem freq_left (l : List Cell) (vs : List Val) (v : Val) (hv : (vs.any fun u => decide (v = u)) = false) : freqV (left l vs) v = freqV l v := by
  unfold freqV left
  rw [List.filter_map, List.length_map]
  congr 1
  refine List.filter_congr fun c _ => ?_
  simp only [Function.comp]
  by_cases h : (vs.any fun v => decide (c.val = v)) = true
  · have e : blk vs c = default := if_pos h
    rw [e]
    have hne : c.val ≠ v := fun e => by rw [e, hv] at h; cases h
    rw [counts_def, decide_eq_false hne]; simp
  · have e : blk vs c = c := if_neg h
    rw [e]
theorem Least.congr {by_ : Int} {l l' : List Cell} {t : List Int} {p q : Nat → Bool} {k : Nat} {x : Int} (h : Least by_ l' t p k x) (hp : ∀ i, i < k → p i = q i) (hc : ∀ i, i < k → q i = true → cand l' t i = cand l t i) : Least by_ l t q k x := by
  refine ⟨fun hx j hj => ?_, fun hx => ?_⟩
  · rw [← hp j hj]; exact h.none hx j hj
  · have a := h.some hx
    have a2 := a.2.1
    rw [hp _ (by omega)] at a2
    refine ⟨a.1, a2, fun j hj hq hne => ?_⟩
    have := a.2.2 j hj (by rw [hp j hj]; exact hq) hne
    rwa [hc _ (by omega) a2, hc j hj hq] at this
theorem choose_left {by_ : Int} {l : List Cell} {t : List Int} (hr : rightB by_ l.length t.length = true) (wl : List Int) : chooseF by_ (left l (valsOf l wl)) t = bestF by_ l t wl := by
  have h1 := choose_right (by_ := by_) (l := left l (valsOf l wl)) (t := t) (by rw [left_len]; exact hr)
  rw [left_len] at h1
  have h2 : Least by_ l t (okW l wl) l.length (chooseF by_ (left l (valsOf l wl)) t) := by
    refine h1.congr (fun i hi => ?_) (fun i hi hq => ?_)
    · rw [okW_nil, okW_vals l wl hi]
    · rw [← okW_vals l wl hi, left_get l _ hi, counts_blk, Bool.and_eq_true] at hq
      have hq2 : ((valsOf l wl).any fun v => decide ((l.getD i default).val = v)) = false := by simpa using hq.2
      have e : blk (valsOf l wl) (l.getD i default) = l.getD i default := if_neg (by rw [hq2]; decide)
      unfold cand
      rw [left_get l _ hi, e, freq_left l _ _ hq2]
  exact least_unique h2 (bestK_least by_ l t wl l.length) (chooseF_rng _ _ _).1 (bestF_lt _ _ _ _).1
theorem firsts_best (by_ : Int) (l : List Cell) (t : List Int) (k : Nat) (hk : k ≤ (rankL by_ l t).length) (i : Nat) (hi : i < (firstsK l (rankL by_ l t) k).length) :
    bestF by_ l t ((firstsK l (rankL by_ l t) k).take i) = (firstsK l (rankL by_ l t) k).getD i default := by
  induction k with
  | zero => simp [firstsK] at hi
  | succ k ih =>
    cases hs : seenB l (rankL by_ l t) k (l.getD ((rankL by_ l t).getD k 0) default).val with
    | true =>
      have e : firstsK l (rankL by_ l t) (k + 1) = firstsK l (rankL by_ l t) k := by rw [firstsK, if_pos hs]
      rw [e] at hi ⊢
      exact ih (by omega) hi
    | false =>
      have e : firstsK l (rankL by_ l t) (k + 1) = firstsK l (rankL by_ l t) k ++ [(((rankL by_ l t).getD k 0 : Nat) : Int)] := by rw [firstsK, if_neg (by rw [hs]; decide)]
      rw [e] at hi ⊢
      rw [List.length_append, List.length_singleton] at hi
      by_cases h : i < (firstsK l (rankL by_ l t) k).length
      · rw [List.take_append_of_le_length (by omega), ih (by omega) h]
        simp [List.getD, List.getElem?_append_left h]
      · have hi' : i = (firstsK l (rankL by_ l t) k).length := by omega
        subst hi'
        rw [List.take_left, best_next by_ l t k (by omega) hs]
        simp [List.getD]
theorem all_firsts {by_ : Int} {l : List Cell} {t : List Int} (h : 0 ≤ chooseF by_ l t) : allF by_ l t = firstsK l (rankL by_ l t) (rankL by_ l t).length := by
  have hr := (choose_pos h).1
  have hF : rankF by_ l t = rankL by_ l t := by unfold rankF; rw [if_pos hr]
  unfold allF othersF
  rw [hF]
  unfold chooseF at h ⊢
  rw [hF] at h ⊢
  cases hR : rankL by_ l t with
  | nil => rw [hR] at h; simp at h
  | cons i R =>
    have := oth_firsts l (i :: R) R.length
    rw [List.length_cons, this]; rfl
/-- The chosen ones, each from the cells that are left. -/
theorem all_left {by_ : Int} {l : List Cell} {t : List Int} (h : 0 ≤ chooseF by_ l t) {i : Nat} (hi : i < (allF by_ l t).length) :
    chooseF by_ (left l (valsOf l ((allF by_ l t).take i))) t = (allF by_ l t).getD i default := by
  rw [choose_left (choose_pos h).1]
  rw [all_firsts h] at hi ⊢
  exact firsts_best by_ l t _ (Nat.le_refl _) i hi
theorem all_end {by_ : Int} {l : List Cell} {t : List Int} (h : 0 ≤ chooseF by_ l t) {j : Nat} (hj : j < l.length) : counts ((left l (valsOf l (allF by_ l t))).getD j default) = false := by
  have e := best_end by_ l t
  rw [← all_firsts h] at e
  have := bestK_least by_ l t (allF by_ l t) l.length
  rw [okW_vals l _ hj]
  exact this.none (by show bestF by_ l t (allF by_ l t) < 0; omega) j hj
theorem all_pos {by_ : Int} {l : List Cell} {t : List Int} (h : 0 ≤ chooseF by_ l t) {i : Nat} (hi : i < (allF by_ l t).length) : 0 ≤ (allF by_ l t).getD i default ∧ (allF by_ l t).getD i default < l.length := by
  have h1 : (allF by_ l t).getD i default ∈ allF by_ l t := by simp [List.getD, hi]
  rcases List.mem_cons.1 h1 with h2 | h2
  · have := chooseF_rng by_ l t; omega
  · have := othersF_mem h2; omega
theorem left_val {by_ : Int} {l : List Cell} {t : List Int} {vs : List Val} {x : Int} (h : 0 ≤ x) (hx : x < l.length) (hc : chooseF by_ (left l vs) t = x) : counts ((left l vs).getD x.toNat default) = true ∧ ((left l vs).getD x.toNat default).val = (l.getD x.toNat default).val := by
  have h1 := (choose_pos (by_ := by_) (l := left l vs) (t := t) (by omega)).2
  rw [hc] at h1
  refine ⟨h1, ?_⟩
  rw [left_get l vs (by omega)] at h1 ⊢
  unfold blk at h1 ⊢
  split
  · rename_i hb; rw [if_pos hb, counts_def] at h1; cases h1
  · rfl
theorem valsOf_take (l : List Cell) (A : List Int) {i : Nat} (hi : i < A.length) : valsOf l (A.take (i + 1)) = valsOf l (A.take i) ++ [(l.getD (A.getD i default).toNat default).val] := by
  unfold valsOf
  rw [List.take_succ_eq_append_getElem hi, List.map_append]
  simp [List.getD, hi]
theorem others_neg {by_ : Int} {l : List Cell} {t : List Int} (h : chooseF by_ l t < 0) : othersF by_ l t = [] := by
  unfold chooseF at h
  unfold othersF
  cases hR : rankF by_ l t with
  | nil => rfl
  | cons i R => rw [hR] at h; simp at h; omega
end Go.Proofs.Ytbckofoibdljgaa
