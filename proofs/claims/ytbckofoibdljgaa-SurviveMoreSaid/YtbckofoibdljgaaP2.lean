/- The plain law: choice and others are the reference's. -/
import Derived.Test.YtbckofoibdljgaaP1
namespace Go.Proofs.Ytbckofoibdljgaa
open Go.Vc Go.Sort

/-- The values of the first 'k' ranked ones are these. -/
def firstsK (l : List Cell) (RK : List Nat) : Nat → List Int
  | 0 => []
  | k + 1 => if seenB l RK k (l.getD (RK.getD k 0) default).val = true then firstsK l RK k else firstsK l RK k ++ [((RK.getD k 0 : Nat) : Int)]
theorem firsts_vals (l : List Cell) (RK : List Nat) (k : Nat) (hk : k ≤ RK.length) (v : Val) : seenB l RK k v = (firstsK l RK k).any fun j => decide ((l.getD j.toNat default).val = v) := by
  induction k with
  | zero => simp [seenB, firstsK]
  | succ k ih =>
    rw [seenB_succ l RK k v (by omega), ih (by omega), firstsK]
    split
    · rename_i h
      by_cases e : (l.getD (RK.getD k 0) default).val = v
      · rw [e, ih (by omega)] at h
        rw [h]; rfl
      · rw [decide_eq_false e, Bool.or_false]
    · rw [List.any_append]
      simp
theorem okW_firsts (l : List Cell) (RK : List Nat) (k : Nat) (hk : k ≤ RK.length) (i : Nat) : okW l (firstsK l RK k) i = (counts (l.getD i default) && !seenB l RK k (l.getD i default).val) := by
  unfold okW
  rw [firsts_vals l RK k hk]
  congr 1
  induction firstsK l RK k with
  | nil => rfl
  | cons x L ih =>
    rw [List.all_cons, List.any_cons, ih, Bool.not_or]
    congr 1
    unfold diffB
    rw [← decide_not]
    congr 1
    exact propext ⟨fun h e => h e.symm, fun h e => h e.symm⟩
theorem seenB_iff (l : List Cell) (RK : List Nat) (k : Nat) (v : Val) : seenB l RK k v = true ↔ ∃ q, q < k ∧ q < RK.length ∧ (l.getD (RK.getD q 0) default).val = v := by
  unfold seenB
  rw [List.any_eq_true]
  constructor
  · rintro ⟨i, hi, h⟩
    obtain ⟨q, hq, rfl⟩ := List.mem_take_iff_getElem.1 hi
    have hq2 : q < RK.length := by omega
    exact ⟨q, by omega, hq2, by simpa [List.getD, hq2] using of_decide_eq_true h⟩
  · rintro ⟨q, h1, h2, h3⟩
    refine ⟨RK.getD q 0, ?_, decide_eq_true h3⟩
    rw [List.mem_take_iff_getElem]
    exact ⟨q, by omega, by simp [List.getD, h2]⟩

section
variable (by_ : Int) (l : List Cell) (t : List Int)
theorem rk_at {i : Nat} (hi : i < l.length) (hc : counts (l.getD i default) = true) : ∃ q, q < (rankL by_ l t).length ∧ (rankL by_ l t).getD q 0 = i := by
  have h := (rankL_mem by_ l t i).2 ⟨hi, hc⟩
  obtain ⟨q, hq, e⟩ := List.getElem_of_mem h
  exact ⟨q, hq, by simpa [List.getD, hq] using e⟩
theorem rk_in {q : Nat} (hq : q < (rankL by_ l t).length) : (rankL by_ l t).getD q 0 < l.length ∧ counts (l.getD ((rankL by_ l t).getD q 0) default) = true := by
  have : (rankL by_ l t).getD q 0 ∈ rankL by_ l t := by simp [List.getD, hq]
  exact (rankL_mem by_ l t _).1 this
/-- The best one outside the values of the first ones. -/
theorem best_next (k : Nat) (hk : k < (rankL by_ l t).length) (hs : seenB l (rankL by_ l t) k (l.getD ((rankL by_ l t).getD k 0) default).val = false) :
    bestF by_ l t (firstsK l (rankL by_ l t) k) = ((rankL by_ l t).getD k 0 : Nat) := by
  have hin := rk_in by_ l t hk
  refine least_unique (bestK_least by_ l t _ l.length) ⟨fun h => by omega, fun _ => ⟨by omega, ?_, fun j hj hp hne => ?_⟩⟩ (bestF_lt by_ l t _).1 (by omega)
  · rw [Int.toNat_natCast, okW_firsts _ _ _ (by omega), hin.2, hs]; rfl
  · rw [Int.toNat_natCast] at hne ⊢
    rw [okW_firsts _ _ _ (by omega), Bool.and_eq_true] at hp
    obtain ⟨q, hq, e⟩ := rk_at by_ l t hj hp.1
    have hqk : k < q := by
      rcases Nat.lt_trichotomy q k with h | h | h
      · have : seenB l (rankL by_ l t) k (l.getD j default).val = true := (seenB_iff _ _ _ _).2 ⟨q, h, hq, by rw [e]⟩
        rw [this] at hp; simp at hp
      · subst h; exact absurd e.symm hne
      · exact h
    have := rankL_lt by_ l t hqk hq
    rwa [e] at this
theorem best_end : bestF by_ l t (firstsK l (rankL by_ l t) (rankL by_ l t).length) = -1 := by
  refine least_unique (bestK_least by_ l t _ l.length) ⟨fun _ j hj => ?_, fun h => by omega⟩ (bestF_lt by_ l t _).1 (by omega)
  cases hp : okW l (firstsK l (rankL by_ l t) (rankL by_ l t).length) j with
  | false => rfl
  | true =>
    rw [okW_firsts _ _ _ (Nat.le_refl _), Bool.and_eq_true] at hp
    obtain ⟨q, hq, e⟩ := rk_at by_ l t hj hp.1
    have : seenB l (rankL by_ l t) (rankL by_ l t).length (l.getD j default).val = true := (seenB_iff _ _ _ _).2 ⟨q, hq, hq, by rw [e]⟩
    rw [this] at hp; simp at hp
theorem done_all : ∀ (n k m : Nat), (rankL by_ l t).length - k = n → k ≤ (rankL by_ l t).length → n ≤ m → doneF by_ l t m (firstsK l (rankL by_ l t) k) = firstsK l (rankL by_ l t) (rankL by_ l t).length := by
  intro n
  induction n with
  | zero =>
    intro k m h hk hm
    have : k = (rankL by_ l t).length := by omega
    subst this
    cases m with
    | zero => rfl
    | succ m => rw [doneF, best_end, if_pos (by decide)]
  | succ n ih =>
    intro k m h hk hm
    have hk' : k < (rankL by_ l t).length := by omega
    cases hs : seenB l (rankL by_ l t) k (l.getD ((rankL by_ l t).getD k 0) default).val with
    | true =>
      have e : firstsK l (rankL by_ l t) (k + 1) = firstsK l (rankL by_ l t) k := by rw [firstsK, if_pos hs]
      rw [← e]
      exact ih (k + 1) m (by omega) (by omega) (by omega)
    | false =>
      cases m with
      | zero => omega
      | succ m =>
        have e : firstsK l (rankL by_ l t) (k + 1) = firstsK l (rankL by_ l t) k ++ [(((rankL by_ l t).getD k 0 : Nat) : Int)] := by rw [firstsK, if_neg (by rw [hs]; decide)]
        rw [doneF, best_next by_ l t k hk' hs, if_neg (by omega), ← e]
        exact ih (k + 1) m (by omega) (by omega) (by omega)
end
theorem firsts_one (l : List Cell) (RK : List Nat) : firstsK l RK 1 = [((RK.getD 0 0 : Nat) : Int)] := by
  rw [firstsK, if_neg (by simp [seenB])]; rfl
theorem oth_firsts (l : List Cell) (RK : List Nat) (k : Nat) : firstsK l RK (k + 1) = ((RK.getD 0 0 : Nat) : Int) :: othK l RK (k + 1) := by
  induction k with
  | zero => rw [firsts_one]; rfl
  | succ k ih =>
    rw [firstsK, othK, ih]
    have hp : decide (0 < k + 1) = true := by simp
    cases hs : seenB l RK (k + 1) (l.getD (RK.getD (k + 1) 0) default).val with
    | true => rw [if_pos rfl, if_neg (by rw [hp]; decide)]
    | false => rw [if_neg (by decide), if_pos (by rw [hp]; decide)]; rfl

theorem rankL_pre (by_ : Int) (l : List Cell) (t : List Int) : (rankL by_ l t).length ≤ l.length := by
  unfold rankL
  rw [List.length_mergeSort]
  unfold idxK
  exact Nat.le_trans (List.length_filter_le _ _) (by simp)
theorem choose_eq (by_ : Int) (l : List Cell) (t : List Int) : chooseF by_ l t = rchooseF by_ l t := by
  unfold chooseF rchooseF rankF
  by_cases hr : rightB by_ l.length t.length = true
  · rw [if_pos hr, if_pos hr]
    cases h : rankL by_ l t with
    | nil =>
      have := best_end by_ l t
      rw [h] at this
      exact this.symm
    | cons i L =>
      have := best_next by_ l t 0 (by rw [h]; simp) (by simp [seenB])
      rw [h] at this
      exact this.symm
  · rw [if_neg hr, if_neg hr]
theorem others_eq (by_ : Int) (l : List Cell) (t : List Int) : othersF by_ l t = rothersF by_ l t := by
  have hc := choose_eq by_ l t
  unfold rothersF
  rw [← hc]
  unfold othersF
  by_cases hr : rightB by_ l.length t.length = true
  · have hF : rankF by_ l t = rankL by_ l t := by unfold rankF; rw [if_pos hr]
    cases h : rankL by_ l t with
    | nil =>
      have hch : chooseF by_ l t = -1 := by unfold chooseF; rw [hF, h]
      rw [hF, hch, if_pos (by decide), h]; rfl
    | cons i L =>
      have hch : chooseF by_ l t = (i : Int) := by unfold chooseF; rw [hF, h]
      have hlen : (rankL by_ l t).length = L.length + 1 := by rw [h]; rfl
      have h0 : (rankL by_ l t).getD 0 0 = i := by rw [h]; rfl
      have hd := done_all by_ l t ((rankL by_ l t).length - 1) 1 l.length rfl (by omega) (by have := rankL_pre by_ l t; omega)
      rw [firsts_one, h0] at hd
      rw [hF, hch, if_neg (by omega), hd, hlen, oth_firsts]; rfl
  · have hF : rankF by_ l t = [] := by unfold rankF; rw [if_neg hr]
    have hch : chooseF by_ l t = -1 := by unfold chooseF; rw [hF]
    rw [hF, hch, if_pos (by decide)]; rfl
end Go.Proofs.Ytbckofoibdljgaa
