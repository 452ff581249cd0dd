/- The plain law: the ranked ones and the reference's choice. -/
import Derived.Test.YtbckofoibdljgaaS11
namespace Go.Proofs.Ytbckofoibdljgaa
open Go.Vc Go.Sort

theorem befB_iff (by_ : Int) (l : List Cell) (t : List Int) (i k : Nat) : befB by_ l t i k = decide (cmpC by_ (cand l t i) (cand l t k) < 0) := rfl
/-- The least of those below 'k' that are ok. -/
structure Least (by_ : Int) (l : List Cell) (t : List Int) (p : Nat → Bool) (k : Nat) (x : Int) : Prop where
  none : x < 0 → ∀ j, j < k → p j = false
  some : 0 ≤ x → x < k ∧ p x.toNat = true ∧ ∀ j, j < k → p j = true → j ≠ x.toNat → cmpC by_ (cand l t x.toNat) (cand l t j) < 0
theorem bestK_least (by_ : Int) (l : List Cell) (t wl : List Int) (k : Nat) : Least by_ l t (okW l wl) k (bestK by_ l t wl k) := by
  induction k with
  | zero => exact ⟨fun _ j h => absurd h (Nat.not_lt_zero j), fun h => by simp [bestK] at h⟩
  | succ k ih =>
    have hr := bestK_lt by_ l t wl k
    rw [bestK]
    by_cases hc : (okW l wl k && (decide (bestK by_ l t wl k < 0) || befB by_ l t k (bestK by_ l t wl k).toNat)) = true
    · rw [if_pos hc]
      rw [Bool.and_eq_true, Bool.or_eq_true] at hc
      refine ⟨fun h => by omega, fun _ => ⟨by omega, by simpa using hc.1, fun j hj hp hne => ?_⟩⟩
      rw [Int.toNat_natCast] at hne ⊢
      have hjk : j < k := by omega
      rcases hc.2 with h | h
      · have := ih.none (of_decide_eq_true h) j hjk
        rw [this] at hp; cases hp
      · by_cases h0 : bestK by_ l t wl k < 0
        · have := ih.none h0 j hjk
          rw [this] at hp; cases hp
        · have hb := ih.some (by omega)
          have h1 : cmpC by_ (cand l t k) (cand l t (bestK by_ l t wl k).toNat) < 0 := of_decide_eq_true h
          by_cases hj2 : j = (bestK by_ l t wl k).toNat
          · rw [hj2]; exact h1
          · have h2 := hb.2.2 j hjk hp hj2
            exact (cmpC_cmp by_).transL h1 (by omega)
    · rw [if_neg hc]
      refine ⟨fun h j hj => ?_, fun h => ?_⟩
      · by_cases hjk : j = k
        · subst hjk
          cases hp : okW l wl j with
          | false => rfl
          | true => exfalso; apply hc; rw [hp]; simp [h]
        · exact ih.none h j (by omega)
      · have hb := ih.some h
        refine ⟨by omega, hb.2.1, fun j hj hp hne => ?_⟩
        by_cases hjk : j = k
        · subst hjk
          have h1 : ¬ cmpC by_ (cand l t j) (cand l t (bestK by_ l t wl j).toNat) < 0 := fun h1 => hc (by
            rw [hp, befB_iff, decide_eq_true h1]; simp)
          have a1 := (cmpC_cmp by_).anti (cand l t j) (cand l t (bestK by_ l t wl j).toNat)
          have : cmpC by_ (cand l t (bestK by_ l t wl j).toNat) (cand l t j) ≠ 0 := fun e => by
            have e1 : ((bestK by_ l t wl j).toNat : Int) = (j : Int) := cmpC_at e
            omega
          omega
        · exact hb.2.2 j (by omega) hp hne
theorem least_unique {by_ : Int} {l : List Cell} {t : List Int} {p : Nat → Bool} {k : Nat} {x y : Int} (h1 : Least by_ l t p k x) (h2 : Least by_ l t p k y) (hx : -1 ≤ x) (hy : -1 ≤ y) : x = y := by
  by_cases h : x < 0
  · by_cases h' : y < 0
    · omega
    · have a := h2.some (by omega)
      have := h1.none h y.toNat (by omega)
      rw [a.2.1] at this; cases this
  · have a := h1.some (by omega)
    by_cases h' : y < 0
    · have := h2.none h' x.toNat (by omega)
      rw [a.2.1] at this; cases this
    · have b := h2.some (by omega)
      by_cases e : x.toNat = y.toNat
      · omega
      · have c1 := a.2.2 y.toNat (by omega) b.2.1 (fun e' => e e'.symm)
        have c2 := b.2.2 x.toNat (by omega) a.2.1 e
        have := (cmpC_cmp by_).anti (cand l t x.toNat) (cand l t y.toNat)
        omega

theorem rankL_perm (by_ : Int) (l : List Cell) (t : List Int) : (rankL by_ l t).Perm (idxK l l.length) := List.mergeSort_perm _ _
theorem rankL_mem (by_ : Int) (l : List Cell) (t : List Int) (i : Nat) : i ∈ rankL by_ l t ↔ i < l.length ∧ counts (l.getD i default) = true := by
  rw [(rankL_perm by_ l t).mem_iff]
  unfold idxK
  simp
theorem rankL_nodup (by_ : Int) (l : List Cell) (t : List Int) : (rankL by_ l t).Nodup := by
  rw [(rankL_perm by_ l t).nodup_iff]
  unfold idxK
  exact List.nodup_range.filter _
theorem rankL_sorted (by_ : Int) (l : List Cell) (t : List Int) : (rankL by_ l t).Pairwise fun x y => (!ltN by_ l t y x) = true := by
  refine List.pairwise_mergeSort (fun x y z h1 h2 => ?_) (fun x y => ?_) _
  · simp only [Bool.not_eq_true'] at *
    exact (ltN_swo by_ l t).ntrans _ _ _ h2 h1
  · cases h : ltN by_ l t y x with
    | false => rfl
    | true =>
      cases h2 : ltN by_ l t x y with
      | false => rfl
      | true => have := (ltN_swo by_ l t).trans _ _ _ h h2; rw [(ltN_swo by_ l t).irrefl] at this; cases this
theorem rankL_lt (by_ : Int) (l : List Cell) (t : List Int) {p q : Nat} (hpq : p < q) (hq : q < (rankL by_ l t).length) : cmpC by_ (cand l t ((rankL by_ l t).getD p 0)) (cand l t ((rankL by_ l t).getD q 0)) < 0 := by
  have h := List.pairwise_iff_getElem.1 (rankL_sorted by_ l t) p q (by omega) hq hpq
  have hn := List.pairwise_iff_getElem.1 (rankL_nodup by_ l t) p q (by omega) hq hpq
  have e1 : (rankL by_ l t).getD p 0 = (rankL by_ l t)[p] := by simp [List.getD, show p < (rankL by_ l t).length by omega]
  have e2 : (rankL by_ l t).getD q 0 = (rankL by_ l t)[q] := by simp [List.getD, hq]
  rw [e1, e2]
  simp only [Bool.not_eq_true'] at h
  have h : ¬ cmpC by_ (cand l t (rankL by_ l t)[q]) (cand l t (rankL by_ l t)[p]) < 0 := of_decide_eq_false h
  have a1 := (cmpC_cmp by_).anti (cand l t (rankL by_ l t)[p]) (cand l t (rankL by_ l t)[q])
  have : cmpC by_ (cand l t (rankL by_ l t)[p]) (cand l t (rankL by_ l t)[q]) ≠ 0 := fun e => by
    have e1 : (((rankL by_ l t)[p] : Nat) : Int) = ((rankL by_ l t)[q] : Nat) := cmpC_at e
    exact hn (by omega)
  omega
end Go.Proofs.Ytbckofoibdljgaa
