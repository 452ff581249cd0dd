/- The plain law: the ranked ones and the reference's choice. -/
import Derived.Test.YtckihgamnmmbnaaS11
namespace Go.Proofs.Ytckihgamnmmbnaa
open Go.Vc Go.Sort

theorem befB_iff (by_ : Int) (l : List Cell) (t : List Int) (i k : Nat) : befB by_ l t i k = decide (cmpC by_ (cand l t i) (cand l t k) < 0) := rfl
/-- The least of those below 'k' that are ok. -/
structure Least (by_ : Int) (l : List Cell) (t : List Int) (p : Nat → Bool) (k : Nat) (x : Int) : Prop where
  none : x < 0 → ∀ j, j < k → p j = false
  some : 0 ≤ x → x < k ∧ p x.toNat = true ∧ ∀ j, j < k → p j = true → j ≠ x.toNat → cmpC by_ (cand l t x.toNat) (cand l t j) < 0
theorem bestK_least (by_ : Int) (l : List Cell) (t wl : List Int) (k : Nat) : Least by_ l t (okW l wl) k (bestK by_ l t wl k) := by
  induction k with
  | zero => exact ⟨fun _ j h => absurd h (Nat.not_lt_zero j), fun h => by simp [bestK] at h⟩
  | succ k ih =>
    have hr := bestK_lt by_ l t wl k
    rw [bestK]
    by_cases hc : (okW l wl k && (decide (bestK by_ l t wl k < 0) || befB by_ l t k (bestK by_ l t wl k).toNat)) = true
    · rw [if_pos hc]
      rw [Bool.and_eq_true, Bool.or_eq_true] at hc
      refine ⟨fun h => by omega, fun _ => ⟨by omega, by simpa using hc.1, fun j hj hp hne => ?_⟩⟩
      rw [Int.toNat_natCast] at hne ⊢
      have hjk : j < k := by omega
      rcases hc.2 with h | h
      · have := ih.none (of_decide_eq_true h) j hjk
        rw [this] at hp; cases hp
      · by_cases h0 : bestK by_ l t wl k < 0
        · have := ih.none h0 j hjk
          rw [this] at hp; cases hp
        · have hb := ih.some (by omega)
          have h1 : cmpC by_ (cand l t k) (cand l t (bestK by_ l t wl k).toNat) < 0 := of_decide_eq_true h
          by_cases hj2 : j = (bestK by_ l t wl k).toNat
          · rw [hj2]; exact h1
          · have h2 := hb.2.2 j hjk hp hj2
            exact (cmpC_cmp by_).transL h1 (by omega)
    · rw [if_neg hc]
      refine ⟨fun h j hj => ?_, fun h => ?_⟩
      · by_cases hjk : j = k
        · subst hjk
          cases hp : okW l wl j with
          | false => rfl
          | true => exfalso; apply hc; rw [hp]; simp [h]
        · exact ih.none h j (by omega)
      · have hb := ih.some h
        refine ⟨by omega, hb.2.1, fun j hj hp hne => ?_⟩
        by_cases hjk : j = k
        · subst hjk
          have h1 : ¬ cmpC by_ (cand l t j) (cand l t (bestK by_ l t wl j).toNat) < 0 := fun h1 => hc (by
            rw [hp, befB_iff, decide_eq_true h1]; simp)
          have a1 := (cmpC_cmp by_).anti (cand l t j) (cand l t (bestK by_ l t wl j).toNat)
          have : cmpC by_ (cand l t (bestK by_ l t wl j).toNat) (cand l t j) ≠ 0 := fun e => by
            have e1 : ((bestK by_ l t wl j).toNat : Int) = (j : Int) := cmpC_at e
            omega
          omega
        · exact hb.2.2 j (by omega) hp hne
theorem least_unique {by_ : Int} {l : List Cell} {t : List Int} {p : Nat → Bool} {k : Nat} {x y : Int} (h1 : Least by_ l t p k x) (h2 : Least by_ l t p k y) (hx : -1 ≤ x) (hy : -1 ≤ y) : x = y := by
  by_cases h : x < 0
  · by_cases h' : y < 0
    · omega
    · have a := h2.some (by omega)
      have := h1.none h y.toNat (by omega)
      rw [a.2.1] at this; cases this
  · have a := h1.some (by omega)
    by_cases h' : y < 0
    · have := h2.none h' x.toNat (by omega)
      rw [a.2.1] at this; cases this
    · have b := h2.some (by omega)
      by_cases e : x.toNat = y.toNat
      · omega
      · have c1 := a.2.2 y.toNat (by omega) b.2.1 (fun e' => e e'.symm)
        have c2 := b.2.2 x.toNat (by omega) a.2.1 e
        have := (cmpC_cmp by_).anti (cand l t x.toNat) (cand l t y.toNat)
        omega

theorem rankL_perm (by_ : Int) (l : List Cell) (t : List Int) : (rankL by_ l t).Perm (idxK l l.length) := List.mergeSort_perm _ _
theorem rankL_mem (by_ : Int) (l : List Cell) (t : List Int) (i : Nat) : i ∈ rankL by_ l t ↔ i < l.length ∧ counts (l.getD i default) = true := by
  rw [(rankL_perm by_ l t).mem_iff]
  unfold idxK
  simp
theorem rankL_nodup (by_ : Int) (l : List Cell) (t : List Int) : (rankL by_ l t).Nodup := by
  rw [(rankL_perm by_ l t).nodup_iff]
  unfold idxK
  exact List.nodup_range.filter _
theorem rankL_sorted (by_ : Int) (l : List Cell) (t : List Int) : (rankL by_ l t).Pairwise fun x y => (!ltN by_ l t y x) = true := by
  refine List.pairwise_mergeSort (fun x y z h1 h2 => ?_) (fun x y => ?_) _
  · simp only [Bool.not_eq_true'] at *
    exact (ltN_swo by_ l t).ntrans _ _ _ h2 h1
  · cases h : ltN by_ l t y x with
    | false => rfl
    | true =>
      cases h2 : ltN by_ l t x y with
      | false => rfl
      | true => have := (ltN_swo by_ l t).trans _ _ _ h h2; rw [(ltN_swo by_ l t).irrefl] at this; cases this
theorem rankL_lt (by_ : Int) (l : List Cell) (t : List Int) {p q : Nat} (hpq : p < q) (hq : q < (rankL by_ l t).length) : cmpC by_ (cand l t ((rankL by_ l t).getD p 0)) (cand l t ((rankL by_ l t).getD q 0)) < 0 := by
  have h := List.pairwise_iff_getElem.1 (rankL_sorted by_ l t) p q (by omega) hq hpq
  have hn := List.pairwise_iff_getElem.1 (rankL_nodup by_ l t) p q (by omega) hq hpq
  have e1 : (rankL by_ l t).getD p 0 = (rankL by_ l t)[p] := by simp [List.getD, show p < (rankL by_ l t).length by omega]
  have e2 : (rankL by_ l t).getD q 0 = (rankL by_ l t)[q] := by simp [List.getD, hq]
  rw [e1, e2]
  simp only [Bool.not_eq_true'] at h
  have h : ¬ cmpC by_ (cand l t (rankL by_ l t)[q]) (cand l t (rankL by_ l t)[p]) < 0 := of_decide_eq_false h
  have a1 := (cmpC_cmp by_).anti (cand l t (rankL by_ l t)[p]) (cand l t (rankL by_ l t)[q])
  have : cmpC by_ (cand l t (rankL by_ l t)[p]) (cand l t (rankL by_ l t)[q]) ≠ 0 := fun e => by
    have e1 : (((rankL by_ l t)[p] : Nat) : Int) = ((rankL by_ l t)[q] : Nat) := cmpC_at e
    exact hn (by omega)
  omega
end Go.Proofs.Ytckihgamnmmbnaa


/- The plain law: choice and others are the reference's. -/
namespace Go.Proofs.Ytckihgamnmmbnaa
open Go.Vc Go.Sort

/-- The values of the first 'k' ranked ones are these. -/
def firstsK (l : List Cell) (RK : List Nat) : Nat → List Int
  | 0 => []
  | k + 1 => if seenB l RK k (l.getD (RK.getD k 0) default).val = true then firstsK l RK k else firstsK l RK k ++ [((RK.getD k 0 : Nat) : Int)]
theorem firsts_vals (l : List Cell) (RK : List Nat) (k : Nat) (hk : k ≤ RK.length) (v : Val) : seenB l RK k v = (firstsK l RK k).any fun j => decide ((l.getD j.toNat default).val = v) := by
  induction k with
  | zero => simp [seenB, firstsK]
  | succ k ih =>
    rw [seenB_succ l RK k v (by omega), ih (by omega), firstsK]
    split
    · rename_i h
      by_cases e : (l.getD (RK.getD k 0) default).val = v
      · rw [e, ih (by omega)] at h
        rw [h]; rfl
      · rw [decide_eq_false e, Bool.or_false]
    · rw [List.any_append]
      simp
theorem okW_firsts (l : List Cell) (RK : List Nat) (k : Nat) (hk : k ≤ RK.length) (i : Nat) : okW l (firstsK l RK k) i = (counts (l.getD i default) && !seenB l RK k (l.getD i default).val) := by
  unfold okW
  rw [firsts_vals l RK k hk]
  congr 1
  induction firstsK l RK k with
  | nil => rfl
  | cons x L ih =>
    rw [List.all_cons, List.any_cons, ih, Bool.not_or]
    congr 1
    unfold diffB
    rw [← decide_not]
    congr 1
    exact propext ⟨fun h e => h e.symm, fun h e => h e.symm⟩
theorem seenB_iff (l : List Cell) (RK : List Nat) (k : Nat) (v : Val) : seenB l RK k v = true ↔ ∃ q, q < k ∧ q < RK.length ∧ (l.getD (RK.getD q 0) default).val = v := by
  unfold seenB
  rw [List.any_eq_true]
  constructor
  · rintro ⟨i, hi, h⟩
    obtain ⟨q, hq, rfl⟩ := List.mem_take_iff_getElem.1 hi
    have hq2 : q < RK.length := by omega
    exact ⟨q, by omega, hq2, by simpa [List.getD, hq2] using of_decide_eq_true h⟩
  · rintro ⟨q, h1, h2, h3⟩
    refine ⟨RK.getD q 0, ?_, decide_eq_true h3⟩
    rw [List.mem_take_iff_getElem]
    exact ⟨q, by omega, by simp [List.getD, h2]⟩

section
variable (by_ : Int) (l : List Cell) (t : List Int)
theorem rk_at {i : Nat} (hi : i < l.length) (hc : counts (l.getD i default) = true) : ∃ q, q < (rankL by_ l t).length ∧ (rankL by_ l t).getD q 0 = i := by
  have h := (rankL_mem by_ l t i).2 ⟨hi, hc⟩
  obtain ⟨q, hq, e⟩ := List.getElem_of_mem h
  exact ⟨q, hq, by simpa [List.getD, hq] using e⟩
theorem rk_in {q : Nat} (hq : q < (rankL by_ l t).length) : (rankL by_ l t).getD q 0 < l.length ∧ counts (l.getD ((rankL by_ l t).getD q 0) default) = true := by
  have : (rankL by_ l t).getD q 0 ∈ rankL by_ l t := by simp [List.getD, hq]
  exact (rankL_mem by_ l t _).1 this
/-- The best one outside the values of the first ones. -/
theorem best_next (k : Nat) (hk : k < (rankL by_ l t).length) (hs : seenB l (rankL by_ l t) k (l.getD ((rankL by_ l t).getD k 0) default).val = false) :
    bestF by_ l t (firstsK l (rankL by_ l t) k) = ((rankL by_ l t).getD k 0 : Nat) := by
  have hin := rk_in by_ l t hk
  refine least_unique (bestK_least by_ l t _ l.length) ⟨fun h => by omega, fun _ => ⟨by omega, ?_, fun j hj hp hne => ?_⟩⟩ (bestF_lt by_ l t _).1 (by omega)
  · rw [Int.toNat_natCast, okW_firsts _ _ _ (by omega), hin.2, hs]; rfl
  · rw [Int.toNat_natCast] at hne ⊢
    rw [okW_firsts _ _ _ (by omega), Bool.and_eq_true] at hp
    obtain ⟨q, hq, e⟩ := rk_at by_ l t hj hp.1
    have hqk : k < q := by
      rcases Nat.lt_trichotomy q k with h | h | h
      · have : seenB l (rankL by_ l t) k (l.getD j default).val = true := (seenB_iff _ _ _ _).2 ⟨q, h, hq, by rw [e]⟩
        rw [this] at hp; simp at hp
      · subst h; exact absurd e.symm hne
      · exact h
    have := rankL_lt by_ l t hqk hq
    rwa [e] at this
theorem best_end : bestF by_ l t (firstsK l (rankL by_ l t) (rankL by_ l t).length) = -1 := by
  refine least_unique (bestK_least by_ l t _ l.length) ⟨fun _ j hj => ?_, fun h => by omega⟩ (bestF_lt by_ l t _).1 (by omega)
  cases hp : okW l (firstsK l (rankL by_ l t) (rankL by_ l t).length) j with
  | false => rfl
  | true =>
    rw [okW_firsts _ _ _ (Nat.le_refl _), Bool.and_eq_true] at hp
    obtain ⟨q, hq, e⟩ := rk_at by_ l t hj hp.1
    have : seenB l (rankL by_ l t) (rankL by_ l t).length (l.getD j default).val = true := (seenB_iff _ _ _ _).2 ⟨q, hq, hq, by rw [e]⟩
    rw [this] at hp; simp at hp
theorem done_all : ∀ (n k m : Nat), (rankL by_ l t).length - k = n → k ≤ (rankL by_ l t).length → n ≤ m → doneF by_ l t m (firstsK l (rankL by_ l t) k) = firstsK l (rankL by_ l t) (rankL by_ l t).length := by
  intro n
  induction n with
  | zero =>
    intro k m h hk hm
    have : k = (rankL by_ l t).length := by omega
    subst this
    cases m with
    | zero => rfl
    | succ m => rw [doneF, best_end, if_pos (by decide)]
  | succ n ih =>
    intro k m h hk hm
    have hk' : k < (rankL by_ l t).length := by omega
    cases hs : seenB l (rankL by_ l t) k (l.getD ((rankL by_ l t).getD k 0) default).val with
    | true =>
      have e : firstsK l (rankL by_ l t) (k + 1) = firstsK l (rankL by_ l t) k := by rw [firstsK, if_pos hs]
      rw [← e]
      exact ih (k + 1) m (by omega) (by omega) (by omega)
    | false =>
      cases m with
      | zero => omega
      | succ m =>
        have e : firstsK l (rankL by_ l t) (k + 1) = firstsK l (rankL by_ l t) k ++ [(((rankL by_ l t).getD k 0 : Nat) : Int)] := by rw [firstsK, if_neg (by rw [hs]; decide)]
        rw [doneF, best_next by_ l t k hk' hs, if_neg (by omega), ← e]
        exact ih (k + 1) m (by omega) (by omega) (by omega)
end
theorem firsts_one (l : List Cell) (RK : List Nat) : firstsK l RK 1 = [((RK.getD 0 0 : Nat) : Int)] := by
  rw [firstsK, if_neg (by simp [seenB])]; rfl
theorem oth_firsts (l : List Cell) (RK : List Nat) (k : Nat) : firstsK l RK (k + 1) = ((RK.getD 0 0 : Nat) : Int) :: othK l RK (k + 1) := by
  induction k with
  | zero => rw [firsts_one]; rfl
  | succ k ih =>
    rw [firstsK, othK, ih]
    have hp : decide (0 < k + 1) = true := by simp
    cases hs : seenB l RK (k + 1) (l.getD (RK.getD (k + 1) 0) default).val with
    | true => rw [if_pos rfl, if_neg (by rw [hp]; decide)]
    | false => rw [if_neg (by decide), if_pos (by rw [hp]; decide)]; rfl

theorem rankL_pre (by_ : Int) (l : List Cell) (t : List Int) : (rankL by_ l t).length ≤ l.length := by
  unfold rankL
  rw [List.length_mergeSort]
  unfold idxK
  exact Nat.le_trans (List.length_filter_le _ _) (by simp)
theorem choose_eq (by_ : Int) (l : List Cell) (t : List Int) : chooseF by_ l t = rchooseF by_ l t := by
  unfold chooseF rchooseF rankF
  by_cases hr : rightB by_ l.length t.length = true
  · rw [if_pos hr, if_pos hr]
    cases h : rankL by_ l t with
    | nil =>
      have := best_end by_ l t
      rw [h] at this
      exact this.symm
    | cons i L =>
      have := best_next by_ l t 0 (by rw [h]; simp) (by simp [seenB])
      rw [h] at this
      exact this.symm
  · rw [if_neg hr, if_neg hr]
theorem others_eq (by_ : Int) (l : List Cell) (t : List Int) : othersF by_ l t = rothersF by_ l t := by
  have hc := choose_eq by_ l t
  unfold rothersF
  rw [← hc]
  unfold othersF
  by_cases hr : rightB by_ l.length t.length = true
  · have hF : rankF by_ l t = rankL by_ l t := by unfold rankF; rw [if_pos hr]
    cases h : rankL by_ l t with
    | nil =>
      have hch : chooseF by_ l t = -1 := by unfold chooseF; rw [hF, h]
      rw [hF, hch, if_pos (by decide), h]; rfl
    | cons i L =>
      have hch : chooseF by_ l t = (i : Int) := by unfold chooseF; rw [hF, h]
      have hlen : (rankL by_ l t).length = L.length + 1 := by rw [h]; rfl
      have h0 : (rankL by_ l t).getD 0 0 = i := by rw [h]; rfl
      have hd := done_all by_ l t ((rankL by_ l t).length - 1) 1 l.length rfl (by omega) (by have := rankL_pre by_ l t; omega)
      rw [firsts_one, h0] at hd
      rw [hF, hch, if_neg (by omega), hd, hlen, oth_firsts]; rfl
  · have hF : rankF by_ l t = [] := by unfold rankF; rw [if_neg hr]
    have hch : chooseF by_ l t = -1 := by unfold chooseF; rw [hF]
    rw [hF, hch, if_pos (by decide)]; rfl
end Go.Proofs.Ytckihgamnmmbnaa


/- The plain law: what the choice is. -/
namespace Go.Proofs.Ytckihgamnmmbnaa
open Go.Vc Go.Sort

theorem chooseF_rng (by_ : Int) (l : List Cell) (t : List Int) : -1 ≤ chooseF by_ l t ∧ chooseF by_ l t < l.length := by rw [choose_eq]; exact rchooseF_lt _ _ _
theorem okW_nil (l : List Cell) (i : Nat) : okW l [] i = counts (l.getD i default) := by simp [okW]
theorem choose_right {by_ : Int} {l : List Cell} {t : List Int} (hr : rightB by_ l.length t.length = true) : Least by_ l t (okW l []) l.length (chooseF by_ l t) := by
  rw [choose_eq, rchooseF, if_pos hr]
  exact bestK_least by_ l t [] l.length
theorem choose_wrong {by_ : Int} {l : List Cell} {t : List Int} (hr : rightB by_ l.length t.length = false) : chooseF by_ l t = -1 := by
  rw [choose_eq, rchooseF, if_neg (by rw [hr]; decide)]
theorem choose_pos {by_ : Int} {l : List Cell} {t : List Int} (h : 0 ≤ chooseF by_ l t) : rightB by_ l.length t.length = true ∧ counts (l.getD (chooseF by_ l t).toNat default) = true := by
  cases hr : rightB by_ l.length t.length with
  | false => rw [choose_wrong hr] at h; omega
  | true =>
    have := ((choose_right hr).some h).2.1
    rw [okW_nil] at this
    exact ⟨rfl, this⟩
theorem choose_neg {by_ : Int} {l : List Cell} {t : List Int} (hr : rightB by_ l.length t.length = true) (h : chooseF by_ l t < 0) {j : Nat} (hj : j < l.length) : counts (l.getD j default) = false := by
  have := (choose_right hr).none h j hj
  rwa [okW_nil] at this
theorem choose_le {by_ : Int} {l : List Cell} {t : List Int} (h : 0 ≤ chooseF by_ l t) {j : Nat} (hj : j < l.length) (hc : counts (l.getD j default) = true) : cmpC by_ (cand l t (chooseF by_ l t).toNat) (cand l t j) ≤ 0 := by
  have hr := (choose_pos h).1
  by_cases e : j = (chooseF by_ l t).toNat
  · rw [← e, (cmpC_cmp by_).self]; omega
  · have := ((choose_right hr).some h).2.2 j hj (by rw [okW_nil]; exact hc) e
    omega
theorem thenC_le {α : Type} {f g : α → α → Int} {a b : α} (h : thenC f g a b ≤ 0) : f a b ≤ 0 := by
  unfold thenC at h
  split at h <;> omega
theorem better_le {by_ : Int} {l : List Cell} {t : List Int} (h : 0 ≤ chooseF by_ l t) {j : Nat} (hj : j < l.length) (hc : counts (l.getD j default) = true) : better by_ (cand l t (chooseF by_ l t).toNat) (cand l t j) ≤ 0 :=
  thenC_le (choose_le h hj hc)
theorem cmpI_le (a b : Int) : cmpI a b ≤ 0 ↔ a ≤ b := by unfold cmpI; (repeat' split) <;> omega
theorem counts_val {c d : Cell} (h : c.val = d.val) : counts c = counts d := by unfold counts; rw [h]
theorem freq_count (l : List Cell) {c : Cell} (hc : counts c = true) : freqV l c.val = countV l c.val := by
  unfold freqV countV
  congr 1
  refine List.filter_congr fun x _ => ?_
  by_cases h : x.val = c.val
  · rw [counts_val h, hc]; simp
  · simp [h]
end Go.Proofs.Ytckihgamnmmbnaa

/- The plain law: the same cells at other places, and other times and trusts in the same order. -/
namespace Go.Proofs.Ytckihgamnmmbnaa
open Go.Vc Go.Sort

theorem perm_eq {α : Type} {R : α → α → Prop} (anti : ∀ a b, R a b → R b a → a = b) : ∀ {l m : List α}, l.Perm m → l.Pairwise R → m.Pairwise R → l = m := by
  intro l
  induction l with
  | nil => intro m h _ _; exact h.nil_eq
  | cons a l ih =>
    intro m h hl hm
    cases m with
    | nil => exact absurd h.length_eq (by simp)
    | cons b m =>
      have e : a = b := by
        have h1 : a ∈ b :: m := h.mem_iff.1 (by simp)
        have h2 : b ∈ a :: l := h.mem_iff.2 (by simp)
        rcases List.mem_cons.1 h1 with e | h1
        · exact e
        · rcases List.mem_cons.1 h2 with e | h2
          · exact e.symm
          · exact anti _ _ (List.rel_of_pairwise_cons hl h2) (List.rel_of_pairwise_cons hm h1)
      subst e
      rw [ih ((List.perm_cons a).1 h) (List.Pairwise.of_cons hl) (List.Pairwise.of_cons hm)]
theorem nodup_perm {α : Type} [DecidableEq α] : ∀ {l m : List α}, l.Nodup → (∀ x ∈ l, x ∈ m) → l.length = m.length → l.Perm m := by
  intro l
  induction l with
  | nil => intro m _ _ h; cases m with
    | nil => exact List.Perm.refl _
    | cons => simp at h
  | cons a l ih =>
    intro m hn hs hl
    have ha : a ∈ m := hs a (by simp)
    have hn := List.nodup_cons.1 hn
    refine List.Perm.trans ?_ (List.perm_cons_erase ha).symm
    refine List.Perm.cons a (ih hn.2 (fun x hx => ?_) ?_)
    · have : x ≠ a := fun e => hn.1 (e ▸ hx)
      exact (List.mem_erase_of_ne this).2 (hs x (by simp [hx]))
    · rw [List.length_erase_of_mem ha]; simp at hl; omega

theorem rankL_strict (by_ : Int) (l : List Cell) (t : List Int) : (rankL by_ l t).Pairwise fun x y => cmpC by_ (cand l t x) (cand l t y) < 0 := by
  refine List.pairwise_iff_getElem.2 fun i j hi hj hij => ?_
  have := rankL_lt by_ l t hij hj
  rwa [show (rankL by_ l t).getD i 0 = (rankL by_ l t)[i] by simp [List.getD, hi], show (rankL by_ l t).getD j 0 = (rankL by_ l t)[j] by simp [List.getD, hj]] at this
theorem mem_idxK (l : List Cell) (k i : Nat) : i ∈ idxK l k ↔ i < k ∧ counts (l.getD i default) = true := by
  unfold idxK; simp

/-- The ranked ones of the same cells at other places. -/
theorem rank_map {by_ : Int} {l l' : List Cell} {t t' : List Int} (f : Nat → Nat) (hp : ((idxK l' l'.length).map f).Perm (idxK l l.length))
    (hc : ∀ i j, i ∈ idxK l' l'.length → j ∈ idxK l' l'.length → cmpC by_ (cand l' t' i) (cand l' t' j) < 0 → cmpC by_ (cand l t (f i)) (cand l t (f j)) < 0) : rankL by_ l t = (rankL by_ l' t').map f := by
  refine perm_eq (R := fun x y => cmpC by_ (cand l t x) (cand l t y) < 0) (fun a b h1 h2 => ?_) ?_ (rankL_strict by_ l t) ?_
  · have := (cmpC_cmp by_).anti (cand l t a) (cand l t b)
    omega
  · exact (rankL_perm by_ l t).trans (hp.symm.trans ((rankL_perm by_ l' t').map f).symm)
  · rw [List.pairwise_map]
    refine List.Pairwise.imp_of_mem (fun {a b} ha hb h => ?_) (rankL_strict by_ l' t')
    exact hc a b ((rankL_perm by_ l' t').mem_iff.1 ha) ((rankL_perm by_ l' t').mem_iff.1 hb) h
theorem seenB_map {l l' : List Cell} {f : Nat → Nat} {R : List Nat} (hv : ∀ i ∈ R, (l.getD (f i) default).val = (l'.getD i default).val) (k : Nat) (v : Val) : seenB l (R.map f) k v = seenB l' R k v := by
  unfold seenB
  rw [← List.map_take, List.any_map]
  have : ∀ i ∈ R.take k, (l.getD (f i) default).val = (l'.getD i default).val := fun i hi => hv i (List.mem_of_mem_take hi)
  generalize R.take k = S at this
  induction S with
  | nil => rfl
  | cons x S ih =>
    rw [List.any_cons, List.any_cons, ih fun i hi => this i (by simp [hi])]
    congr 1
    simp only [Function.comp]
    rw [this x (by simp)]
theorem othK_map {l l' : List Cell} {f : Nat → Nat} {R : List Nat} (hv : ∀ i ∈ R, (l.getD (f i) default).val = (l'.getD i default).val) (k : Nat) (hk : k ≤ R.length) : othK l (R.map f) k = (othK l' R k).map fun j => ((f j.toNat : Nat) : Int) := by
  induction k with
  | zero => rfl
  | succ k ih =>
    have hg : (R.map f).getD k 0 = f (R.getD k 0) := by simp [List.getD, show k < R.length by omega]
    have hm : R.getD k 0 ∈ R := by simp [List.getD, show k < R.length by omega]
    rw [othK, othK, seenB_map hv, hg, hv _ hm, ih (by omega)]
    split
    · simp
    · rfl
theorem choose_map {by_ : Int} {l l' : List Cell} {t t' : List Int} {f : Nat → Nat} (hr : rightB by_ l.length t.length = rightB by_ l'.length t'.length) (hm : rankL by_ l t = (rankL by_ l' t').map f) :
    chooseF by_ l t = if chooseF by_ l' t' < 0 then -1 else ((f (chooseF by_ l' t').toNat : Nat) : Int) := by
  unfold chooseF rankF
  rw [hr]
  cases rightB by_ l'.length t'.length with
  | false => rfl
  | true =>
    rw [if_pos rfl, if_pos rfl, hm]
    cases rankL by_ l' t' with
    | nil => rfl
    | cons i R => simp
theorem others_map {by_ : Int} {l l' : List Cell} {t t' : List Int} {f : Nat → Nat} (hr : rightB by_ l.length t.length = rightB by_ l'.length t'.length) (hm : rankL by_ l t = (rankL by_ l' t').map f)
    (hv : ∀ i ∈ rankL by_ l' t', (l.getD (f i) default).val = (l'.getD i default).val) :
    othersF by_ l t = (othersF by_ l' t').map fun j => ((f j.toNat : Nat) : Int) := by
  unfold othersF rankF
  rw [hr]
  split
  · rw [hm, List.length_map]
    exact othK_map hv _ (Nat.le_refl _)
  · rfl
theorem othK_mem {l : List Cell} {R : List Nat} {k : Nat} {x : Int} (hk : k ≤ R.length) (h : x ∈ othK l R k) : ∃ i ∈ R, x = (i : Int) := by
  induction k with
  | zero => simp [othK] at h
  | succ k ih =>
    rw [othK] at h
    split at h
    · rcases List.mem_append.1 h with h | h
      · exact ih (by omega) h
      · refine ⟨R.getD k 0, ?_, by simpa using h⟩
        simp [List.getD, show k < R.length by omega]
    · exact ih (by omega) h
theorem othersF_mem {by_ : Int} {l : List Cell} {t : List Int} {x : Int} (h : x ∈ othersF by_ l t) : 0 ≤ x ∧ x < l.length ∧ counts (l.getD x.toNat default) = true := by
  unfold othersF at h
  obtain ⟨i, hi, rfl⟩ := othK_mem (Nat.le_refl _) h
  unfold rankF at hi
  split at hi
  · have := (rankL_mem by_ l t i).1 hi
    refine ⟨by omega, by omega, ?_⟩
    rw [Int.toNat_natCast]; exact this.2
  · cases hi
theorem chooseF_mem {by_ : Int} {l : List Cell} {t : List Int} (h : 0 ≤ chooseF by_ l t) : (chooseF by_ l t).toNat ∈ rankL by_ l t := by
  rw [rankL_mem]
  have := (chooseF_rng by_ l t).2
  exact ⟨by omega, (choose_pos h).2⟩
end Go.Proofs.Ytckihgamnmmbnaa

/- The plain law: times and trusts that are increased. -/
namespace Go.Proofs.Ytckihgamnmmbnaa
open Go.Vc Go.Sort

/-- The first 'k' have been turned. -/
def shK {α : Type} (f : α → α) (l : List α) (k : Nat) : List α := (l.take k).map f ++ l.drop k
section
variable {α : Type} (f : α → α) (l : List α)
theorem shK_len (k : Nat) : (shK f l k).length = l.length := by unfold shK; simp; omega
theorem shK_zero : shK f l 0 = l := by simp [shK]
theorem shK_all : shK f l l.length = l.map f := by simp [shK]
theorem shK_get [Inhabited α] {k : Nat} (hk : k < l.length) : (shK f l k).getD k default = l.getD k default := by
  unfold shK
  rw [List.getD, List.getElem?_append_right (by simp; omega)]
  simp [List.getD, hk, Nat.min_eq_left (Nat.le_of_lt hk)]
theorem shK_set [Inhabited α] {k : Nat} (hk : k < l.length) : (shK f l k).set k (f (l.getD k default)) = shK f l (k + 1) := by
  unfold shK
  rw [List.set_append_right _ _ (by simp; omega)]
  have e : (List.map f (List.take k l)).length = k := by simp; omega
  rw [e, Nat.sub_self, List.drop_eq_getElem_cons hk, List.set_cons_zero, List.take_succ_eq_append_getElem hk, List.map_append]
  simp [List.getD, hk]
end
def shC (d : Int) (c : Cell) : Cell := { c with time := c.time + d }
def shT (d : Int) (x : Int) : Int := x + d
def shD (d e : Int) (c : Cand) : Cand := { c with cell := shC d c.cell, trust := c.trust + e }
theorem cmpI_sh (a b d : Int) : cmpI (a + d) (b + d) = cmpI a b := by unfold cmpI; (repeat' split) <;> omega
theorem cmpC_sh (by_ d e : Int) (a b : Cand) : cmpC by_ (shD d e a) (shD d e b) = cmpC by_ a b := by
  unfold cmpC thenC better shD shC
  simp only [cmpI_sh]
theorem counts_sh (d : Int) (c : Cell) : counts (shC d c) = counts c := rfl
theorem getD_sh (d : Int) (l : List Cell) {i : Nat} (hi : i < l.length) : (l.map (shC d)).getD i default = shC d (l.getD i default) := by simp [List.getD, hi]
theorem freq_sh (d : Int) (l : List Cell) (v : Val) : freqV (l.map (shC d)) v = freqV l v := by
  unfold freqV
  rw [List.filter_map, List.length_map]; rfl
theorem cand_sh (d e : Int) (l : List Cell) (t : List Int) {i : Nat} (hi : i < l.length) (ht : i < t.length) : cand (l.map (shC d)) (t.map (shT e)) i = shD d e (cand l t i) := by
  unfold cand
  rw [getD_sh d l hi, freq_sh]
  have : (t.map (shT e)).getD i 0 = t.getD i 0 + e := by simp [List.getD, ht, shT]
  rw [this]; rfl
theorem idx_sh (d : Int) (l : List Cell) (n : Nat) (hn : n ≤ l.length) : idxK (l.map (shC d)) n = idxK l n := by
  unfold idxK
  refine List.filter_congr fun i hi => ?_
  rw [getD_sh d l (by have := List.mem_range.1 hi; omega), counts_sh]
theorem rank_sh (by_ d e : Int) (l : List Cell) (t : List Int) (h : l.length = t.length) : rankL by_ (l.map (shC d)) (t.map (shT e)) = (rankL by_ l t).map fun i => i := by
  refine rank_map _ (by rw [List.length_map, idx_sh d l _ (Nat.le_refl _)]; simp) fun i j hi hj hc => ?_
  have h1 := ((mem_idxK _ _ _).1 hi).1
  have h2 := ((mem_idxK _ _ _).1 hj).1
  rw [cand_sh d e l t h1 (by omega), cand_sh d e l t h2 (by omega), cmpC_sh]
  exact hc
theorem choose_sh (by_ d e : Int) (l : List Cell) (t : List Int) (h : l.length = t.length) : chooseF by_ (l.map (shC d)) (t.map (shT e)) = chooseF by_ l t := by
  rw [choose_map (by simp) (rank_sh by_ d e l t h)]
  have := (chooseF_rng by_ l t).1
  split <;> omega
theorem others_sh (by_ d e : Int) (l : List Cell) (t : List Int) (h : l.length = t.length) : othersF by_ (l.map (shC d)) (t.map (shT e)) = othersF by_ l t := by
  rw [others_map (by simp) (rank_sh by_ d e l t h)]
  · refine Eq.trans (List.map_congr_left (g := fun x => x) fun x hx => ?_) (by simp)
    have := (othersF_mem hx).1
    omega
  · intro i hi
    have := ((rankL_mem by_ l t i).1 hi).1
    rw [getD_sh d l this]; rfl
end Go.Proofs.Ytckihgamnmmbnaa
