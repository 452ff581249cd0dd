/- The plain law: a further cell. -/
import Derived.Test.YtbckofoibdljgaaP6
namespace Go.Proofs.Ytbckofoibdljgaa
open Go.Vc Go.Sort

theorem getD_app_l {α : Type} (l : List α) (f d : α) {i : Nat} (hi : i < l.length) : (l ++ [f]).getD i d = l.getD i d := by
  simp [List.getD, List.getElem?_append_left hi]
theorem getD_app_r {α : Type} (l : List α) (f d : α) : (l ++ [f]).getD l.length d = f := by simp [List.getD]
theorem freq_app (l : List Cell) (f : Cell) (v : Val) : freqV (l ++ [f]) v = freqV l v + (if (counts f && decide (f.val = v)) = true then 1 else 0) := by
  unfold freqV
  rw [List.filter_append, List.length_append]
  congr 1
  rw [List.filter_cons]
  split <;> rfl
theorem many_less {by_ : Int} {a b b' : Cand} (h : cmpC by_ a b < 0) (e1 : b.cell = b'.cell) (e2 : b.trust = b'.trust) (e3 : b.at_ = b'.at_) (e4 : b.many = b'.many + 1) : cmpC by_ a b' < 0 := by
  obtain ⟨c1, x1, t1, m1⟩ := b
  obtain ⟨c2, x2, t2, m2⟩ := b'
  simp only at e1 e2 e3 e4
  subst e1; subst e2; subst e3; subst e4
  unfold cmpC thenC at h ⊢
  by_cases hb : by_ = 2
  · subst hb
    have h2 : better 2 a ⟨c1, x1, t1, m2 + 1⟩ = cmpI (m2 + 1) a.many := rfl
    have h3 : better 2 a ⟨c1, x1, t1, m2⟩ = cmpI m2 a.many := rfl
    rw [h2] at h
    rw [h3]
    have h4 : cmpI m2 a.many < 0 := by
      rw [cmpI_neg]
      have : m2 + 1 ≤ a.many := by
        by_cases z : cmpI (m2 + 1) a.many = 0
        · have := (cmpI_zero _ _).1 z; omega
        · rw [if_neg z] at h
          have := (cmpI_neg _ _).1 h; omega
      omega
    rw [if_neg (by omega)]; exact h4
  · have e : better by_ a ⟨c1, x1, t1, m2 + 1⟩ = better by_ a ⟨c1, x1, t1, m2⟩ := by
      unfold better
      simp only [if_neg hb]
    rw [e] at h
    exact h
theorem more_law (by_ : Int) (l : List Cell) (t : List Int) (f : Cell) (tr : Int) (h : t.length = l.length) :
    (chooseF by_ (l ++ [f]) (t ++ [tr]) < 0 → chooseF by_ l t = -1) ∧
    (0 ≤ chooseF by_ (l ++ [f]) (t ++ [tr]) → ((l ++ [f]).getD (chooseF by_ (l ++ [f]) (t ++ [tr])).toNat default).val = f.val ∨
      (0 ≤ chooseF by_ l t ∧ ((l ++ [f]).getD (chooseF by_ (l ++ [f]) (t ++ [tr])).toNat default).val = (l.getD (chooseF by_ l t).toNat default).val)) := by
  have hrr : rightB by_ (l ++ [f]).length (t ++ [tr]).length = rightB by_ l.length t.length := by simp [rightB, h]
  have rg := chooseF_rng by_ l t
  have rg2 := chooseF_rng by_ (l ++ [f]) (t ++ [tr])
  cases hr : rightB by_ l.length t.length with
  | false =>
    have h1 := choose_wrong hr
    have h2 := choose_wrong (hrr.trans hr)
    rw [h1, h2]
    exact ⟨fun _ => rfl, fun h => by omega⟩
  | true =>
    have L1 := choose_right (hrr.trans hr)
    have L2 := choose_right hr
    obtain ⟨b, hb⟩ : ∃ b, b = chooseF by_ (l ++ [f]) (t ++ [tr]) := ⟨_, rfl⟩
    rw [← hb] at L1 rg2 ⊢
    have hlen : (l ++ [f]).length = l.length + 1 := by simp
    constructor
    · intro hneg
      by_cases h0 : chooseF by_ l t < 0
      · omega
      · exfalso
        have s := L2.some (by omega)
        have := L1.none hneg (chooseF by_ l t).toNat (by omega)
        rw [okW_nil, getD_app_l _ _ _ (by omega)] at this
        have s1 := s.2.1
        rw [okW_nil, this] at s1; cases s1
    · intro hpos
      have s := L1.some hpos
      by_cases hlast : b.toNat = l.length
      · left; rw [hlast, getD_app_r]
      · have hbl : b.toNat < l.length := by omega
        by_cases hv : ((l ++ [f]).getD b.toNat default).val = f.val
        · exact .inl hv
        · right
          rw [getD_app_l _ _ _ hbl] at hv ⊢
          have hcb : counts (l.getD b.toNat default) = true := by
            have := s.2.1
            rwa [okW_nil, getD_app_l _ _ _ hbl] at this
          have cd : ∀ j, j < l.length → (cand (l ++ [f]) (t ++ [tr]) j).cell = (cand l t j).cell ∧ (cand (l ++ [f]) (t ++ [tr]) j).trust = (cand l t j).trust ∧ (cand (l ++ [f]) (t ++ [tr]) j).at_ = (cand l t j).at_ ∧ (cand (l ++ [f]) (t ++ [tr]) j).many = (cand l t j).many + (if (counts f && decide (f.val = (l.getD j default).val)) = true then 1 else 0) := fun j hj => by
            simp only [cand]
            rw [getD_app_l _ _ _ hj, getD_app_l _ _ _ (by omega), freq_app]
            refine ⟨by first | rfl | trivial, by first | rfl | trivial, by first | rfl | trivial, ?_⟩
            split <;> simp
          have hbE : cand (l ++ [f]) (t ++ [tr]) b.toNat = cand l t b.toNat := by
            obtain ⟨q1, q2, q3, q4⟩ := cd b.toNat hbl
            rw [if_neg (by simp only [Bool.and_eq_true, decide_eq_true_eq]; exact fun e => hv e.2.symm), Int.add_zero] at q4
            cases h1 : cand (l ++ [f]) (t ++ [tr]) b.toNat
            cases h2 : cand l t b.toNat
            rw [h1, h2] at q1 q2 q3 q4
            simp only at q1 q2 q3 q4
            rw [q1, q2, q3, q4]
          have hL : Least by_ l t (okW l []) l.length b := by
            refine ⟨fun h => by omega, fun _ => ⟨by omega, by rw [okW_nil]; exact hcb, fun j hj hp hne => ?_⟩⟩
            rw [okW_nil] at hp
            have h1 := s.2.2 j (by omega) (by rw [okW_nil, getD_app_l _ _ _ hj]; exact hp) hne
            rw [hbE] at h1
            obtain ⟨q1, q2, q3, q4⟩ := cd j hj
            by_cases hd : (counts f && decide (f.val = (l.getD j default).val)) = true
            · rw [if_pos hd] at q4
              exact many_less h1 q1 q2 q3 q4
            · rw [if_neg hd, Int.add_zero] at q4
              have e : cand (l ++ [f]) (t ++ [tr]) j = cand l t j := by
                cases h1 : cand (l ++ [f]) (t ++ [tr]) j
                cases h2 : cand l t j
                rw [h1, h2] at q1 q2 q3 q4
                simp only at q1 q2 q3 q4
                rw [q1, q2, q3, q4]
              rwa [e] at h1
          have e := least_unique hL L2 (by omega) rg.1
          rw [← e]
          exact ⟨hpos, rfl⟩
end Go.Proofs.Ytbckofoibdljgaa
