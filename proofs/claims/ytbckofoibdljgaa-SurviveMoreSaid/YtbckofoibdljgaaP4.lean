/- The plain law: the same cells at other places, and other times and trusts in the same order. -/
import Derived.Test.YtbckofoibdljgaaP3
namespace Go.Proofs.Ytbckofoibdljgaa
open Go.Vc Go.Sort

theorem perm_eq {α : Type} {R : α → α → Prop} (anti : ∀ a b, R a b → R b a → a = b) : ∀ {l m : List α}, l.Perm m → l.Pairwise R → m.Pairwise R → l = m := by
  intro l
  induction l with
  | nil => intro m h _ _; exact h.nil_eq
  | cons a l ih =>
    intro m h hl hm
    cases m with
    | nil => exact absurd h.length_eq (by simp)
    | cons b m =>
      have e : a = b := by
        have h1 : a ∈ b :: m := h.mem_iff.1 (by simp)
        have h2 : b ∈ a :: l := h.mem_iff.2 (by simp)
        rcases List.mem_cons.1 h1 with e | h1
        · exact e
        · rcases List.mem_cons.1 h2 with e | h2
          · exact e.symm
          · exact anti _ _ (List.rel_of_pairwise_cons hl h2) (List.rel_of_pairwise_cons hm h1)
      subst e
      rw [ih ((List.perm_cons a).1 h) (List.Pairwise.of_cons hl) (List.Pairwise.of_cons hm)]
theorem nodup_perm {α : Type} [DecidableEq α] : ∀ {l m : List α}, l.Nodup → (∀ x ∈ l, x ∈ m) → l.length = m.length → l.Perm m := by
  intro l
  induction l with
  | nil => intro m _ _ h; cases m with
    | nil => exact List.Perm.refl _
    | cons => simp at h
  | cons a l ih =>
    intro m hn hs hl
    have ha : a ∈ m := hs a (by simp)
    have hn := List.nodup_cons.1 hn
    refine List.Perm.trans ?_ (List.perm_cons_erase ha).symm
    refine List.Perm.cons a (ih hn.2 (fun x hx => ?_) ?_)
    · have : x ≠ a := fun e => hn.1 (e ▸ hx)
      exact (List.mem_erase_of_ne this).2 (hs x (by simp [hx]))
    · rw [List.length_erase_of_mem ha]; simp at hl; omega

theorem rankL_strict (by_ : Int) (l : List Cell) (t : List Int) : (rankL by_ l t).Pairwise fun x y => cmpC by_ (cand l t x) (cand l t y) < 0 := by
  refine List.pairwise_iff_getElem.2 fun i j hi hj hij => ?_
  have := rankL_lt by_ l t hij hj
  rwa [show (rankL by_ l t).getD i 0 = (rankL by_ l t)[i] by simp [List.getD, hi], show (rankL by_ l t).getD j 0 = (rankL by_ l t)[j] by simp [List.getD, hj]] at this
theorem mem_idxK (l : List Cell) (k i : Nat) : i ∈ idxK l k ↔ i < k ∧ counts (l.getD i default) = true := by
  unfold idxK; simp

/-- The ranked ones of the same cells at other places. -/
theorem rank_map {by_ : Int} {l l' : List Cell} {t t' : List Int} (f : Nat → Nat) (hp : ((idxK l' l'.length).map f).Perm (idxK l l.length))
    (hc : ∀ i j, i ∈ idxK l' l'.length → j ∈ idxK l' l'.length → cmpC by_ (cand l' t' i) (cand l' t' j) < 0 → cmpC by_ (cand l t (f i)) (cand l t (f j)) < 0) : rankL by_ l t = (rankL by_ l' t').map f := by
  refine perm_eq (R := fun x y => cmpC by_ (cand l t x) (cand l t y) < 0) (fun a b h1 h2 => ?_) ?_ (rankL_strict by_ l t) ?_
  · have := (cmpC_cmp by_).anti (cand l t a) (cand l t b)
    omega
  · exact (rankL_perm by_ l t).trans (hp.symm.trans ((rankL_perm by_ l' t').map f).symm)
  · rw [List.pairwise_map]
    refine List.Pairwise.imp_of_mem (fun {a b} ha hb h => ?_) (rankL_strict by_ l' t')
    exact hc a b ((rankL_perm by_ l' t').mem_iff.1 ha) ((rankL_perm by_ l' t').mem_iff.1 hb) h
theorem seenB_map {l l' : List Cell} {f : Nat → Nat} {R : List Nat} (hv : ∀ i ∈ R, (l.getD (f i) default).val = (l'.getD i default).val) (k : Nat) (v : Val) : seenB l (R.map f) k v = seenB l' R k v := by
  unfold seenB
  rw [← List.map_take, List.any_map]
  have : ∀ i ∈ R.take k, (l.getD (f i) default).val = (l'.getD i default).val := fun i hi => hv i (List.mem_of_mem_take hi)
  generalize R.take k = S at this
  induction S with
  | nil => rfl
  | cons x S ih =>
    rw [List.any_cons, List.any_cons, ih fun i hi => this i (by simp [hi])]
    congr 1
    simp only [Function.comp]
    rw [this x (by simp)]
theorem othK_map {l l' : List Cell} {f : Nat → Nat} {R : List Nat} (hv : ∀ i ∈ R, (l.getD (f i) default).val = (l'.getD i default).val) (k : Nat) (hk : k ≤ R.length) : othK l (R.map f) k = (othK l' R k).map fun j => ((f j.toNat : Nat) : Int) := by
  induction k with
  | zero => rfl
  | succ k ih =>
    have hg : (R.map f).getD k 0 = f (R.getD k 0) := by simp [List.getD, show k < R.length by omega]
    have hm : R.getD k 0 ∈ R := by simp [List.getD, show k < R.length by omega]
    rw [othK, othK, seenB_map hv, hg, hv _ hm, ih (by omega)]
    split
    · simp
    · rfl
theorem choose_map {by_ : Int} {l l' : List Cell} {t t' : List Int} {f : Nat → Nat} (hr : rightB by_ l.length t.length = rightB by_ l'.length t'.length) (hm : rankL by_ l t = (rankL by_ l' t').map f) :
    chooseF by_ l t = if chooseF by_ l' t' < 0 then -1 else ((f (chooseF by_ l' t').toNat : Nat) : Int) := by
  unfold chooseF rankF
  rw [hr]
  cases rightB by_ l'.length t'.length with
  | false => rfl
  | true =>
    rw [if_pos rfl, if_pos rfl, hm]
    cases rankL by_ l' t' with
    | nil => rfl
    | cons i R => simp
theorem others_map {by_ : Int} {l l' : List Cell} {t t' : List Int} {f : Nat → Nat} (hr : rightB by_ l.length t.length = rightB by_ l'.length t'.length) (hm : rankL by_ l t = (rankL by_ l' t').map f)
    (hv : ∀ i ∈ rankL by_ l' t', (l.getD (f i) default).val = (l'.getD i default).val) :
    othersF by_ l t = (othersF by_ l' t').map fun j => ((f j.toNat : Nat) : Int) := by
  unfold othersF rankF
  rw [hr]
  split
  · rw [hm, List.length_map]
    exact othK_map hv _ (Nat.le_refl _)
  · rfl
theorem othK_mem {l : List Cell} {R : List Nat} {k : Nat} {x : Int} (hk : k ≤ R.length) (h : x ∈ othK l R k) : ∃ i ∈ R, x = (i : Int) := by
  induction k with
  | zero => simp [othK] at h
  | succ k ih =>
    rw [othK] at h
    split at h
    · rcases List.mem_append.1 h with h | h
      · exact ih (by omega) h
      · refine ⟨R.getD k 0, ?_, by simpa using h⟩
        simp [List.getD, show k < R.length by omega]
    · exact ih (by omega) h
theorem othersF_mem {by_ : Int} {l : List Cell} {t : List Int} {x : Int} (h : x ∈ othersF by_ l t) : 0 ≤ x ∧ x < l.length ∧ counts (l.getD x.toNat default) = true := by
  unfold othersF at h
  obtain ⟨i, hi, rfl⟩ := othK_mem (Nat.le_refl _) h
  unfold rankF at hi
  split at hi
  · have := (rankL_mem by_ l t i).1 hi
    refine ⟨by omega, by omega, ?_⟩
    rw [Int.toNat_natCast]; exact this.2
  · cases hi
theorem chooseF_mem {by_ : Int} {l : List Cell} {t : List Int} (h : 0 ≤ chooseF by_ l t) : (chooseF by_ l t).toNat ∈ rankL by_ l t := by
  rw [rankL_mem]
  have := (chooseF_rng by_ l t).2
  exact ⟨by omega, (choose_pos h).2⟩
end Go.Proofs.Ytbckofoibdljgaa
