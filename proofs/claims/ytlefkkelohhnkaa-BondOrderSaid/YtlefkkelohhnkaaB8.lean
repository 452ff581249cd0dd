/- Bond: pairs in order, each once. -/
import Derived.Test.YtlefkkelohhnkaaB7
import Derived.Test.YtlefkkelohhnkaaZpG
import Derived.Test.YtlefkkelohhnkaaVcClear
namespace Go.Proofs.Ytlefkkelohhnkaa
open Go.Vc Go.Sort

/-- Of equal neighbours the first one, among the first 'm'. -/
def cpK (l : List (Int × Int)) : Nat → List (Int × Int)
  | 0 => []
  | m + 1 => if m = 0 ∨ l.getD m default ≠ l.getD (m - 1) default then cpK l m ++ [l.getD m default] else cpK l m
theorem cpK_len (l : List (Int × Int)) (m : Nat) : (cpK l m).length ≤ m := by
  induction m with
  | zero => simp [cpK]
  | succ m ih => rw [cpK]; split
                 · rw [List.length_append, List.length_singleton]; omega
                 · omega
theorem cpK_take (l : List (Int × Int)) (m : Nat) (hm : m ≤ l.length) (h : ∀ j, 0 < j → j < m → l.getD j default ≠ l.getD (j - 1) default) : cpK l m = l.take m := by
  induction m with
  | zero => simp [cpK]
  | succ m ih =>
    have e : l.take (m + 1) = l.take m ++ [l.getD m default] := by rw [List.take_succ_eq_append_getElem (by omega)]; simp [List.getD, show m < l.length by omega]
    rw [cpK, ih (by omega) (fun j h1 h2 => h j h1 (by omega)), e]
    by_cases h0 : m = 0
    · rw [if_pos (.inl h0)]
    · rw [if_pos (.inr (h m (by omega) (by omega)))]
theorem cpK_mem (l : List (Int × Int)) (m : Nat) (hm : m ≤ l.length) (x : Int × Int) : x ∈ cpK l m ↔ x ∈ l.take m := by
  induction m with
  | zero => simp [cpK]
  | succ m ih =>
    have e : l.take (m + 1) = l.take m ++ [l.getD m default] := by rw [List.take_succ_eq_append_getElem (by omega)]; simp [List.getD, show m < l.length by omega]
    rw [cpK, e, List.mem_append, List.mem_singleton]
    split
    · rw [List.mem_append, ih (by omega), List.mem_singleton]
    · rename_i h
      rw [ih (by omega)]
      constructor
      · exact .inl
      · rintro (h1 | h1)
        · exact h1
        · have h2 : l.getD m default = l.getD (m - 1) default := Classical.not_not.1 fun h3 => h (.inr h3)
          have h0 : m ≠ 0 := fun h0 => h (.inl h0)
          rw [h1, h2, List.mem_take_iff_getElem]
          exact ⟨m - 1, by omega, by simp [List.getD, show m - 1 < l.length by omega]⟩
theorem cpK_sorted (l : List (Int × Int)) (m : Nat) (hm : m ≤ l.length) (hs : ∀ i j, i < j → j < l.length → cmpPr (l.getD i default) (l.getD j default) ≤ 0) : (cpK l m).Pairwise fun a b => cmpPr a b < 0 := by
  induction m with
  | zero => simp [cpK]
  | succ m ih =>
    rw [cpK]
    split
    · rename_i h
      rw [List.pairwise_append]
      refine ⟨ih (by omega), by simp, fun x hx y hy => ?_⟩
      rw [List.mem_singleton] at hy
      subst hy
      rw [cpK_mem l m (by omega), List.mem_take_iff_getElem] at hx
      obtain ⟨i, hi, rfl⟩ := hx
      have hi2 : i < m ∧ i < l.length := by omega
      have e : l[i] = l.getD i default := by simp [List.getD, hi2.2]
      rw [e]
      rcases h with h | h
      · omega
      · have h1 := hs (m - 1) m (by omega) (by omega)
        have h2 : cmpPr (l.getD (m - 1) default) (l.getD m default) < 0 := by
          have : cmpPr (l.getD (m - 1) default) (l.getD m default) ≠ 0 := fun e => h ((cmpPr_zero _ _).1 e).symm
          omega
        by_cases hi3 : i = m - 1
        · rw [hi3]; exact h2
        · exact cmpPr_cmp.transR (hs i (m - 1) (by omega) (by omega)) h2
    · exact ih (by omega)
def cpF (l : List (Int × Int)) : List (Int × Int) := cpK l l.length
theorem swoP : SWO (SrtP.ltf cmpPr) where
  irrefl x := by simp [SrtP.ltf, cmpPr_cmp.self]
  trans x y z h1 h2 := by
    simp only [SrtP.ltf, decide_eq_true_eq] at *
    exact cmpPr_cmp.transL h1 (by omega)
  ntrans x y z h1 h2 := by
    simp only [SrtP.ltf, decide_eq_false_iff_not] at *
    have a1 := cmpPr_cmp.anti x y
    have a2 := cmpPr_cmp.anti y z
    have a3 := cmpPr_cmp.anti x z
    have := cmpPr_cmp.trans z y x (by omega) (by omega)
    omega
/-- A list of pairs put in order, each once. -/
def putP (l : List (Int × Int)) (p : Int × Int) : List (Int × Int) := if putK l p < l.length ∧ l.getD (putK l p) default = p then l else l.take (putK l p) ++ [p] ++ l.drop (putK l p)
theorem putF_eq (l : List (Int × Int)) (x y : Int) : putF l x y = putP l (mkP x y) := rfl
theorem putP_mem (l : List (Int × Int)) (p x : Int × Int) : x ∈ putP l p ↔ x = p ∨ x ∈ l := by
  unfold putP
  split
  · rename_i h
    constructor
    · exact .inr
    · rintro (h1 | h1)
      · rw [h1, ← h.2]; simp [List.getD, h.1]
      · exact h1
  · rw [List.mem_append, List.mem_append, List.mem_singleton]
    have : x ∈ l ↔ x ∈ l.take (putK l p) ∨ x ∈ l.drop (putK l p) := by rw [← List.mem_append, List.take_append_drop]
    rw [this]
    constructor
    · rintro ((h | h) | h)
      · exact .inr (.inl h)
      · exact .inl h
      · exact .inr (.inr h)
    · rintro (h | h | h)
      · exact .inl (.inr h)
      · exact .inl (.inl h)
      · exact .inr h
theorem putP_sorted {l : List (Int × Int)} (p : Int × Int) (h : l.Pairwise fun a b => cmpPr a b < 0) : (putP l p).Pairwise fun a b => cmpPr a b < 0 := by
  unfold putP
  split
  · exact h
  · rename_i hn
    have ht : l.take (putK l p) = l.takeWhile fun x => ltP x p := (List.prefix_iff_eq_take.1 (List.takeWhile_prefix _)).symm
    have h1 : ∀ x ∈ l.take (putK l p), cmpPr x p < 0 := fun x hx => by
      rw [ht] at hx
      have := List.all_eq_true.1 (List.all_takeWhile (p := fun x => ltP x p) (l := l)) x hx
      rw [ltP_eq] at this
      exact of_decide_eq_true this
    have hsplit := List.take_append_drop (putK l p) l
    have hp : (l.take (putK l p) ++ l.drop (putK l p)).Pairwise fun a b => cmpPr a b < 0 := by rw [hsplit]; exact h
    have hp := List.pairwise_append.1 hp
    have h2 : ∀ y ∈ l.drop (putK l p), cmpPr p y < 0 := by
      have hd : l.drop (putK l p) = l.dropWhile fun x => ltP x p := by
        have e := List.takeWhile_append_dropWhile (p := fun x => ltP x p) (l := l)
        have := hsplit
        rw [ht] at this
        exact List.append_cancel_left (this.trans e.symm)
      cases hr : l.drop (putK l p) with
      | nil => intro y hy; cases hy
      | cons z r =>
        have hz : ltP z p = false := by
          have h3 : l.dropWhile (fun x => ltP x p) ≠ [] := by rw [← hd, hr]; simp
          have := List.head_dropWhile_not (fun x => ltP x p) h3
          have e : (l.dropWhile fun x => ltP x p).head h3 = z := by
            have h4 : (l.dropWhile fun x => ltP x p) = z :: r := by rw [← hd, hr]
            simp [h4]
          rw [e] at this
          simpa using this
        have hlt : putK l p < l.length := by
          have := congrArg List.length hr
          rw [List.length_drop, List.length_cons] at this
          omega
        have hzg : l.getD (putK l p) default = z := by
          have := getD_drop l (putK l p) 0
          rw [hr] at this
          simpa using this.symm
        have hz2 : cmpPr p z < 0 := by
          rw [ltP_eq] at hz
          have h4 : ¬ cmpPr z p < 0 := of_decide_eq_false hz
          have h5 : cmpPr z p ≠ 0 := fun e => hn ⟨hlt, by rw [hzg]; exact (cmpPr_zero _ _).1 e⟩
          have := cmpPr_cmp.anti z p
          omega
        have hp2 := hp.2.1
        rw [hr] at hp2
        intro y hy
        rcases List.mem_cons.1 hy with e | hy
        · rw [e]; exact hz2
        · have := (List.pairwise_cons.1 hp2).1 y hy
          exact cmpPr_cmp.transL hz2 (by omega)
    rw [List.append_assoc, List.pairwise_append]
    refine ⟨hp.1, ?_, ?_⟩
    · rw [List.singleton_append, List.pairwise_cons]
      exact ⟨h2, hp.2.1⟩
    · intro x hx y hy
      rcases List.mem_cons.1 hy with e | hy
      · rw [e]; exact h1 x hx
      · exact hp.2.2 x hx y hy
def setP (l : List (Int × Int)) : List (Int × Int) := l.foldl putP []
theorem foldl_putP (l : List (Int × Int)) : ∀ (acc : List (Int × Int)), (acc.Pairwise fun a b => cmpPr a b < 0) → ((l.foldl putP acc).Pairwise fun a b => cmpPr a b < 0) ∧ ∀ x, x ∈ l.foldl putP acc ↔ x ∈ l ∨ x ∈ acc := by
  induction l with
  | nil => intro acc h; exact ⟨h, fun x => by simp⟩
  | cons p l ih =>
    intro acc h
    obtain ⟨h1, h2⟩ := ih (putP acc p) (putP_sorted p h)
    refine ⟨h1, fun x => ?_⟩
    rw [List.foldl_cons, h2, putP_mem, List.mem_cons]
    constructor
    · rintro (h | h | h)
      · exact .inl (.inr h)
      · exact .inl (.inl h)
      · exact .inr h
    · rintro ((h | h) | h)
      · exact .inr (.inl h)
      · exact .inl h
      · exact .inr (.inr h)
theorem setP_sorted (l : List (Int × Int)) : (setP l).Pairwise fun a b => cmpPr a b < 0 := (foldl_putP l [] (by simp)).1
theorem setP_mem (l : List (Int × Int)) (x : Int × Int) : x ∈ setP l ↔ x ∈ l := by have := (foldl_putP l [] (by simp)).2 x; simpa [setP] using this
theorem cmpPr_irr (a b : Int × Int) (h1 : cmpPr a b < 0) (h2 : cmpPr b a < 0) : False := by have := cmpPr_cmp.anti a b; omega
theorem setP_unique {l out : List (Int × Int)} (h1 : out.Pairwise fun a b => cmpPr a b < 0) (h2 : ∀ x, x ∈ out ↔ x ∈ l) : out = setP l :=
  sorted_ext cmpPr_irr h1 (setP_sorted l) fun x => by rw [h2, setP_mem]
theorem setP_cp {l : List (Int × Int)} {d : Array (Int × Int)} (hq : PermIn 0 l.length l.toArray d) (hs : SortedIn (SrtP.ltf cmpPr) 0 l.length d) : cpF d.toList = setP l := by
  obtain ⟨hsz, _, hperm⟩ := hq
  have hsz : d.size = l.length := by simpa using hsz
  have e1 : d.extract 0 l.length = d := by rw [← hsz]; exact Array.extract_size
  have e2 : l.toArray.extract 0 l.length = l.toArray := by
    have : l.length = l.toArray.size := by simp
    rw [this]; exact Array.extract_size
  rw [e1, e2] at hperm
  have hD : d.toList.Perm l := by simpa using hperm
  refine setP_unique (cpK_sorted _ _ (Nat.le_refl _) fun i j hij hj => ?_) fun x => ?_
  · have h1 := hs i j (Nat.zero_le _) hij (by simpa [hsz] using hj)
    have h1 : ¬ cmpPr d[j]! d[i]! < 0 := of_decide_eq_false h1
    rw [getD_bang, getD_bang]
    have := cmpPr_cmp.anti d[i]! d[j]!
    omega
  · unfold cpF
    rw [cpK_mem _ _ (Nat.le_refl _), List.take_length, hD.mem_iff]
end Go.Proofs.Ytlefkkelohhnkaa
