/- The plain law: the cells in another order. -/
import Derived.Test.YtbckofoibdljgaaP6
namespace Go.Proofs.Ytbckofoibdljgaa
open Go.Vc Go.Sort

structure Key where
  val : Val
  time : Int
  trust : Int
instance : Inhabited Key := ⟨⟨default, 0, 0⟩⟩
def key (l : List Cell) (t : List Int) (i : Nat) : Key := ⟨(l.getD i default).val, (l.getD i default).time, t.getD i 0⟩
def candK (fr : Val → Nat) (k : Key) : Cand := ⟨⟨k.val, 0, k.time⟩, 0, k.trust, fr k.val⟩
theorem thenC_0 {α : Type} {f g : α → α → Int} {a b : α} (h : thenC f g a b = 0) : f a b = 0 ∧ g a b = 0 := by
  unfold thenC at h
  split at h
  · exact ⟨by assumption, h⟩
  · exact ⟨h, by omega⟩
theorem cmpK_anti {by_ : Int} {fr : Val → Nat} {x y : Key} (h1 : cmpC by_ (candK fr x) (candK fr y) ≤ 0) (h2 : cmpC by_ (candK fr y) (candK fr x) ≤ 0) : x = y := by
  have h0 : cmpC by_ (candK fr x) (candK fr y) = 0 := by have := (cmpC_cmp by_).anti (candK fr x) (candK fr y); omega
  unfold cmpC at h0
  have a1 := (thenC_0 h0).2
  have a2 := thenC_0 a1
  have a3 := thenC_0 a2.2
  have a4 := thenC_0 a3.2
  have e1 := (cmpI_zero _ _).1 a2.1
  have e2 := (cmpI_zero _ _).1 a3.1
  have e3 := (cmpV_zero _ _).1 a4.1
  obtain ⟨v, m, s⟩ := x
  obtain ⟨v', m', s'⟩ := y
  simp only [candK] at e1 e2 e3
  rw [e1, e2, e3]
theorem better_key (by_ : Int) (l : List Cell) (t : List Int) (i j : Nat) : better by_ (cand l t i) (cand l t j) = better by_ (candK (freqV l) (key l t i)) (candK (freqV l) (key l t j)) := rfl
theorem cmpK_le {by_ : Int} {l : List Cell} {t : List Int} {i j : Nat} (h : cmpC by_ (cand l t i) (cand l t j) < 0) : cmpC by_ (candK (freqV l) (key l t i)) (candK (freqV l) (key l t j)) ≤ 0 := by
  unfold cmpC thenC at h ⊢
  rw [better_key] at h
  have z : cmpI (candK (freqV l) (key l t i)).at_ (candK (freqV l) (key l t j)).at_ = 0 := rfl
  simp only [z]
  have e1 : (cand l t i).trust = (candK (freqV l) (key l t i)).trust := rfl
  have e2 : (cand l t i).cell.time = (candK (freqV l) (key l t i)).cell.time := rfl
  have e3 : (cand l t i).cell.val = (candK (freqV l) (key l t i)).cell.val := rfl
  have f1 : (cand l t j).trust = (candK (freqV l) (key l t j)).trust := rfl
  have f2 : (cand l t j).cell.time = (candK (freqV l) (key l t j)).cell.time := rfl
  have f3 : (cand l t j).cell.val = (candK (freqV l) (key l t j)).cell.val := rfl
  simp only [e1, e2, e3, f1, f2, f3] at h
  (repeat' split at h) <;> simp_all <;> omega
def keysL (by_ : Int) (l : List Cell) (t : List Int) : List Key := (rankL by_ l t).map (key l t)
theorem keysL_sorted (by_ : Int) (l : List Cell) (t : List Int) : (keysL by_ l t).Pairwise fun x y => cmpC by_ (candK (freqV l) x) (candK (freqV l) y) ≤ 0 := by
  unfold keysL
  rw [List.pairwise_map]
  exact (rankL_strict by_ l t).imp fun h => cmpK_le h

/-- The cells at other places, each once. -/
structure Turned (l l' : List Cell) (t t' : List Int) (g : Nat → Nat) : Prop where
  len : l'.length = l.length
  lent : t.length = l.length
  lent' : t'.length = l.length
  perm : ((List.range l.length).map g).Perm (List.range l.length)
  cell : ∀ j, j < l.length → l'.getD j default = l.getD (g j) default
  trust : ∀ j, j < l.length → t'.getD j 0 = t.getD (g j) 0
section
variable {l l' : List Cell} {t t' : List Int} {g : Nat → Nat}
theorem Turned.key (h : Turned l l' t t' g) {j : Nat} (hj : j < l.length) : key l' t' j = key l t (g j) := by
  unfold Go.Proofs.Ytbckofoibdljgaa.key; rw [h.cell j hj, h.trust j hj]
theorem Turned.list (h : Turned l l' t t' g) : l' = ((List.range l.length).map g).map fun i => l.getD i default := by
  rw [List.map_map]
  have := range_getD l'
  rw [h.len] at this
  rw [this]
  refine List.map_congr_left fun j hj => ?_
  have := List.mem_range.1 hj
  have e := h.cell j this
  simpa using e
theorem Turned.freq (h : Turned l l' t t' g) : freqV l' = freqV l := by
  funext v
  have e : l'.Perm l := by
    rw [h.list]
    refine (h.perm.map _).trans ?_
    rw [← range_getD]
  unfold freqV
  exact (e.filter _).length_eq
theorem Turned.keys (h : Turned l l' t t' g) (by_ : Int) : keysL by_ l' t' = keysL by_ l t := by
  refine perm_eq (R := fun x y => cmpC by_ (candK (freqV l) x) (candK (freqV l) y) ≤ 0) (fun a b h1 h2 => cmpK_anti h1 h2) ?_ (by have := keysL_sorted by_ l' t'; rwa [h.freq] at this) (keysL_sorted by_ l t)
  unfold keysL
  refine ((rankL_perm by_ l' t').map _).trans (List.Perm.trans ?_ ((rankL_perm by_ l t).map _).symm)
  have e1 : (idxK l' l'.length).map (Go.Proofs.Ytbckofoibdljgaa.key l' t') = (((List.range l.length).map g).filter fun i => counts (l.getD i default)).map (Go.Proofs.Ytbckofoibdljgaa.key l t) := by
    rw [List.filter_map, List.map_map]
    unfold idxK
    rw [h.len]
    have e2 : (List.range l.length).filter (fun i => counts (l'.getD i default)) = (List.range l.length).filter ((fun i => counts (l.getD i default)) ∘ g) := by
      refine List.filter_congr fun j hj => ?_
      rw [h.cell j (List.mem_range.1 hj)]; rfl
    rw [e2]
    refine List.map_congr_left fun j hj => ?_
    exact h.key (List.mem_range.1 (List.mem_filter.1 hj).1)
  rw [e1]
  exact (h.perm.filter _).map _
end
/-- The first one of each value, but for the first of all. -/
def othKK (ks : List Key) : Nat → List Key
  | 0 => []
  | k + 1 => if (decide (0 < k) && !(ks.take k).any fun x => decide (x.val = (ks.getD k default).val)) = true then othKK ks k ++ [ks.getD k default] else othKK ks k
theorem othK_keys (l : List Cell) (t : List Int) (R : List Nat) (k : Nat) (hk : k ≤ R.length) : (othK l R k).map (fun x => key l t x.toNat) = othKK (R.map (key l t)) k := by
  induction k with
  | zero => rfl
  | succ k ih =>
    have e : (R.map (key l t)).getD k default = key l t (R.getD k 0) := by simp [List.getD, show k < R.length by omega]
    have e2 : ((R.map (key l t)).take k).any (fun x => decide (x.val = (key l t (R.getD k 0)).val)) = seenB l R k (l.getD (R.getD k 0) default).val := by
      unfold seenB
      rw [← List.map_take, List.any_map]; rfl
    rw [othK, othKK, e, e2, ← ih (by omega)]
    split <;> simp
def keyA (l : List Cell) (t : List Int) (x : Int) : Key := key l t x.toNat
theorem Turned.all {l l' : List Cell} {t t' : List Int} {g : Nat → Nat} (h : Turned l l' t t' g) (by_ : Int) : (chooseF by_ l t < 0 ↔ chooseF by_ l' t' < 0) ∧ (0 ≤ chooseF by_ l t → (allF by_ l' t').map (keyA l' t') = (allF by_ l t).map (keyA l t)) := by
  have hr : rightB by_ l'.length t'.length = rightB by_ l.length t.length := by rw [h.len, h.lent, h.lent']
  have hk := h.keys by_
  unfold keysL at hk
  unfold allF chooseF othersF rankF
  rw [hr]
  cases rightB by_ l.length t.length with
  | false => simp
  | true =>
    simp only [if_true]
    have hl := congrArg List.length hk
    simp only [List.length_map] at hl
    have o1 := othK_keys l t (rankL by_ l t) (rankL by_ l t).length (Nat.le_refl _)
    have o2 := othK_keys l' t' (rankL by_ l' t') (rankL by_ l' t').length (Nat.le_refl _)
    rw [hk, hl, ← o1] at o2
    revert hk hl o1 o2
    cases h1 : rankL by_ l t with
    | nil =>
      cases h2 : rankL by_ l' t' with
      | nil => intro _ _ _ _; exact ⟨by simp, fun h => by simp at h⟩
      | cons i R => intro _ hl; simp at hl
    | cons i R =>
      cases h2 : rankL by_ l' t' with
      | nil => intro _ hl; simp at hl
      | cons i' R' =>
        intro hk hl o1 o2
        refine ⟨by show ((i : Int) < 0 ↔ (i' : Int) < 0); omega, fun _ => ?_⟩
        rw [List.map_cons, List.map_cons]
        congr 1
        · rw [List.map_cons, List.map_cons] at hk
          exact (List.cons.inj hk).1
        · rw [hl]; exact o2
theorem turn_perm (n r : Nat) : ((List.range n).map fun j => (n - 1 - j + r) % n).Perm (List.range n) := by
  refine nodup_perm ?_ (fun x hx => ?_) (by simp)
  · rw [List.nodup_iff_pairwise_ne, List.pairwise_map]
    refine List.Pairwise.imp_of_mem (fun {a b} ha hb hab => ?_) (List.pairwise_lt_range (n := n))
    have ha := List.mem_range.1 ha
    have hb := List.mem_range.1 hb
    intro e
    have e1 : (n - 1 - b + r) + (b - a) = n - 1 - a + r := by omega
    rw [← e1] at e
    have h3 : ((n - 1 - b + r) + (b - a)) % n = ((n - 1 - b + r) % n + (b - a)) % n := by rw [Nat.mod_add_mod]
    rw [h3] at e
    have h4 := Nat.mod_lt (n - 1 - b + r) (by omega : n > 0)
    generalize (n - 1 - b + r) % n = q at e h4
    by_cases hq : q + (b - a) < n
    · rw [Nat.mod_eq_of_lt hq] at e; omega
    · rw [Nat.mod_eq_sub_mod (by omega), Nat.mod_eq_of_lt (by omega)] at e; omega
  · obtain ⟨j, hj, rfl⟩ := List.mem_map.1 hx
    have := List.mem_range.1 hj
    exact List.mem_range.2 (Nat.mod_lt _ (by omega))
end Go.Proofs.Ytbckofoibdljgaa
