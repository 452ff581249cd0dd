/- Golden: what the facts are, plainly. -/
import Derived.Test.YtckihgamnmmbnaaL3
namespace Go.Proofs.Ytckihgamnmmbnaa
open Go.Vc Go.Sort

theorem gapp_l {α : Type} (a b : List α) (d : α) {i : Nat} (h : i < a.length) : (a ++ b).getD i d = a.getD i d := by
  simp [List.getD, List.getElem?_append_left h]
theorem gapp_r {α : Type} (a b : List α) (d : α) (i : Nat) : (a ++ b).getD (a.length + i) d = b.getD i d := by
  simp [List.getD, List.getElem?_append_right]
theorem gmap {α β : Type} [Inhabited α] (f : α → β) (l : List α) (d : β) {i : Nat} (h : i < l.length) : (l.map f).getD i d = f (l.getD i default) := by
  simp [List.getD, h]
theorem grange (n i d : Nat) (h : i < n) : (List.range n).getD i d = i := by
  simp [List.getD, h]
theorem gset_ne {α : Type} (l : List α) (c c' : Nat) (v d : α) (h : c ≠ c') : (l.set c v).getD c' d = l.getD c' d := by
  simp [List.getD, List.getElem?_set, h]
theorem gset_eq {α : Type} (l : List α) (c : Nat) (v d : α) (h : c < l.length) : (l.set c v).getD c d = v := by
  simp [List.getD, h]

/-- The others have values of their own. -/
theorem othK_vals (l : List Cell) (R : List Nat) (k : Nat) (hk : k ≤ R.length) :
    (∀ x ∈ othK l R k, seenB l R k (l.getD x.toNat default).val = true ∧ (l.getD x.toNat default).val ≠ (l.getD (R.getD 0 0) default).val) ∧
    (othK l R k).Pairwise fun x y => (l.getD x.toNat default).val ≠ (l.getD y.toNat default).val := by
  induction k with
  | zero => exact ⟨fun x hx => by simp [othK] at hx, by simp [othK]⟩
  | succ k ih =>
    obtain ⟨h1, h2⟩ := ih (by omega)
    have hs := fun v => seenB_succ l R k v (by omega)
    rw [othK]
    split
    · rename_i hc
      rw [Bool.and_eq_true] at hc
      have hk0 : 0 < k := of_decide_eq_true hc.1
      have hc2 : seenB l R k (l.getD (R.getD k 0) default).val = false := by simpa using hc.2
      refine ⟨fun x hx => ?_, ?_⟩
      · rcases List.mem_append.1 hx with hx | hx
        · exact ⟨by rw [hs, (h1 x hx).1]; rfl, (h1 x hx).2⟩
        · rw [List.mem_singleton] at hx
          subst hx
          refine ⟨by rw [hs]; simp, fun e => ?_⟩
          have : seenB l R k (l.getD (R.getD k 0) default).val = true := (seenB_iff _ _ _ _).2 ⟨0, hk0, by omega, e.symm⟩
          rw [hc2] at this; cases this
      · rw [List.pairwise_append]
        refine ⟨h2, List.pairwise_singleton _ _, fun x hx y hy e => ?_⟩
        rw [List.mem_singleton] at hy
        subst hy
        have := (h1 x hx).1
        rw [e] at this
        have this : seenB l R k (l.getD (R.getD k 0) default).val = true := this
        rw [hc2] at this; cases this
    · exact ⟨fun x hx => ⟨by rw [hs, (h1 x hx).1]; rfl, (h1 x hx).2⟩, h2⟩
def cval (recs : List Rec) (mem : List Int) (c : Nat) (i : Int) : Val := ((colL recs mem (c : Nat)).getD i.toNat default).val
theorem oth_ne {s : Set_} {recs : List Rec} {mem : List Int} {t : Int} {c p q : Nat} (h : p < q) (hq : q < (othG s recs mem t (c : Nat)).length) :
    cval recs mem c ((othG s recs mem t (c : Nat)).getD p default) ≠ cval recs mem c ((othG s recs mem t (c : Nat)).getD q default) := by
  have := (othK_vals (colL recs mem (c : Nat)) (rankF (ruleG s t (c : Nat)) (colL recs mem (c : Nat)) (colT s recs mem)) _ (Nat.le_refl _)).2
  have := List.pairwise_iff_getElem.1 this p q (by unfold othG at hq; exact Nat.lt_trans h hq) hq h
  unfold cval
  have e1 : ∀ r, (hr : r < (othG s recs mem t (c : Nat)).length) → (othG s recs mem t (c : Nat)).getD r default = (othG s recs mem t (c : Nat))[r] := fun r hr => by simp [List.getD, hr]
  rw [e1 p (Nat.lt_trans h hq), e1 q hq]
  exact this
theorem oth_base {s : Set_} {recs : List Rec} {mem : List Int} {t : Int} {c : Nat} {i : Int} (h : i ∈ othG s recs mem t (c : Nat)) : cval recs mem c i ≠ baseC s recs mem t (c : Nat) := by
  have h1 := ((othK_vals (colL recs mem (c : Nat)) (rankF (ruleG s t (c : Nat)) (colL recs mem (c : Nat)) (colT s recs mem)) _ (Nat.le_refl _)).1 i h).2
  unfold baseC chosen chooseF
  unfold othG othersF at h
  cases hR : rankF (ruleG s t (c : Nat)) (colL recs mem (c : Nat)) (colT s recs mem) with
  | nil => rw [hR] at h; simp [othK] at h
  | cons j R =>
    rw [hR] at h1
    show _ ≠ if 0 ≤ ((j : Nat) : Int) then _ else _
    rw [if_pos (by omega)]
    exact h1
def baseF (s : Set_) (recs : List Rec) (mem : List Int) (t : Int) : Fac := ⟨t, mem.getD 0 default, 0, baseG s recs mem t, 0, mem⟩
theorem baseG_at (s : Set_) (recs : List Rec) (mem : List Int) (t : Int) {c : Nat} (h : c < ncol s t) : (baseG s recs mem t).getD c default = baseC s recs mem t (c : Nat) := by
  simp [baseG, List.getD, h]
/-- The base fact and the variants of the first columns. -/
structure VIn (s : Set_) (recs : List Rec) (mem : List Int) (t : Int) (c j : Nat) (V : List Fac) : Prop where
  pos : 0 < V.length
  head : V.getD 0 default = baseF s recs mem t
  var : ∀ k, 0 < k → k < V.length → ∃ c' i, (c' < c ∧ i ∈ othG s recs mem t (c' : Nat) ∨ c' = c ∧ ∃ p, p < j ∧ p < (othG s recs mem t (c : Nat)).length ∧ i = (othG s recs mem t (c : Nat)).getD p default) ∧ V.getD k default = varF recs mem t (baseG s recs mem t) c' i k
  ne : ∀ k m, k < m → m < V.length → (V.getD k default).row ≠ (V.getD m default).row
theorem VIn.step {s : Set_} {recs : List Rec} {mem : List Int} {t : Int} {c j : Nat} {V : List Fac} (h : VIn s recs mem t c j V) (hc : c < ncol s t) (hj : j < (othG s recs mem t (c : Nat)).length) :
    VIn s recs mem t c (j + 1) (V ++ [varF recs mem t (baseG s recs mem t) c ((othG s recs mem t (c : Nat)).getD j default) V.length]) := by
  have hbl := baseG_len s recs mem t
  have hnew : (V ++ [varF recs mem t (baseG s recs mem t) c ((othG s recs mem t (c : Nat)).getD j default) V.length]).getD V.length default = varF recs mem t (baseG s recs mem t) c ((othG s recs mem t (c : Nat)).getD j default) V.length := gapp_r V _ _ 0
  have hold : ∀ k, k < V.length → (V ++ [varF recs mem t (baseG s recs mem t) c ((othG s recs mem t (c : Nat)).getD j default) V.length]).getD k default = V.getD k default := fun k hk => gapp_l _ _ _ hk
  refine ⟨by simp, by rw [hold 0 h.pos]; exact h.head, fun k hk hl => ?_, fun k m hkm hm => ?_⟩
  · rw [List.length_append, List.length_singleton] at hl
    by_cases e : k = V.length
    · subst e
      exact ⟨c, _, .inr ⟨rfl, j, by omega, hj, rfl⟩, hnew⟩
    · obtain ⟨c', i, h1, h2⟩ := h.var k hk (by omega)
      refine ⟨c', i, ?_, by rw [hold k (by omega)]; exact h2⟩
      rcases h1 with h1 | ⟨h1, p, h2, h3, h4⟩
      · exact .inl h1
      · exact .inr ⟨h1, p, by omega, h3, h4⟩
  · rw [List.length_append, List.length_singleton] at hm
    by_cases e : m = V.length
    · subst e
      rw [hnew, hold k hkm]
      have hv : (varF recs mem t (baseG s recs mem t) c ((othG s recs mem t (c : Nat)).getD j default) V.length).row.getD c default = cval recs mem c ((othG s recs mem t (c : Nat)).getD j default) := gset_eq _ _ _ _ (by omega)
      have hnb := oth_base (gmem hj)
      intro he
      have he := congrArg (fun r : List Val => r.getD c default) he
      have he : (V.getD k default).row.getD c default = cval recs mem c ((othG s recs mem t (c : Nat)).getD j default) := he.trans hv
      by_cases k0 : k = 0
      · subst k0
        rw [h.head] at he
        exact hnb (he ▸ baseG_at s recs mem t hc)
      · obtain ⟨c', i, h1, h2⟩ := h.var k (by omega) hkm
        rw [h2] at he
        rcases h1 with ⟨h1, _⟩ | ⟨h1, p, h3, h4, h5⟩
        · have : (varF recs mem t (baseG s recs mem t) c' i k).row.getD c default = (baseG s recs mem t).getD c default := gset_ne _ _ _ _ _ (by omega)
          rw [this, baseG_at s recs mem t hc] at he
          exact hnb he.symm
        · subst h1
          have : (varF recs mem t (baseG s recs mem t) c' i k).row.getD c' default = cval recs mem c' i := gset_eq _ _ _ _ (by omega)
          rw [this, h5] at he
          exact oth_ne h3 hj he
    · rw [hold k (by omega), hold m (by omega)]
      exact h.ne k m hkm (by omega)
theorem vIn_ok {s : Set_} {recs : List Rec} {mem : List Int} {t : Int} {c : Nat} {V : List Fac} (h : VIn s recs mem t c 0 V) (hc : c < ncol s t) : ∀ j, j ≤ (othG s recs mem t (c : Nat)).length → VIn s recs mem t c j (vIn recs mem t (baseG s recs mem t) c (othG s recs mem t (c : Nat)) j V) := by
  intro j
  induction j with
  | zero => exact fun _ => h
  | succ j ih =>
    intro hj
    have hi := ih (by omega)
    rw [vIn]
    split
    · exact hi.step hc (by omega)
    · exact ⟨hi.pos, hi.head, fun k h1 h2 => by
        obtain ⟨c', i, h3, h4⟩ := hi.var k h1 h2
        refine ⟨c', i, ?_, h4⟩
        rcases h3 with h3 | ⟨h3, p, h5, h6, h7⟩
        · exact .inl h3
        · exact .inr ⟨h3, p, by omega, h6, h7⟩, hi.ne⟩
/-- The base fact and the variants of an entity. -/
structure VOk (s : Set_) (recs : List Rec) (mem : List Int) (t : Int) (c : Nat) (V : List Fac) : Prop where
  pos : 0 < V.length
  head : V.getD 0 default = baseF s recs mem t
  var : ∀ k, 0 < k → k < V.length → ∃ c' i, c' < c ∧ i ∈ othG s recs mem t (c' : Nat) ∧ V.getD k default = varF recs mem t (baseG s recs mem t) c' i k
  ne : ∀ k m, k < m → m < V.length → (V.getD k default).row ≠ (V.getD m default).row
theorem vOut_ok (s : Set_) (recs : List Rec) (mem : List Int) (t : Int) : ∀ c, c ≤ ncol s t → VOk s recs mem t c (vOut s recs mem t c) := by
  intro c
  induction c with
  | zero =>
    intro _
    refine ⟨by simp [vOut], rfl, fun k h1 h2 => ?_, fun k m h1 h2 => ?_⟩
    · simp [vOut] at h2; omega
    · simp [vOut] at h2; omega
  | succ c ih =>
    intro hc
    have hi := ih (by omega)
    have h0 : VIn s recs mem t c 0 (vOut s recs mem t c) := ⟨hi.pos, hi.head, fun k h1 h2 => by
      obtain ⟨c', i, h3, h4, h5⟩ := hi.var k h1 h2
      exact ⟨c', i, .inl ⟨h3, h4⟩, h5⟩, hi.ne⟩
    have h1 := vIn_ok h0 (by omega) _ (Nat.le_refl _)
    rw [vOut]
    refine ⟨h1.pos, h1.head, fun k h3 h4 => ?_, h1.ne⟩
    obtain ⟨c', i, h5, h6⟩ := h1.var k h3 h4
    rcases h5 with ⟨h5, h7⟩ | ⟨h5, p, _, h8, h9⟩
    · exact ⟨c', i, by omega, h7, h6⟩
    · subst h5
      exact ⟨c', i, by omega, h9 ▸ gmem h8, h6⟩
/-- The number of the base fact and the variants. -/
def nV (s : Set_) (recs : List Rec) (mem : List Int) (t : Int) : Nat := (vOut s recs mem t (ncol s t)).length
def nS (mem : List Int) : Nat := if mem.length = 1 then 0 else mem.length
theorem nV_ok (s : Set_) (recs : List Rec) (mem : List Int) (t : Int) : 0 < nV s recs mem t ∧ nV s recs mem t ≤ 5 := ⟨(vOut_ok s recs mem t _ (Nat.le_refl _)).pos, vOut_len _ _ _ _ _⟩
theorem factsG_num (s : Set_) (recs : List Rec) (mem : List Int) (t : Int) : (factsG s recs mem t).length = nV s recs mem t + nS mem := by
  unfold factsG nV nS
  rw [List.length_append]
  split <;> simp
theorem facts_v {s : Set_} {recs : List Rec} {mem : List Int} {t : Int} {k : Nat} (h : k < nV s recs mem t) : (factsG s recs mem t).getD k default = (vOut s recs mem t (ncol s t)).getD k default := gapp_l _ _ _ h
theorem facts_s {s : Set_} {recs : List Rec} {mem : List Int} {t : Int} {k : Nat} (h : k < nS mem) : (factsG s recs mem t).getD (nV s recs mem t + k) default = spF recs mem t k := by
  unfold factsG nV
  rw [gapp_r]
  unfold nS at h
  split at h
  · omega
  · rename_i hn
    rw [if_neg hn, gmap _ _ _ (by simpa using h), grange _ _ _ h]
theorem facts_at {s : Set_} {recs : List Rec} {mem : List Int} {t : Int} {k : Nat} (h : k < (factsG s recs mem t).length) :
    (k = 0 ∧ (factsG s recs mem t).getD k default = baseF s recs mem t) ∨ (0 < k ∧ k < nV s recs mem t ∧ ∃ c i, c < ncol s t ∧ i ∈ othG s recs mem t (c : Nat) ∧ (factsG s recs mem t).getD k default = varF recs mem t (baseG s recs mem t) c i k) ∨
      (nV s recs mem t ≤ k ∧ k - nV s recs mem t < nS mem ∧ (factsG s recs mem t).getD k default = spF recs mem t (k - nV s recs mem t)) := by
  have hv := vOut_ok s recs mem t _ (Nat.le_refl _)
  have hn := nV_ok s recs mem t
  rw [factsG_num] at h
  by_cases h1 : k < nV s recs mem t
  · by_cases h0 : k = 0
    · subst h0
      exact .inl ⟨rfl, by rw [facts_v h1]; exact hv.head⟩
    · obtain ⟨c, i, h2, h3, h4⟩ := hv.var k (by omega) h1
      exact .inr (.inl ⟨by omega, h1, c, i, h2, h3, by rw [facts_v h1]; exact h4⟩)
  · refine .inr (.inr ⟨by omega, by omega, ?_⟩)
    have := facts_s (s := s) (recs := recs) (t := t) (show k - nV s recs mem t < nS mem by omega)
    rwa [show nV s recs mem t + (k - nV s recs mem t) = k by omega] at this
/-- Table and entity of each fact; the first one alone has the variant 0. -/
theorem facts_same {s : Set_} {recs : List Rec} {mem : List Int} {t : Int} {k : Nat} (h : k < (factsG s recs mem t).length) :
    ((factsG s recs mem t).getD k default).table = t ∧ ((factsG s recs mem t).getD k default).ent = mem.getD 0 default ∧ (((factsG s recs mem t).getD k default).variant = 0 ↔ k = 0) := by
  rcases facts_at h with ⟨h1, h2⟩ | ⟨h1, h2, c, i, h3, h4, h5⟩ | ⟨h1, h2, h3⟩
  · rw [h2]; exact ⟨rfl, rfl, by simp [baseF, h1]⟩
  · rw [h5]; exact ⟨rfl, rfl, by simp [varF]⟩
  · rw [h3]; refine ⟨rfl, rfl, ?_⟩
    have := (nV_ok s recs mem t).1
    simp [spF]; omega
end Go.Proofs.Ytckihgamnmmbnaa
