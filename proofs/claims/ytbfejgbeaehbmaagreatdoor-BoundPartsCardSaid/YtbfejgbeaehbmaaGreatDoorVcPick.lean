/- Own library: the repairs that have the best vertex of each block. Plain. -/
import Derived.Test.YtbfejgbeaehbmaaGreatDoorVcBlk
namespace Go.Vc
/-- The best vertex of a list, as a loop finds it: the least weight (0) or the greatest (1). -/
def bstK (t : Nat) (ws c : List Int) : Nat → Int
  | 0 => c.getD 0 default
  | k + 1 => if (t = 0 ∧ wtF ws (c.getD k default) < wtF ws (bstK t ws c k)) ∨ (t = 1 ∧ wtF ws (bstK t ws c k) < wtF ws (c.getD k default)) then c.getD k default else bstK t ws c k
theorem bst_succ (t : Nat) (ws c : List Int) (k : Nat) : bstK t ws c (k + 1) = if (t = 0 ∧ wtF ws (c.getD k default) < wtF ws (bstK t ws c k)) ∨ (t = 1 ∧ wtF ws (bstK t ws c k) < wtF ws (c.getD k default)) then c.getD k default else bstK t ws c k := rfl
theorem wt_get {ws c : List Int} {k : Nat} (hk : k < c.length) : (c.map (wtF ws)).getD k default = wtF ws (c.getD k default) := by
  simp [List.getD, hk]
theorem get_mem {c : List Int} {k : Nat} (hk : k < c.length) : c.getD k default ∈ c := by rw [getI hk]; exact List.getElem_mem _
theorem bst_mem {t : Nat} {ws c : List Int} (hc : 0 < c.length) : ∀ {k : Nat}, k ≤ c.length → bstK t ws c k ∈ c
  | 0, _ => get_mem hc
  | k + 1, hk => by
    rw [bst_succ]
    split
    · exact get_mem hk
    · exact bst_mem hc (by omega)
theorem bst_min {ws c : List Int} (hc : 0 < c.length) : ∀ {k : Nat}, k ≤ c.length → wtF ws (bstK 0 ws c k) = minP (c.map (wtF ws)) k
  | 0, _ => (wt_get hc).symm
  | k + 1, hk => by
    have ih := bst_min (ws := ws) hc (k := k) (by omega)
    rw [minP_succ (by rw [List.length_map]; exact hk), wt_get hk, ← ih]
    rw [bst_succ]
    split <;> omega
theorem bst_max {ws c : List Int} (hc : 0 < c.length) : ∀ {k : Nat}, k ≤ c.length → wtF ws (bstK 1 ws c k) = maxP (c.map (wtF ws)) k
  | 0, _ => (wt_get hc).symm
  | k + 1, hk => by
    have ih := bst_max (ws := ws) hc (k := k) (by omega)
    rw [maxP_succ (by rw [List.length_map]; exact hk), wt_get hk, ← ih]
    rw [bst_succ]
    split <;> omega
def pks (t : Nat) (ws : List Int) (L : List (List Int)) : List Int := (L.filter fun c => decide (c.length ≠ 1)).map fun c => bstK t ws c c.length
theorem pks_snoc (t : Nat) (ws : List Int) (L : List (List Int)) (c : List Int) : pks t ws (L ++ [c]) = pks t ws L ++ if c.length = 1 then [] else [bstK t ws c c.length] := by
  unfold pks
  rw [List.filter_append, List.map_append]
  congr 1
  by_cases h : c.length = 1
  · rw [if_pos h, List.filter_cons_of_neg (by simpa using h)]; rfl
  · rw [if_neg h, List.filter_cons_of_pos (by simpa using h)]; rfl
theorem pks_len (t : Nat) (ws : List Int) (L : List (List Int)) : (pks t ws L).length ≤ L.length := by
  unfold pks; rw [List.length_map]; exact List.length_filter_le _ _
theorem comp_disj {g : Gr} (hg : validG g = true) {c c' : List Int} (hc : c ∈ compsG g) (hc' : c' ∈ compsG g) {v : Int} (hv : v ∈ c) (hv' : v ∈ c') : c = c' := by
  obtain ⟨h, _, _, rfl⟩ := (comps_mem hg).1 hc
  obtain ⟨h', _, _, rfl⟩ := (comps_mem hg).1 hc'
  obtain ⟨i, _, hi, rfl⟩ := memsK_mem.1 hv
  obtain ⟨j, _, hj, e⟩ := memsK_mem.1 hv'
  have : i = j := by omega
  subst this
  rw [← hi, ← hj]
theorem pks_mem {t : Nat} {ws : List Int} {L : List (List Int)} {x : Int} : x ∈ pks t ws L ↔ ∃ c ∈ L, c.length ≠ 1 ∧ x = bstK t ws c c.length := by
  unfold pks
  simp only [List.mem_map, List.mem_filter, decide_eq_true_eq]
  exact ⟨fun ⟨c, ⟨h1, h2⟩, h3⟩ => ⟨c, h1, h2, h3.symm⟩, fun ⟨c, h1, h2, h3⟩ => ⟨c, ⟨h1, h2⟩, h3.symm⟩⟩
theorem pks_load {g : Gr} (hg : validG g = true) (t : Nat) (ws : List Int) (hb : ∀ c ∈ compsG g, c.length ≠ 1 → blockB g.edges c = true) : loadB g (setF (pks t ws (compsG g))) = true := by
  refine loadB_iff.2 ⟨hg, setB_iff.2 ⟨setF_inc _, fun x hx => ?_⟩, indB_iff.2 fun e he => ?_⟩
  · obtain ⟨c, hc, _, rfl⟩ := pks_mem.1 ((setF_mem _ _).1 hx)
    exact (setB_iff.1 (comps_set hg hc)).2 _ (bst_mem (comp_ne hg hc) (Nat.le_refl _))
  · rw [← Bool.not_eq_true]
    intro hs
    have hs := subB_iff.1 hs
    obtain ⟨hne, hinc, _⟩ := (validG_iff.1 hg).2.2.1 e he
    have hl : 0 < e.length := List.length_pos_iff.2 hne
    have hv := get_mem hl
    obtain ⟨c, hc, hc1, hv1⟩ := pks_mem.1 ((setF_mem _ _).1 (hs _ hv))
    have hcv : e.getD 0 default ∈ c := by rw [hv1]; exact bst_mem (comp_ne hg hc) (Nat.le_refl _)
    have hin := comp_edge hg hc he hv hcv
    have hall : ∀ x ∈ e, x = e.getD 0 default := fun x hx => by
      obtain ⟨c', hc', _, hx1⟩ := pks_mem.1 ((setF_mem _ _).1 (hs _ hx))
      have hcx : x ∈ c' := by rw [hx1]; exact bst_mem (comp_ne hg hc') (Nat.le_refl _)
      have := comp_disj hg hc hc' (hin x hx) hcx
      subst this
      rw [hx1, hv1]
    have e1 : e = [e.getD 0 default] := inc_ext hinc (List.pairwise_singleton _ _) fun x => ⟨fun hx => by rw [List.mem_singleton]; exact hall x hx, fun hx => by rw [List.mem_singleton] at hx; rw [hx]; exact hv⟩
    obtain ⟨h2, hp⟩ := (block_iff hg hc).1 (hb c hc hc1)
    have hci := comp_inc hg hc
    obtain ⟨y, hy, hyv⟩ : ∃ y ∈ c, y ≠ e.getD 0 default := by
      by_cases h0 : c.getD 0 default = e.getD 0 default
      · refine ⟨c.getD 1 default, get_mem h2, fun h1 => ?_⟩
        have := inc_at hci (show 0 < 1 by decide) h2
        omega
      · exact ⟨_, get_mem (by omega), h0⟩
    have key : ∃ f ∈ g.edges, e.getD 0 default ∈ f ∧ y ∈ f := by
      rcases Int.lt_or_gt_of_ne hyv with h | h
      · exact ⟨_, hp _ ((prsL_mem hci).2 ⟨y, _, rfl, hy, hcv, h⟩), by simp, by simp⟩
      · exact ⟨_, hp _ ((prsL_mem hci).2 ⟨_, y, rfl, hcv, hy, h⟩), by simp, by simp⟩
    obtain ⟨f, hf, hvf, hyf⟩ := key
    have := (validG_iff2.1 hg).2.2.2.2 f hf e he (subB_iff.2 fun x hx => by rw [hall x hx]; exact hvf)
    rw [← this] at hyf
    exact hyv (hall y hyf)
theorem rng_single {g : Gr} (hg : validG g = true) {c R : List Int} (hc : c ∈ compsG g) (h1 : c.length = 1) (hR : IsRep g R) (ws : List Int) : rngC g.edges ws c = (sm ((c.filter fun v => decide (v ∈ R)).map (wtF ws)), sm ((c.filter fun v => decide (v ∈ R)).map (wtF ws))) := by
  match c, h1 with
  | [v], _ =>
    unfold rngC
    by_cases hb : barE g.edges v = true
    · rw [if_pos (by rw [show ([v] : List Int).getD 0 default = v from rfl, hb]; rfl), List.filter_cons_of_neg (by simpa using hR.out hb)]; rfl
    · have hb : barE g.edges v = false := by simpa using hb
      have hv := single_in hg hc hb hR
      rw [if_neg (by rw [show ([v] : List Int).getD 0 default = v from rfl, hb]; exact fun h => nomatch h), if_pos (by rfl), List.filter_cons_of_pos (by simpa using hv)]
      simp [minP, maxP, sm]
theorem rng_pick {g : Gr} (hg : validG g = true) {c R : List Int} (hc : c ∈ compsG g) (hb : blockB g.edges c = true) (hR : IsRep g R) (ws : List Int) {v : Int} (hv : v ∈ c) (hvR : v ∈ R) : sm ((c.filter fun v => decide (v ∈ R)).map (wtF ws)) = wtF ws v ∧ rngC g.edges ws c = (minP (c.map (wtF ws)) c.length, maxP (c.map (wtF ws)) c.length) := by
  obtain ⟨u, hu, hf⟩ := block_one hg hc hb hR
  have : v ∈ (c.filter fun x => decide (x ∈ R)) := List.mem_filter.2 ⟨hv, decide_eq_true hvR⟩
  rw [hf, List.mem_singleton] at this
  subst this
  refine ⟨by rw [hf]; show wtF ws v + 0 = _; omega, ?_⟩
  have h2 := ((block_iff hg hc).1 hb).1
  unfold rngC
  rw [if_neg (by rw [decide_eq_false (show ¬ c.length = 1 by omega), Bool.and_false]; decide), if_pos (by rw [hb, Bool.or_true])]
theorem pks_sum {g : Gr} {t : Nat} {ws R : List Int} (hw : wtB g ws = true) (hb : ∀ c ∈ compsG g, c.length ≠ 1 → blockB g.edges c = true) (hR : IsRep g R) (hs : ∀ x ∈ pks t ws (compsG g), x ∈ R) :
    (t = 0 → sm (R.map (wtF ws)) = (sumsF g ws).1) ∧ (t = 1 → sm (R.map (wtF ws)) = (sumsF g ws).2.1) := by
  have hg := (wtB_iff.1 hw).1
  have key : ∀ c ∈ compsG g, (t = 0 → sm ((c.filter fun v => decide (v ∈ R)).map (wtF ws)) = (rngC g.edges ws c).1) ∧ (t = 1 → sm ((c.filter fun v => decide (v ∈ R)).map (wtF ws)) = (rngC g.edges ws c).2) := fun c hc => by
    by_cases h1 : c.length = 1
    · rw [rng_single hg hc h1 hR ws]; exact ⟨fun _ => rfl, fun _ => rfl⟩
    · have hv := bst_mem (t := t) (ws := ws) (comp_ne hg hc) (Nat.le_refl _)
      obtain ⟨e1, e2⟩ := rng_pick hg hc (hb c hc h1) hR ws hv (hs _ (pks_mem.2 ⟨c, hc, h1, rfl⟩))
      rw [e1, e2]
      exact ⟨fun h => by subst h; exact bst_min (comp_ne hg hc) (Nat.le_refl _), fun h => by subst h; exact bst_max (comp_ne hg hc) (Nat.le_refl _)⟩
  unfold sumsF
  rw [if_pos hw, rep_sum hg hR.set]
  exact ⟨fun h => sm_congr _ _ fun c hc => (key c hc).1 h, fun h => sm_congr _ _ fun c hc => (key c hc).2 h⟩
end Go.Vc
