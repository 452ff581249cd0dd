/- Own library: the two parts of a choice of components; opposite weights. Plain. -/
import Derived.Test.YtbfejgbeaehbmaaGreatDoorVcSplit
import Derived.Test.YtbfejgbeaehbmaaGreatDoorVcDiv
namespace Go.Vc
/-- The vertices of the chosen ones among the first components. -/
def pcK (β : Nat → Nat) (L : List (List Int)) (k n : Nat) : List Int := ((List.range n).filter fun i => decide (β i = k)).flatMap fun i => L.getD i default
theorem pcK_succ (β : Nat → Nat) (L : List (List Int)) (k n : Nat) : pcK β L k (n + 1) = pcK β L k n ++ if β n = k then L.getD n default else [] := by
  unfold pcK
  rw [List.range_succ, List.filter_append, List.flatMap_append]
  congr 1
  by_cases h : β n = k
  · rw [if_pos h, List.filter_cons_of_pos (by simpa using h)]; simp
  · rw [if_neg h, List.filter_cons_of_neg (by simpa using h)]; rfl
theorem pcK_mem {β : Nat → Nat} {L : List (List Int)} {k n : Nat} {v : Int} : v ∈ pcK β L k n ↔ ∃ i, i < n ∧ β i = k ∧ v ∈ L.getD i default := by
  unfold pcK
  simp only [List.mem_flatMap, List.mem_filter, List.mem_range, decide_eq_true_eq]
  exact ⟨fun ⟨i, ⟨h1, h2⟩, h3⟩ => ⟨i, h1, h2, h3⟩, fun ⟨i, h1, h2, h3⟩ => ⟨i, ⟨h1, h2⟩, h3⟩⟩
theorem comps_eq {g : Gr} (hg : validG g = true) : compsG g = grpsK (compE g.edges) g.n.toNat := by unfold compsG; rw [if_pos hg]
theorem comp_ix {g : Gr} (hg : validG g = true) {i j : Nat} (hi : i < (compsG g).length) (hj : j < (compsG g).length) {v : Int} (h1 : v ∈ (compsG g).getD i default) (h2 : v ∈ (compsG g).getD j default) : i = j := by
  rw [comps_eq hg] at *
  rw [grpsK_len] at hi hj
  rw [← grp_pos hi h1, ← grp_pos hj h2]
theorem pc_in {g : Gr} (hg : validG g = true) {β : Nat → Nat} {k j : Nat} (hj : j < (compsG g).length) {v : Int} (hv : v ∈ (compsG g).getD j default) : v ∈ setF (pcK β (compsG g) k (compsG g).length) ↔ β j = k := by
  rw [setF_mem, pcK_mem]
  constructor
  · rintro ⟨i, hi, hb, h⟩
    rw [← comp_ix hg hi hj h hv]; exact hb
  · intro h; exact ⟨j, hj, h, hv⟩
theorem pc_whole {g : Gr} (hg : validG g = true) (β : Nat → Nat) (k : Nat) : Whole g (setF (pcK β (compsG g) k (compsG g).length)) := by
  refine ⟨setB_iff.2 ⟨setF_inc _, fun x hx => ?_⟩, fun c hc => ?_⟩
  · obtain ⟨i, hi, _, hx⟩ := pcK_mem.1 ((setF_mem _ _).1 hx)
    exact (setB_iff.1 (comps_set hg (by rw [gD hi]; exact List.getElem_mem _))).2 x hx
  · obtain ⟨j, hj, rfl⟩ := List.getElem_of_mem hc
    rw [← gD hj]
    by_cases h : β j = k
    · exact .inl fun v hv => (pc_in hg hj hv).2 h
    · exact .inr fun v hv hh => h ((pc_in hg hj hv).1 hh)
theorem sm_two {α : Type} {p q : α → Bool} {f : α → Int} : ∀ {l : List α}, (∀ x ∈ l, p x = !q x) → sm ((l.filter p).map f) + sm ((l.filter q).map f) = sm (l.map f)
  | [], _ => rfl
  | x :: l, h => by
    have ih := sm_two (p := p) (q := q) (f := f) (l := l) fun y hy => h y (by simp [hy])
    have hx := h x (by simp)
    show _ = f x + sm (l.map f)
    cases hq : q x with
    | true =>
      rw [hq] at hx
      rw [List.filter_cons_of_neg (by rw [hx]; decide), List.filter_cons_of_pos hq]
      show _ + (f x + sm _) = _
      omega
    | false =>
      rw [hq] at hx
      rw [List.filter_cons_of_pos (by rw [hx]; rfl), List.filter_cons_of_neg (by rw [hq]; decide)]
      show (f x + sm _) + _ = _
      omega
/-- The two parts have the range together. -/
theorem parts_sum {g : Gr} {ws : List Int} (hw : wtB g ws = true) {β : Nat → Nat} (hβ : ∀ i, i < (compsG g).length → β i = 0 ∨ β i = 1) :
    let V := fun k => setF (pcK β (compsG g) k (compsG g).length)
    (∀ k, sumsF (partG g (V k)) ((V k).map (wtF ws)) = ((sumsF (partG g (V k)) ((V k).map (wtF ws))).1, (sumsF (partG g (V k)) ((V k).map (wtF ws))).2.1, 0)) ∧
    (sumsF (partG g (V 0)) ((V 0).map (wtF ws))).1 + (sumsF (partG g (V 1)) ((V 1).map (wtF ws))).1 = (sumsF g ws).1 ∧
    (sumsF (partG g (V 0)) ((V 0).map (wtF ws))).2.1 + (sumsF (partG g (V 1)) ((V 1).map (wtF ws))).2.1 = (sumsF g ws).2.1 := by
  intro V
  have hg := (wtB_iff.1 hw).1
  have hp := fun k => part_sums hw (pc_whole hg β k)
  have hc : ∀ c ∈ compsG g, decide (c.getD 0 default ∈ V 0) = !decide (c.getD 0 default ∈ V 1) := fun c hc => by
    have h0 := comp_ne hg hc
    obtain ⟨j, hj, rfl⟩ := List.getElem_of_mem hc
    rw [← gD hj] at h0 ⊢
    have k0 := pc_in (β := β) (k := 0) hg hj (get_mem h0)
    have k1 := pc_in (β := β) (k := 1) hg hj (get_mem h0)
    rcases hβ j hj with h | h
    · rw [decide_eq_true (k0.2 h), decide_eq_false (fun hh => by have := k1.1 hh; omega)]; rfl
    · rw [decide_eq_false (fun hh => by have := k0.1 hh; omega), decide_eq_true (k1.2 h)]; rfl
  refine ⟨fun k => by rw [hp k], ?_, ?_⟩
  · rw [hp 0, hp 1]
    unfold sumsF
    rw [if_pos hw]
    exact sm_two hc
  · rw [hp 0, hp 1]
    unfold sumsF
    rw [if_pos hw]
    exact sm_two hc
theorem wtF_neg (ws : List Int) (v : Int) : wtF (ws.map fun x => -x) v = -(wtF ws v) := by
  unfold wtF
  simp only [List.getD, List.getElem?_map]
  cases ws[v.toNat]? with
  | none => rfl
  | some x => rfl
theorem minP_neg {l : List Int} (h0 : 0 < l.length) : ∀ {k : Nat}, k ≤ l.length → minP (l.map fun x => -x) k = -(maxP l k)
  | 0, _ => by show (l.map fun x => -x).getD 0 default = -(l.getD 0 default); simp [List.getD, h0]
  | k + 1, hk => by
    have ih := minP_neg h0 (k := k) (by omega)
    rw [minP_succ (by rw [List.length_map]; exact hk), maxP_succ hk, ih]
    have hk2 : k < l.length := hk
    have : (l.map fun x => -x).getD k default = -(l.getD k default) := by simp [List.getD, hk2]
    rw [this]; omega
theorem maxP_neg {l : List Int} (h0 : 0 < l.length) : ∀ {k : Nat}, k ≤ l.length → maxP (l.map fun x => -x) k = -(minP l k)
  | 0, _ => by show (l.map fun x => -x).getD 0 default = -(l.getD 0 default); simp [List.getD, h0]
  | k + 1, hk => by
    have ih := maxP_neg h0 (k := k) (by omega)
    rw [maxP_succ (by rw [List.length_map]; exact hk), minP_succ hk, ih]
    have hk2 : k < l.length := hk
    have : (l.map fun x => -x).getD k default = -(l.getD k default) := by simp [List.getD, hk2]
    rw [this]; omega
theorem sm_neg {α : Type} {f g : α → Int} (h : ∀ x, f x = -(g x)) : ∀ l : List α, sm (l.map f) = -(sm (l.map g))
  | [] => rfl
  | x :: l => by
    have := sm_neg h l
    show f x + _ = -(g x + _)
    rw [this, h x]; omega
theorem belP_neg (l : List Int) (k : Nat) : belP (l.map fun x => -x) k = -(abvP l k) := by
  unfold belP abvP
  rw [← List.map_take, List.map_map]
  exact sm_neg (fun x => by show min (-x) 0 = -(max x 0); omega) _
theorem abvP_neg (l : List Int) (k : Nat) : abvP (l.map fun x => -x) k = -(belP l k) := by
  unfold belP abvP
  rw [← List.map_take, List.map_map]
  exact sm_neg (fun x => by show max (-x) 0 = -(min x 0); omega) _
theorem rngC_neg (E : List (List Int)) (ws c : List Int) (hc : 0 < c.length) : rngC E (ws.map fun x => -x) c = (-(rngC E ws c).2, -(rngC E ws c).1) := by
  have e : c.map (wtF (ws.map fun x => -x)) = (c.map (wtF ws)).map fun x => -x := by
    rw [List.map_map]; exact List.map_congr_left fun v _ => wtF_neg ws v
  have hl : (c.map (wtF ws)).length = c.length := List.length_map _
  unfold rngC
  rw [e, minP_neg (by omega) (by omega), maxP_neg (by omega) (by omega), belP_neg, abvP_neg]
  split
  · rfl
  · split <;> rfl
theorem sums_neg {g : Gr} {ws : List Int} (hw : wtB g ws = true) : sumsF g (ws.map fun x => -x) = (-(sumsF g ws).2.1, -(sumsF g ws).1, 0) := by
  obtain ⟨hg, hl, hb⟩ := wtB_iff.1 hw
  have hw2 : wtB g (ws.map fun x => -x) = true := wtB_iff.2 ⟨hg, by rw [List.length_map]; exact hl, fun x hx => by
    obtain ⟨y, hy, rfl⟩ := List.mem_map.1 hx
    have := hb y hy
    omega⟩
  unfold sumsF
  rw [if_pos hw, if_pos hw2]
  have k1 : sm ((compsG g).map fun c => (rngC g.edges (ws.map fun x => -x) c).1) = sm ((compsG g).map fun c => -(rngC g.edges ws c).2) := sm_congr _ _ fun c hc => by rw [rngC_neg _ _ _ (comp_ne hg hc)]
  have k2 : sm ((compsG g).map fun c => (rngC g.edges (ws.map fun x => -x) c).2) = sm ((compsG g).map fun c => -(rngC g.edges ws c).1) := sm_congr _ _ fun c hc => by rw [rngC_neg _ _ _ (comp_ne hg hc)]
  rw [k1, k2, sm_neg (f := fun c => -(rngC g.edges ws c).2) (g := fun c => (rngC g.edges ws c).2) fun _ => rfl, sm_neg (f := fun c => -(rngC g.edges ws c).1) (g := fun c => (rngC g.edges ws c).1) fun _ => rfl]
end Go.Vc
