/- Own library: the graph of some components; ranges of its parts; opposite weights. Plain. -/
import Derived.Test.YtbfejgbeaehbmaaGreatDoorVcPick
namespace Go.Vc
/-- A set of vertices that is made of whole components. -/
structure Whole (g : Gr) (V : List Int) : Prop where
  set : setB V g.n = true
  all : ∀ c ∈ compsG g, (∀ v ∈ c, v ∈ V) ∨ (∀ v ∈ c, v ∉ V)
theorem root_mem {g : Gr} (hg : validG g = true) {i : Nat} (hi : i < g.n.toNat) : memsK (compE g.edges) g.n.toNat (compE g.edges i) ∈ compsG g ∧ (i : Int) ∈ memsK (compE g.edges) g.n.toNat (compE g.edges i) ∧ ((compE g.edges i : Nat) : Int) ∈ memsK (compE g.edges) g.n.toNat (compE g.edges i) := by
  have hc := validG_comp hg
  have h1 := hc.le i hi
  exact ⟨(comps_mem hg).2 ⟨_, by omega, hc.idem i hi, rfl⟩, memsK_mem.2 ⟨i, hi, rfl, rfl⟩, memsK_mem.2 ⟨_, by omega, hc.idem i hi, rfl⟩⟩
theorem Whole.root {g : Gr} (hg : validG g = true) {V : List Int} (hV : Whole g V) {i : Nat} (hi : i < g.n.toNat) : (i : Int) ∈ V ↔ ((compE g.edges i : Nat) : Int) ∈ V := by
  obtain ⟨h1, h2, h3⟩ := root_mem hg hi
  rcases hV.all _ h1 with h | h
  · exact ⟨fun _ => h _ h3, fun _ => h _ h2⟩
  · exact ⟨fun hh => absurd hh (h _ h2), fun hh => absurd hh (h _ h3)⟩
theorem Whole.edge {g : Gr} (hg : validG g = true) {V : List Int} (hV : Whole g V) {e : List Int} (he : e ∈ g.edges) : (∀ v ∈ e, v ∈ V) ∨ (∀ v ∈ e, v ∉ V) := by
  obtain ⟨c, hc, hs⟩ := edge_in hg he
  have hs := subB_iff.1 hs
  rcases hV.all c hc with h | h
  · exact .inl fun v hv => h v (hs v hv)
  · exact .inr fun v hv => h v (hs v hv)
/-- The head of a vertex of the part. -/
def hdP (g : Gr) (V : List Int) (i : Nat) : Nat := (ixI V ((compE g.edges (V.getD i default).toNat : Nat) : Int)).toNat
section
variable {g : Gr} {V : List Int}
theorem V_at (hV : Whole g V) {i : Nat} (hi : i < V.length) : ∃ u : Nat, u < g.n.toNat ∧ V.getD i default = (u : Int) ∧ (u : Int) ∈ V := by
  have hm := get_mem hi
  have := (setB_iff.1 hV.set).2 _ hm
  exact ⟨(V.getD i default).toNat, by omega, by omega, by rw [show (((V.getD i default).toNat : Nat) : Int) = V.getD i default by omega]; exact hm⟩
theorem hdP_at (hg : validG g = true) (hV : Whole g V) {i : Nat} (hi : i < V.length) : hdP g V i < V.length ∧ V.getD (hdP g V i) default = ((compE g.edges (V.getD i default).toNat : Nat) : Int) := by
  obtain ⟨u, hu, he, hm⟩ := V_at hV hi
  have hr := (hV.root hg hu).1 hm
  have hx := ix_at hr
  unfold hdP
  rw [he]
  have e : ((u : Int)).toNat = u := by omega
  rw [e]
  exact ⟨by omega, hx.2.2⟩
theorem hdP_comp (hg : validG g = true) (hV : Whole g V) : IsComp V.length (prsE (partG g V).edges) (hdP g V) := by
  have hc := validG_comp hg
  have hinc := (setB_iff.1 hV.set).1
  have ixN : ∀ {v : Int}, v ∈ V → ((ixI V v).toNat : Int) = ixI V v ∧ (ixI V v).toNat < V.length := fun hv => by have := ix_at hv; omega
  refine ⟨fun i hi => ?_, fun i hi => ?_, ?_, fun f hf i hi => ?_⟩
  · obtain ⟨h1, h2⟩ := hdP_at hg hV hi
    obtain ⟨u, hu, he, _⟩ := V_at hV hi
    have hle := hc.le u hu
    rw [he, show ((u : Int)).toNat = u by omega] at h2
    rcases Nat.lt_or_ge i (hdP g V i) with h | h
    · have := inc_at hinc h h1
      rw [h2, he] at this
      omega
    · exact h
  · obtain ⟨h1, h2⟩ := hdP_at hg hV hi
    obtain ⟨u, hu, he, hm⟩ := V_at hV hi
    have hid := hc.idem u hu
    show (ixI V ((compE g.edges (V.getD (hdP g V i) default).toNat : Nat) : Int)).toNat = (ixI V ((compE g.edges (V.getD i default).toNat : Nat) : Int)).toNat
    rw [h2, he, show ((u : Int)).toNat = u by omega, show (((compE g.edges u : Nat) : Int)).toNat = compE g.edges u by omega, hid]
  · refine prsE_same.2 fun f hf => ?_
    obtain ⟨e, he, hs, rfl⟩ := part_edges.1 hf
    have hs := subB_iff.1 hs
    have hj := prsE_same.1 hc.join e he
    intro v hv w hw
    obtain ⟨x, hx, rfl⟩ := List.mem_map.1 hv
    obtain ⟨y, hy, rfl⟩ := List.mem_map.1 hw
    unfold hdP
    rw [(ix_at (hs x hx)).2.2, (ix_at (hs y hy)).2.2, hj x hx y hy]
  · obtain ⟨h1, h2⟩ := hdP_at hg hV hi
    obtain ⟨u, hu, he, hm⟩ := V_at hV hi
    obtain ⟨F, hFd⟩ : ∃ F : Nat → Nat, F = fun x => if ((x : Nat) : Int) ∈ V then f (ixI V (x : Int)).toNat + 1 else 0 := ⟨_, rfl⟩
    have hF := hc.keep F (prsE_same.2 fun e hee v hv w hw => by
      rw [hFd]
      dsimp only
      have hlt := validG_lt hg e hee
      have hv0 := hlt v hv
      have hw0 := hlt w hw
      rw [show ((v.toNat : Nat) : Int) = v by omega, show ((w.toNat : Nat) : Int) = w by omega]
      rcases hV.edge hg hee with h | h
      · rw [if_pos (h v hv), if_pos (h w hw)]
        have := prsE_same.1 hf (e.map (ixI V)) (part_edges.2 ⟨e, hee, subB_iff.2 h, rfl⟩) _ (List.mem_map_of_mem hv) _ (List.mem_map_of_mem hw)
        rw [this]
      · rw [if_neg (h v hv), if_neg (h w hw)]) u hu
    rw [hFd] at hF
    dsimp only at hF
    rw [if_pos hm, if_pos ((hV.root hg hu).1 hm)] at hF
    have e1 : (ixI V (u : Int)).toNat = i := by
      have := ix_get hinc hi
      rw [he] at this; omega
    rw [e1] at hF
    have e2 : hdP g V i = (ixI V ((compE g.edges u : Nat) : Int)).toNat := by unfold hdP; rw [he, show ((u : Int)).toNat = u by omega]
    rw [e2]; omega
theorem part_root (hg : validG g = true) (hV : Whole g V) : ∀ i, i < V.length → compE (partG g V).edges i = hdP g V i := by
  have hpv := part_valid hg hV.set
  have h1 : IsComp V.length (prsE (partG g V).edges) (compE (partG g V).edges) := by
    have := validG_comp hpv
    rwa [show (partG g V).n.toNat = V.length from by show ((V.length : Int)).toNat = _; omega] at this
  have h2 := hdP_comp hg hV
  exact IsComp.unique h1 h2 h2.join h1.join
/-- The components of the part are those of the graph that lie in it. -/
theorem part_comps (hg : validG g = true) (hV : Whole g V) : compsG (partG g V) = ((compsG g).filter fun c => decide (c.getD 0 default ∈ V)).map fun c => c.map (ixI V) := by
  have hpv := part_valid hg hV.set
  have hc := validG_comp hg
  have hinc := (setB_iff.1 hV.set).1
  have hn : (partG g V).n.toNat = V.length := by show ((V.length : Int)).toNat = _; omega
  have hroot := part_root hg hV
  have e1 : compsG (partG g V) = grpsK (hdP g V) V.length := by
    unfold compsG
    rw [if_pos hpv, hn]
    exact grpsK_congr hroot
  have e2 : compsG g = grpsK (compE g.edges) g.n.toNat := by unfold compsG; rw [if_pos hg]
  rw [e1, e2]
  unfold grpsK
  rw [List.filter_map, List.map_map]
  have hd0 : ∀ h ∈ hdsK (compE g.edges) g.n.toNat, (memsK (compE g.edges) g.n.toNat h).getD 0 default = ((h : Nat) : Int) := fun h hh => by
    obtain ⟨h1, h2⟩ := hdsK_mem.1 hh
    have hm : ((h : Nat) : Int) ∈ memsK (compE g.edges) g.n.toNat h := memsK_mem.2 ⟨h, h1, h2, rfl⟩
    have hl := List.length_pos_of_mem hm
    have h0 := get_mem hl
    obtain ⟨i, hi, hri, hx⟩ := memsK_mem.1 h0
    have hle := hc.le i hi
    obtain ⟨j, hj, hjx⟩ := List.getElem_of_mem hm
    have : (memsK (compE g.edges) g.n.toNat h).getD 0 default ≤ (h : Int) := by
      rcases Nat.eq_zero_or_pos j with e | e
      · subst e; rw [← hjx, getI hj]; exact Int.le_refl _
      · have := inc_at (memsK_inc _ _ _) e hj
        rw [getI hj, hjx] at this; omega
    omega
  have e3 : (hdsK (compE g.edges) g.n.toNat).filter ((fun c => decide (c.getD 0 default ∈ V)) ∘ memsK (compE g.edges) g.n.toNat) = (hdsK (compE g.edges) g.n.toNat).filter fun h : Nat => decide (((h : Nat) : Int) ∈ V) := by
    refine List.filter_congr fun h hh => ?_
    show decide (_ ∈ V) = decide (_ ∈ V)
    rw [hd0 h hh]
  rw [e3]
  have e4 : hdsK (hdP g V) V.length = ((hdsK (compE g.edges) g.n.toNat).filter fun h : Nat => decide (((h : Nat) : Int) ∈ V)).map fun h : Nat => (ixI V ((h : Nat) : Int)).toNat := by
    refine sorted_ext (R := fun a b : Nat => a < b) (fun a b h1 h2 => by omega) (hdsK_lt _ _) ?_ fun x => ?_
    · rw [List.pairwise_map]
      refine List.Pairwise.imp_of_mem (fun {a b} ha hb hab => ?_) ((hdsK_lt (compE g.edges) g.n.toNat).sublist List.filter_sublist)
      have ha := of_decide_eq_true (List.mem_filter.1 ha).2
      have hb := of_decide_eq_true (List.mem_filter.1 hb).2
      have := (ix_lt hinc ha hb).1 (by omega)
      have h1 := ix_at ha
      have h2 := ix_at hb
      omega
    · rw [hdsK_mem, List.mem_map]
      constructor
      · rintro ⟨hx, hr⟩
        obtain ⟨u, hu, he, hm⟩ := V_at hV hx
        obtain ⟨h1, h2⟩ := hdP_at hg hV hx
        rw [hr, he, show ((u : Int)).toNat = u by omega] at h2
        refine ⟨u, List.mem_filter.2 ⟨hdsK_mem.2 ⟨hu, by omega⟩, decide_eq_true hm⟩, ?_⟩
        have := ix_get hinc hx
        rw [he] at this
        show (ixI V (u : Int)).toNat = x
        omega
      · rintro ⟨h, hh, rfl⟩
        obtain ⟨h1, h2⟩ := List.mem_filter.1 hh
        have h2 := of_decide_eq_true h2
        obtain ⟨h3, h4⟩ := hdsK_mem.1 h1
        have h5 := ix_at h2
        refine ⟨by omega, ?_⟩
        unfold hdP
        rw [h5.2.2, show (((h : Nat) : Int)).toNat = h by omega, h4]
  rw [e4, List.map_map]
  refine List.map_congr_left fun h hh => ?_
  obtain ⟨h1, h2⟩ := List.mem_filter.1 hh
  have h2 := of_decide_eq_true h2
  obtain ⟨h3, h4⟩ := hdsK_mem.1 h1
  have hcm := (comps_mem hg).2 ⟨h, h3, h4, rfl⟩
  have hin : ∀ v ∈ memsK (compE g.edges) g.n.toNat h, v ∈ V := by
    rcases hV.all _ hcm with hh | hh
    · exact hh
    · exact absurd h2 (hh _ (memsK_mem.2 ⟨h, h3, h4, rfl⟩))
  show memsK (hdP g V) V.length (ixI V (h : Int)).toNat = (memsK (compE g.edges) g.n.toNat h).map (ixI V)
  refine inc_ext (memsK_inc _ _ _) (map_inc hinc (memsK_inc _ _ _) (subB_iff.2 hin)) fun x => ?_
  rw [memsK_mem, List.mem_map]
  have h5 := ix_at h2
  constructor
  · rintro ⟨i, hi, hri, rfl⟩
    obtain ⟨u, hu, he, hm⟩ := V_at hV hi
    obtain ⟨k1, k2⟩ := hdP_at hg hV hi
    rw [hri, he, show ((u : Int)).toNat = u by omega, h5.2.2] at k2
    refine ⟨(u : Int), memsK_mem.2 ⟨u, hu, by omega, rfl⟩, ?_⟩
    have := ix_get hinc hi
    rwa [he] at this
  · rintro ⟨v, hv, rfl⟩
    have h6 := ix_at (hin v hv)
    obtain ⟨u, hu, hru, rfl⟩ := memsK_mem.1 hv
    refine ⟨(ixI V (u : Int)).toNat, by omega, ?_, by omega⟩
    unfold hdP
    rw [h6.2.2, show ((u : Int)).toNat = u by omega, hru]
/-- A component of the part has the range that it has in the graph. -/
theorem part_rng (hg : validG g = true) (hV : Whole g V) {c : List Int} (hc : c ∈ compsG g) (hs : ∀ v ∈ c, v ∈ V) (ws : List Int) : rngC (partG g V).edges (V.map (wtF ws)) (c.map (ixI V)) = rngC g.edges ws c := by
  have hinc := (setB_iff.1 hV.set).1
  have hl := comp_ne hg hc
  have e1 : (c.map (ixI V)).map (wtF (V.map (wtF ws))) = c.map (wtF ws) := by
    rw [List.map_map]
    refine List.map_congr_left fun v hv => ?_
    have h := ix_at (hs v hv)
    show (V.map (wtF ws)).getD (ixI V v).toNat default = wtF ws v
    rw [wt_get (by omega), h.2.2]
  have e2 : (c.map (ixI V)).length = c.length := List.length_map _
  have e3 : (c.map (ixI V)).getD 0 default = ixI V (c.getD 0 default) := by simp [List.getD, hl]
  have e4 : barE (partG g V).edges ((c.map (ixI V)).getD 0 default) = barE g.edges (c.getD 0 default) := by
    rw [e3, Bool.eq_iff_iff, barE_iff, barE_iff, part_edges]
    have h0 := get_mem hl
    constructor
    · rintro ⟨e, he, hse, hx⟩
      have hl1 : e.length = 1 := by have := congrArg List.length hx; rw [List.length_map] at this; exact this.symm
      match e, hl1, hx with
      | [u], _, hx =>
        injection hx with hx _
        have := ix_inj (hs _ h0) (subB_iff.1 hse u (by simp)) hx
        rwa [this]
    · intro h
      exact ⟨_, h, subB_iff.2 fun x hx => by rw [List.mem_singleton] at hx; rw [hx]; exact hs _ h0, rfl⟩
  have e5 : pairN (partG g V).edges (c.map (ixI V)) = pairN g.edges c := by
    unfold pairN partG
    dsimp only
    rw [List.filter_map, List.length_map, List.filter_filter]
    congr 1
    refine List.filter_congr fun e he => ?_
    show (decide ((e.map (ixI V)).length = 2) && decide ((e.map (ixI V)).getD 0 default ∈ c.map (ixI V)) && subB e V) = (decide (e.length = 2) && decide (e.getD 0 default ∈ c))
    rw [List.length_map]
    by_cases h2 : e.length = 2
    · have h0 : 0 < e.length := by omega
      have e6 : (e.map (ixI V)).getD 0 default = ixI V (e.getD 0 default) := by simp [List.getD, h0]
      rw [e6, decide_eq_true h2, Bool.true_and, Bool.true_and, Bool.eq_iff_iff, Bool.and_eq_true, decide_eq_true_eq, decide_eq_true_eq]
      constructor
      · rintro ⟨h3, h4⟩
        obtain ⟨u, hu, hx⟩ := List.mem_map.1 h3
        have := ix_inj (hs u hu) (subB_iff.1 h4 _ (get_mem h0)) hx
        rwa [← this]
      · intro h
        exact ⟨List.mem_map_of_mem h, subB_iff.2 fun x hx => hs x (comp_edge hg hc he (get_mem h0) h x hx)⟩
    · rw [decide_eq_false h2]; rfl
  unfold rngC blockB
  rw [e1, e2, e4, e5]
theorem part_wt {ws : List Int} (hw : wtB g ws = true) (hV : Whole g V) : wtB (partG g V) (V.map (wtF ws)) = true := by
  obtain ⟨hg, hl, hb⟩ := wtB_iff.1 hw
  refine wtB_iff.2 ⟨part_valid hg hV.set, by rw [List.length_map]; rfl, fun x hx => ?_⟩
  obtain ⟨v, hv, rfl⟩ := List.mem_map.1 hx
  have := (setB_iff.1 hV.set).2 v hv
  exact hb _ (by unfold wtF; exact get_mem (by omega))
theorem part_sums {ws : List Int} (hw : wtB g ws = true) (hV : Whole g V) : sumsF (partG g V) (V.map (wtF ws)) = (sm (((compsG g).filter fun c => decide (c.getD 0 default ∈ V)).map fun c => (rngC g.edges ws c).1), sm (((compsG g).filter fun c => decide (c.getD 0 default ∈ V)).map fun c => (rngC g.edges ws c).2), 0) := by
  have hg := (wtB_iff.1 hw).1
  unfold sumsF
  rw [if_pos (part_wt hw hV), part_comps hg hV, List.map_map, List.map_map]
  have key : ∀ c ∈ (compsG g).filter (fun c => decide (c.getD 0 default ∈ V)), rngC (partG g V).edges (V.map (wtF ws)) (c.map (ixI V)) = rngC g.edges ws c := fun c hc => by
    obtain ⟨h1, h2⟩ := List.mem_filter.1 hc
    have h2 := of_decide_eq_true h2
    refine part_rng hg hV h1 ?_ ws
    rcases hV.all c h1 with h | h
    · exact h
    · exact absurd h2 (h _ (get_mem (comp_ne hg h1)))
  have k1 := sm_congr ((fun c => (rngC (partG g V).edges (V.map (wtF ws)) c).1) ∘ fun c => c.map (ixI V)) (fun c => (rngC g.edges ws c).1) (l := (compsG g).filter fun c => decide (c.getD 0 default ∈ V)) fun c hc => congrArg Prod.fst (key c hc)
  have k2 := sm_congr ((fun c => (rngC (partG g V).edges (V.map (wtF ws)) c).2) ∘ fun c => c.map (ixI V)) (fun c => (rngC g.edges ws c).2) (l := (compsG g).filter fun c => decide (c.getD 0 default ∈ V)) fun c hc => congrArg Prod.snd (key c hc)
  rw [k1, k2]
end
end Go.Vc
