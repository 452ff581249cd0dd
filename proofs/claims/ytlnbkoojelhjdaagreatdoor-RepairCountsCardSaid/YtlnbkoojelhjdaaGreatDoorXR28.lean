/- Repair: the cheapest repair. Plain. -/
import Derived.Test.YtlnbkoojelhjdaaGreatDoorXR12
import Derived.Test.YtlnbkoojelhjdaaGreatDoorXR24
namespace Go.Proofs.YtlnbkoojelhjdaaGreatDoor
open Go.Vc
theorem partsE_narrow {g : Gr} (hg : validG g = true) (hw : narrowB g = true) : partsE g = 0 := by
 have hw := narrowB_iff.1 hw
 unfold partsE
 rw [if_pos hg, if_neg]
 simp only [List.any_eq_true, decide_eq_true_eq, not_exists, not_and]
 intro c hc
 have := hw c hc
 omega
theorem chF_best {cost vs : List Int} {L : List (List Int)} (hc : ∀ r ∈ L, 0 ≤ costR cost r) (hup : Up lexB L) (hL : L ≠ []) :
  ∃ r ∈ L, chF cost vs L = (r.map fun v => vs.getD v.toNat default, costR cost r) ∧ ∀ r' ∈ L, costR cost r < costR cost r' ∨ costR cost r = costR cost r' ∧ (r = r' ∨ lexB r r' = true) := by
 have key : ∀ k, k < L.length → ∃ r ∈ L.take (k + 1), chF cost vs (L.take (k + 1)) = (r.map fun v => vs.getD v.toNat default, costR cost r) ∧ ∀ r' ∈ L.take (k + 1), costR cost r < costR cost r' ∨ costR cost r = costR cost r' ∧ (r = r' ∨ lexB r r' = true) := by
  intro k
  induction k with
  | zero =>
   intro h
   rw [List.take_succ_eq_append_getElem h, chF_snoc]
   refine ⟨L[0], List.mem_append_right _ (List.mem_singleton.2 rfl), ?_, fun r' hr' => ?_⟩
   ·show stepC cost vs ([], -1) _ = _
    unfold stepC; rw [if_pos (.inl (show (-1 : Int) < 0 by decide))]
   ·have : r' = L[0] := by simpa using hr'
    rw [this]; exact .inr ⟨rfl, .inl rfl⟩
  | succ k ih =>
   intro h
   obtain ⟨r, hr, he, hall⟩ := ih (by omega)
   rw [List.take_succ_eq_append_getElem h, chF_snoc, he]
   have h0 := hc r (List.mem_of_mem_take hr)
   by_cases hlt : costR cost L[k + 1] < costR cost r
   ·refine ⟨L[k + 1], List.mem_append_right _ (List.mem_singleton.2 rfl), by unfold stepC; rw [if_pos (.inr hlt)], fun r' hr' => ?_⟩
    rcases List.mem_append.1 hr' with h1 | h1
    ·rcases hall r' h1 with h2 | ⟨h2, _⟩
     ·exact .inl (by omega)
     ·exact .inl (by omega)
    ·rw [List.mem_singleton.1 h1]; exact .inr ⟨rfl, .inl rfl⟩
   ·refine ⟨r, List.mem_append_left _ hr, by unfold stepC; rw [if_neg (by dsimp only; omega)], fun r' hr' => ?_⟩
    rcases List.mem_append.1 hr' with h1 | h1
    ·exact hall r' h1
    ·rw [List.mem_singleton.1 h1]
     by_cases he : costR cost r = costR cost L[k + 1]
     ·refine .inr ⟨he, .inr ?_⟩
      obtain ⟨i, hi, rfl⟩ := List.getElem_of_mem hr
      rw [List.getElem_take]
      rw [List.length_take] at hi
      exact List.pairwise_iff_getElem.1 hup i (k + 1) (by omega) h (by omega)
     ·exact .inl (by omega)
 have hp := List.length_pos_iff.2 hL
 obtain ⟨r, hr, he⟩ := key (L.length - 1) (by omega)
 rw [show L.length - 1 + 1 = L.length by omega, List.take_length] at hr he
 exact ⟨r, hr, he⟩
theorem cost_at {cost : List Int} (hc : ∀ x ∈ cost, 0 ≤ x ∧ x ≤ 1000000000) (i : Nat) : 0 ≤ cost.getD i default ∧ cost.getD i default ≤ 1000000000 := by
 by_cases h2 : i < cost.length
 ·exact hc _ (gmem h2)
 ·rw [show cost.getD i default = 0 by rw [List.getD, List.getElem?_eq_none (Nat.le_of_not_lt h2)]; rfl]
  decide
theorem costR_bnd {cost : List Int} (hc : ∀ x ∈ cost, 0 ≤ x ∧ x ≤ 1000000000) : ∀ r : List Int, 0 ≤ costR cost r ∧ costR cost r ≤ 1000000000 * (r.length : Int)
 | [] => ⟨Int.le_refl _, Int.le_refl _⟩
 | v :: r => by
  have ih := costR_bnd hc r
  have h1 := cost_at hc v.toNat
  have : costR cost (v :: r) = cost.getD v.toNat default + costR cost r := rfl
  rw [this, List.length_cons]
  omega
theorem lex_first {A C : List Int} {v : Nat} (hA : Inc A) (hC : Inc C) (hv : (v : Int) ∈ A) (hn : (v : Int) ∉ C) (hb : ∀ x, x < (v : Int) → (x ∈ A ↔ x ∈ C)) : lexB A C = true ∨ ∀ x ∈ C, x ∈ A := by
 obtain ⟨S, hS, hSv⟩ := below_split (v := v) hA
 obtain ⟨T, hT, hTv⟩ := below_split (v := v) hC
 have hbl : below A v = below C v := inc_ext (hA.sublist List.filter_sublist) (hC.sublist List.filter_sublist) fun x => by
  rw [below_mem, below_mem]
  exact ⟨fun h => ⟨(hb x h.2).1 h.1, h.2⟩, fun h => ⟨(hb x h.2).2 h.1, h.2⟩⟩
 have hvS : (v : Int) ∈ S := by
  rw [hS] at hv
  rcases List.mem_append.1 hv with h | h
  ·have := (below_mem.1 h).2; omega
  ·exact h
 cases T with
 | nil =>
  refine .inr fun x hx => ?_
  rw [hT, List.append_nil, ← hbl] at hx
  exact (below_mem.1 hx).1
 | cons t T =>
  refine .inl ?_
  rw [hS, hT, hbl, lex_app]
  cases S with
  | nil => cases hvS
  | cons s S =>
   have hs : s = (v : Int) := by
    have h1 := hSv s (by simp)
    rcases List.mem_cons.1 hvS with h | h
    ·exact h.symm
    ·have hi : Inc (s :: S) := by
      rw [hS] at hA; exact (List.pairwise_append.1 hA).2.1
     have := (List.pairwise_cons.1 hi).1 _ h
     omega
   have ht := hTv t (by simp)
   have htn : t ≠ (v : Int) := fun e => hn (by rw [hT]; exact List.mem_append_right _ (by simp [e]))
   show (if s < t then true else _) = true
   rw [if_pos (by omega)]
theorem lex_asym {A C : List Int} (h1 : lexB A C = true) (h2 : lexB C A = true) : False := by
 have := lexB_sto.asym h1
 rw [h2] at this; cases this
theorem lex_parts {g : Gr} (hg : validG g = true) {R Q : List Int} (hR : IsRep g R) (hQ : IsRep g Q) (h : ∀ c ∈ compsG g, inK c Q c.length = inK c R c.length ∨ lexB (inK c Q c.length) (inK c R c.length) = true) : lexB R Q = false := by
 rw [← Bool.not_eq_true]
 intro hlt
 have hRs := setB_iff.1 hR.set
 have hQs := setB_iff.1 hQ.set
 have key : ∀ (n v : Nat), v < n → ((v : Int) ∈ R ↔ (v : Int) ∈ Q) := by
  intro n
  induction n with
  | zero => exact fun v h => absurd h (Nat.not_lt_zero _)
  | succ n ih =>
   intro v hv
   have hbl : ∀ x, x < (v : Int) → (x ∈ R ↔ x ∈ Q) := fun x hx => by
    by_cases h0 : 0 ≤ x
    ·have := ih x.toNat (by omega)
     rwa [show ((x.toNat : Nat) : Int) = x by omega] at this
    ·exact ⟨fun h => absurd (hRs.2 x h).1 h0, fun h => absurd (hQs.2 x h).1 h0⟩
   by_cases hvR : (v : Int) ∈ R
   ·refine ⟨fun _ => Classical.byContradiction fun hvQ => ?_, fun _ => hvR⟩
    have hr := hRs.2 _ hvR
    obtain ⟨hc, hvc, _⟩ := root_mem hg (i := v) (by omega)
    obtain ⟨c, hcd⟩ : ∃ c, c = memsK (compE g.edges) g.n.toNat (compE g.edges v) := ⟨_, rfl⟩
    rw [← hcd] at hc hvc
    have hci := comp_inc hg hc
    obtain ⟨i1, i2, i3⟩ := ix_at hvc
    have hkR := (parts_rep hg hR.set).1 hR c hc
    have hkQ := (parts_rep hg hQ.set).1 hQ c hc
    have e1 : (((ixI c (v : Int)).toNat : Nat) : Int) = ixI c (v : Int) := by omega
    have m1 : (((ixI c (v : Int)).toNat : Nat) : Int) ∈ inK c R c.length := by rw [e1]; exact (inK_ix hvc).2 hvR
    have m2 : (((ixI c (v : Int)).toNat : Nat) : Int) ∉ inK c Q c.length := by rw [e1]; exact fun hh => hvQ ((inK_ix hvc).1 hh)
    have m3 : ∀ x, x < (((ixI c (v : Int)).toNat : Nat) : Int) → (x ∈ inK c R c.length ↔ x ∈ inK c Q c.length) := fun x hx => by
     rw [inK_mem, inK_mem]
     have : ∀ i : Nat, i < c.length → x = (i : Int) → (c.getD i default ∈ R ↔ c.getD i default ∈ Q) := fun i hi e => by
      refine hbl _ ?_
      have := inc_at hci (i := i) (j := (ixI c (v : Int)).toNat) (by omega) (by omega)
      rwa [i3] at this
     exact ⟨fun ⟨i, h1, h2, h3⟩ => ⟨i, h1, (this i h1 h3).1 h2, h3⟩, fun ⟨i, h1, h2, h3⟩ => ⟨i, h1, (this i h1 h3).2 h2, h3⟩⟩
    have hne : inK c Q c.length ≠ inK c R c.length := fun e => m2 (by rw [e]; exact m1)
    rcases lex_first (inK_inc _ _ _) (inK_inc _ _ _) m1 m2 m3 with h1 | h1
    ·rcases h c hc with h2 | h2
     ·exact hne h2
     ·exact lex_asym h1 h2
    ·exact hne (rep_anti hkQ hkR h1)
   ·refine ⟨fun h => absurd h hvR, fun hvQ => absurd ?_ hvR⟩
    exfalso
    rcases lex_first hQs.1 hRs.1 hvQ hvR (fun x hx => (hbl x hx).symm) with h1 | h1
    ·exact lex_asym hlt h1
    ·have := rep_anti hR hQ h1
     exact hvR (by rw [this]; exact hvQ)
 have : R = Q := inc_ext hRs.1 hQs.1 fun x => by
  by_cases h0 : 0 ≤ x
  ·have := key (x.toNat + 1) x.toNat (by omega)
   rwa [show ((x.toNat : Nat) : Int) = x by omega] at this
  ·exact ⟨fun h => absurd (hRs.2 x h).1 h0, fun h => absurd (hQs.2 x h).1 h0⟩
 rw [this, lexB_sto.irr] at hlt
 cases hlt
end Go.Proofs.YtlnbkoojelhjdaaGreatDoor

/- Repair: what the cheapest repair is. Plain. -/
namespace Go.Proofs.YtlnbkoojelhjdaaGreatDoor
open Go.Vc
theorem filt_inK (c R : List Int) : ∀ k, k ≤ c.length → (c.take k).filter (fun v => decide (v ∈ R)) = (inK c R k).map fun v => c.getD v.toNat default := by
 intro k
 induction k with
 | zero => exact fun _ => rfl
 | succ k ih =>
  intro h
  rw [List.take_succ_eq_append_getElem (by omega), List.filter_append, ih (by omega), inK_succ, List.map_append, gget (l := c) (by omega)]
  by_cases hm : c[k] ∈ R
  ·simp only [List.filter_cons, hm, decide_true, if_true, List.filter_nil, List.map_cons, List.map_nil]
   rw [show ((k : Nat) : Int).toNat = k by omega, gget (l := c) (by omega)]
  ·simp [hm]
theorem cost_parts {g : Gr} (hg : validG g = true) {R : List Int} (hR : setB R g.n = true) : costR g.cost R = sm ((compsG g).map fun c => costR (partG g c).cost (inK c R c.length)) := by
 have h := rep_sum hg hR fun v => g.cost.getD v.toNat default
 show sm (R.map fun v => g.cost.getD v.toNat default) = _
 rw [h]
 refine sm_congr _ _ fun c hc => ?_
 have h1 := filt_inK c R c.length (Nat.le_refl _)
 rw [List.take_length] at h1
 rw [h1, List.map_map]
 unfold costR
 congr 1
 refine List.map_congr_left fun x hx => ?_
 obtain ⟨i, hi, _, rfl⟩ := inK_mem.1 hx
 show g.cost.getD (c.getD ((i : Nat) : Int).toNat default).toNat default = (partG g c).cost.getD ((i : Nat) : Int).toNat default
 rw [show ((i : Nat) : Int).toNat = i by omega]
 exact (gmap (fun v : Int => g.cost.getD v.toNat default) c default hi).symm
theorem pick_ex {g : Gr} (hg : validG g = true) {c : List Int} (hc : c ∈ compsG g) :
  ∃ r, IsRep (partG g c) r ∧ chF (partG g c).cost c (repsG (partG g c)) = (r.map fun v => c.getD v.toNat default, costR (partG g c).cost r) ∧ ∀ r', IsRep (partG g c) r' → costR (partG g c).cost r < costR (partG g c).cost r' ∨ costR (partG g c).cost r = costR (partG g c).cost r' ∧ (r = r' ∨ lexB r r' = true) := by
 have hpv := part_valid hg (comps_set hg hc)
 have hcb := costB_iff.1 (validG_iff.1 hpv).1
 obtain ⟨r, hr, he, hall⟩ := chF_best (cost := (partG g c).cost) (vs := c) (L := repsG (partG g c)) (fun r _ => (costR_bnd hcb.2.2.2 r).1) (reps_up hpv) (reps_ne hpv)
 exact ⟨r, (reps_mem hpv).1 hr, he, fun r' hr' => hall r' ((reps_mem hpv).2 hr')⟩
theorem rep_in {g : Gr} {c r : List Int} (h : IsRep (partG g c) r) : ∀ v ∈ r, ∃ i : Nat, i < c.length ∧ v = (i : Int) := fun v hv => by
 have := (setB_iff.1 h.set).2 v hv
 have hn : (partG g c).n = ((c.length : Nat) : Int) := rfl
 exact ⟨v.toNat, by omega, by omega⟩
theorem inc_getD {c : List Int} (hi : Inc c) {i j : Nat} (h1 : i < c.length) (h2 : j < c.length) (h : c.getD i default = c.getD j default) : i = j := by
 have a := @inc_at c hi i j
 have b := @inc_at c hi j i
 by_cases h3 : i < j
 ·have := a h3 h2; omega
 ·by_cases h4 : j < i
  ·have := b h4 h1; omega
  ·omega
theorem pairwise_ne_disj {g : Gr} (hg : validG g = true) {L : List (List Int)} (hL : ∀ c ∈ L, c ∈ compsG g) (hn : L.Nodup) (F : List Int → List Int) (hF : ∀ c ∈ L, ∀ v ∈ F c, v ∈ c) (hFn : ∀ c ∈ L, (F c).Nodup) : (L.map F).flatten.Nodup := by
 induction L with
 | nil => exact List.Pairwise.nil
 | cons c L ih =>
  rw [List.map_cons, List.flatten_cons]
  have h1 := List.pairwise_cons.1 hn
  refine List.pairwise_append.2 ⟨hFn c (by simp), ih (fun d hd => hL d (by simp [hd])) h1.2 (fun d hd => hF d (by simp [hd])) (fun d hd => hFn d (by simp [hd])), fun a ha b hb e => ?_⟩
  subst e
  obtain ⟨l, hl, hal⟩ := List.mem_flatten.1 hb
  obtain ⟨d, hd, rfl⟩ := List.mem_map.1 hl
  have h2 := hF c (by simp) a ha
  have h3 := hF d (by simp [hd]) a hal
  exact h1.1 d hd (comp_disj hg (hL c (by simp)) (hL d (by simp [hd])) h2 h3)
theorem le_inc : ∀ {l : List Int}, l.Pairwise (· ≤ ·) → l.Nodup → Inc l
 | [], _, _ => List.Pairwise.nil
 | a :: l, h, hn => by
  have h1 := List.pairwise_cons.1 h
  have h2 := List.pairwise_cons.1 hn
  refine List.pairwise_cons.2 ⟨fun b hb => ?_, le_inc h1.2 h2.2⟩
  have := h1.1 b hb
  have := h2.1 b hb
  omega
structure Cheap (g : Gr) (b : List Int) (n : Int) : Prop where
 rep : IsRep g b
 cost : costR g.cost b = n
 least : ∀ R, IsRep g R → n ≤ costR g.cost R
 first : ∀ R, IsRep g R → costR g.cost R = n → lexB R b = false
theorem sm_eq {α : Type} {f h : α → Int} : ∀ {l : List α}, (∀ x ∈ l, f x ≤ h x) → sm (l.map f) = sm (l.map h) → ∀ x ∈ l, f x = h x
 | [], _, _, x, hx => by cases hx
 | a :: l, hle, he, x, hx => by
  have h1 := hle a (by simp)
  have h2 := sm_le f h (l := l) fun y hy => hle y (by simp [hy])
  rw [List.map_cons, List.map_cons] at he
  have he : f a + sm (l.map f) = h a + sm (l.map h) := he
  rcases List.mem_cons.1 hx with e | e
  ·rw [e]; omega
  ·exact sm_eq (fun y hy => hle y (by simp [hy])) (by omega) x e
theorem cheap_is {g : Gr} (hg : validG g = true) (hpe : partsE g = 0) : (cheapG g).2 = 0 ∧ Cheap g (cheapG g).1.1 (cheapG g).1.2 ∧ (cheapG g).1.2 = sm ((compsG g).map fun c => (chF (partG g c).cost c (repsG (partG g c))).2) := by
 obtain ⟨F, hF⟩ : ∃ F : List Int → List Int × Int, F = fun c => chF (partG g c).cost c (repsG (partG g c)) := ⟨_, rfl⟩
 have hch : cheapG g = ((srtF ((compsG g).map fun c => (F c).1).flatten, sm ((compsG g).map fun c => (F c).2)), 0) := by
  unfold cheapG partsC
  rw [if_pos hpe, if_pos hpe, hF]
  simp only [List.map_map]
  rfl
 have hFc : ∀ c, F c = chF (partG g c).cost c (repsG (partG g c)) := fun c => by rw [hF]
 obtain ⟨b, hb⟩ : ∃ b, b = srtF ((compsG g).map fun c => (F c).1).flatten := ⟨_, rfl⟩
 rw [hch, ← hb]
 have hF1 : ∀ c ∈ compsG g, ∀ v ∈ (F c).1, v ∈ c := fun c hc v hv => by
  obtain ⟨r, h1, h2, _⟩ := pick_ex hg hc
  rw [hFc, h2] at hv
  obtain ⟨x, hx, rfl⟩ := List.mem_map.1 hv
  obtain ⟨i, hi, rfl⟩ := rep_in h1 x hx
  rw [show ((i : Nat) : Int).toNat = i by omega]
  exact gmem hi
 have hF2 : ∀ c ∈ compsG g, (F c).1.Nodup := fun c hc => by
  obtain ⟨r, h1, h2, _⟩ := pick_ex hg hc
  rw [hFc, h2]
  refine List.pairwise_map.2 (List.Pairwise.imp_of_mem ?_ (inc_nodup (setB_iff.1 h1.set).1))
  intro x y hx hy hne e
  refine hne ?_
  obtain ⟨i, hi, rfl⟩ := rep_in h1 x hx
  obtain ⟨j, hj, rfl⟩ := rep_in h1 y hy
  rw [show ((i : Nat) : Int).toNat = i by omega, show ((j : Nat) : Int).toNat = j by omega] at e
  rw [inc_getD (comp_inc hg hc) hi hj e]
 have hbm : ∀ v, v ∈ b ↔ ∃ c ∈ compsG g, v ∈ (F c).1 := fun v => by
  rw [hb, srtF_mem, List.mem_flatten]
  constructor
  ·rintro ⟨l, hl, h⟩
   obtain ⟨c, hc, rfl⟩ := List.mem_map.1 hl
   exact ⟨c, hc, h⟩
  ·rintro ⟨c, hc, h⟩
   exact ⟨_, List.mem_map_of_mem hc, h⟩
 have hbi : Inc b := by
  have hn := pairwise_ne_disj hg (L := compsG g) (fun c h => h) (comps_nodup hg) (fun c => (F c).1) hF1 hF2
  refine le_inc (by rw [hb]; exact srtF_le _) ?_
  rw [hb]
  exact ((List.mergeSort_perm _ _).nodup_iff).2 hn
 have hbs : setB b g.n = true := setB_iff.2 ⟨hbi, fun v hv => by
  obtain ⟨c, hc, h⟩ := (hbm v).1 hv
  exact (setB_iff.1 (comps_set hg hc)).2 v (hF1 c hc v h)⟩
 have hpart : ∀ c ∈ compsG g, IsRep (partG g c) (inK c b c.length) ∧ (F c).2 = costR (partG g c).cost (inK c b c.length) ∧ ∀ r', IsRep (partG g c) r' → costR (partG g c).cost (inK c b c.length) < costR (partG g c).cost r' ∨ costR (partG g c).cost (inK c b c.length) = costR (partG g c).cost r' ∧ (inK c b c.length = r' ∨ lexB (inK c b c.length) r' = true) := fun c hc => by
  obtain ⟨r, h1, h2, h3⟩ := pick_ex hg hc
  have h2 : F c = (r.map fun v => c.getD v.toNat default, costR (partG g c).cost r) := by rw [hFc]; exact h2
  have hci := comp_inc hg hc
  have : inK c b c.length = r := inc_ext (inK_inc _ _ _) (setB_iff.1 h1.set).1 fun x => by
   rw [inK_mem]
   constructor
   ·rintro ⟨i, hi, hm, rfl⟩
    obtain ⟨d, hd, h4⟩ := (hbm _).1 hm
    have hcd := comp_disj hg hc hd (gmem hi) (hF1 d hd _ h4)
    subst hcd
    rw [h2] at h4
    obtain ⟨y, hy, h5⟩ := List.mem_map.1 h4
    obtain ⟨j, hj, rfl⟩ := rep_in h1 y hy
    rw [show ((j : Nat) : Int).toNat = j by omega] at h5
    rw [← inc_getD hci hj hi h5]; exact hy
   ·intro hx
    obtain ⟨i, hi, rfl⟩ := rep_in h1 x hx
    refine ⟨i, hi, (hbm _).2 ⟨c, hc, ?_⟩, rfl⟩
    rw [h2]
    have := List.mem_map_of_mem (f := fun v : Int => c.getD v.toNat default) hx
    rwa [show ((i : Nat) : Int).toNat = i by omega] at this
  rw [this]
  exact ⟨h1, congrArg Prod.snd h2, h3⟩
 have hrep : IsRep g b := (parts_rep hg hbs).2 fun c hc => (hpart c hc).1
 have hcost : costR g.cost b = sm ((compsG g).map fun c => (F c).2) := by
  rw [cost_parts hg hbs]
  exact (sm_congr _ _ fun c hc => (hpart c hc).2.1).symm
 have hle : ∀ R, IsRep g R → ∀ c ∈ compsG g, (F c).2 ≤ costR (partG g c).cost (inK c R c.length) := fun R hR c hc => by
  obtain ⟨_, h2, h3⟩ := hpart c hc
  have := h3 _ ((parts_rep hg hR.set).1 hR c hc)
  omega
 refine ⟨rfl, ⟨hrep, hcost, fun R hR => ?_, fun R hR he => ?_⟩, by rw [hF]⟩
 ·rw [cost_parts hg hR.set]
  exact sm_le _ _ (hle R hR)
 ·rw [cost_parts hg hR.set] at he
  have heq := sm_eq (hle R hR) he.symm
  refine lex_parts hg hR hrep fun c hc => ?_
  obtain ⟨_, h2, h3⟩ := hpart c hc
  have h4 := heq c hc
  rcases h3 _ ((parts_rep hg hR.set).1 hR c hc) with h5 | ⟨_, h5⟩
  ·omega
  ·exact h5
end Go.Proofs.YtlnbkoojelhjdaaGreatDoor

/- Repair: the reference's cost of a set. -/
namespace Go.Proofs.YtlnbkoojelhjdaaGreatDoor
open Go.Vc
set_option maxRecDepth 100000
set_option maxHeartbeats 16000000
theorem cost28_spec (g : GrW) (a : Option Addr) (c : Nat) (S : List Int) (w : World) (hG : GOk w g) (hc : ∀ x ∈ g.cost, 0 ≤ x ∧ x ≤ 1000000000) (hS : IntSl w a S) (hm : S.length ≤ 1000000) (hr : ∀ x ∈ S, 0 ≤ x ∧ x < (g.cost.length : Int)) (_hcl : g.cost.length ≤ 1000000) :
  RetsP Tryz.prog 35 #[.agg (encGr g).toArray, .slice a S.length c] w (.int .i64 (costR g.cost S)) := by
 refine enter (args := [_, _]) Tryz.func35 rfl Tryz.ntmps35 (by kernel_rfl) rfl ?_
 refine V.seq (V.region (VL.box (v := .agg _) rfl fun b0_0 w0_0 hb0_0 e0_0 hB0_0 => VL.op (R.asI rfl) (VL.nil (V.seq (V.region (VL.op (R.asI rfl) (VL.nil (V.seq (V.seq (V.region (VL.op (R.asI rfl) (VL.nil (V.block (?_))))))))))))))
 refine V.loop [1, 2, 5, 6] (fun k : Nat => [.slice a S.length c, .pointer (some ⟨b0_0, 0, none⟩), .int .i64 (selC g.cost S k), .int .i64 (k : Nat)]) (fun k w' => k ≤ S.length ∧ Ext w0_0 w') (fun k => S.length - k) 0 rfl ⟨Nat.zero_le _, Vc.Mod.refl _ _⟩ ?_
 rintro ρ k w1 ⟨hk, e1⟩
 have hX1 := hB0_0.ext e1
 have hS1 := hS.ext (e0_0.trans e1)
 have hC1 := hG.c.ext (e0_0.trans e1)
 have hb := selC_bnd (r := S) hc k
 refine V.seq (V.seq (V.region (VL.op (R.mvI rfl) (VL.op (R.mvS rfl) (VL.op (R.lenS Tryz.runUnderlying22 rfl) (VL.op (R.lss rfl rfl) (VL.nil (V.condP rfl (fun c10 => V.skip (V.seq (V.block (?_)))) (fun c10 => V.exit (V.seq (V.region (VL.op (R.mvI rfl) (VL.op (R.asI rfl) (VL.nil (V.ret (fret1 (v := .int _ _) rfl rfl rfl (?_)))))))))))))))))
 ·have hkl : k < S.length := by omega
  have hx := hr _ (gmem hkl)
  have hv := cost_at hc (S.getD k default).toNat
  have hs := selC_succ (cost := g.cost) hkl
  refine V.regionQ mixed 11 (by kernel_rfl) rfl (fun w' => Ext _ w') (Ext.drawn _) (VQ.op (fun wq eq => R.mvI rfl) (VQ.op (fun wq eq => R.fld' (o := 1) Tryz.runUnderlying25 rfl rfl Tryz.sizeOf22 rfl rfl) (VQ.op (fun wq eq => R.ld1 Tryz.isAgg22 rfl ((show wq.cell? ⟨b0_0, 1, none⟩ = some (Value.slice g.ca g.cost.length g.cc) from (hX1.ext eq).cell 1))) (VQ.op (fun wq eq => R.mvS rfl) (VQ.op (fun wq eq => R.mvI rfl) (VQ.op (fun wq eq => R.ixS Tryz.runUnderlying22 Tryz.sizeOf3 rfl rfl (by omega) (by omega) ((hS1).some (i := k) (by omega))) (VQ.op (fun wq eq => R.ld1 Tryz.isAgg3 rfl (((((hS1).ext eq).row (i := k) (by omega)).cell (i := 0) rfl))) (VQ.op (fun wq eq => R.ixS Tryz.runUnderlying22 Tryz.sizeOf3 rfl rfl (by omega) (by omega) (hC1.some (i := (S.getD k default).toNat) (by omega))) (VQ.op (fun wq eq => R.ld1 Tryz.isAgg3 rfl ((((hC1.ext eq).row (i := (S.getD k default).toNat) (by omega)).cell (i := 0) rfl))) (VQ.op (fun wq eq => R.add rfl rfl (by omega) (by omega)) (VQ.op (fun wq eq => R.asI rfl) (VQ.nil fun w5q e5q => VL.nil (V.region (VL.op (R.mvI rfl) (VL.op (R.add rfl rfl (by omega) (by omega)) (VL.op (R.asI rfl) (VL.nil (⟨k + 1, by rw [hs]; rfl, ⟨by omega, e1.trans e5q⟩, by omega⟩))))))))))))))))))
 ·have hke : k = S.length := by omega
  subst hke
  refine ⟨?_, e0_0.trans e1⟩
  unfold selC costR
  rw [List.take_length]
end Go.Proofs.YtlnbkoojelhjdaaGreatDoor
