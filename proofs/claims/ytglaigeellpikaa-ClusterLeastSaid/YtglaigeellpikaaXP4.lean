/- Cluster: what clusters keep, as a sum; what a solution of one group is worth. No program. -/
import Derived.Test.YtglaigeellpikaaXD2
namespace Go.Proofs.Ytglaigeellpikaa
open Go.Vc

/-- What clusters keep together. -/
def kS (wt : Int → Int → Int) (cs : List Int) (h : Int → Int) : Int := sm (cs.map fun c => sm (cs.map fun d => if c < d ∧ h c = h d then wt c d else 0))
theorem kS_congr {wt : Int → Int → Int} {cs : List Int} {h h' : Int → Int} (e : ∀ c ∈ cs, h c = h' c) : kS wt cs h = kS wt cs h' := by
  unfold kS
  refine sm_congr _ _ fun c hc => sm_congr _ _ fun d hd => ?_
  rw [e c hc, e d hd]
theorem kS_snoc {wt : Int → Int → Int} {l : List Int} {x : Int} {h : Int → Int} (hx : ∀ c ∈ l, c < x) : kS wt (l ++ [x]) h = kS wt l h + sm (l.map fun c => if h c = h x then wt c x else 0) := by
  unfold kS
  rw [List.map_append, sm_app]
  have e1 : sm ([x].map fun c => sm ((l ++ [x]).map fun d => if c < d ∧ h c = h d then wt c d else 0)) = 0 := by
    show sm _ + 0 = 0
    rw [sm_zero _ fun d hd => ?_]; rfl
    rcases List.mem_append.1 hd with hd | hd
    · have := hx d hd; rw [if_neg (by omega)]
    · rw [List.mem_singleton.1 hd, if_neg (by omega)]
  rw [e1, Int.add_zero, ← sm_add]
  refine sm_congr _ _ fun c hc => ?_
  rw [List.map_append, sm_app]
  show _ + (_ + 0) = _
  have := hx c hc
  rw [Int.add_zero]
  congr 1
  show (if c < x ∧ h c = h x then wt c x else 0) = _
  by_cases e : h c = h x
  · rw [if_pos ⟨this, e⟩, if_pos e]
  · rw [if_neg (fun q => e q.2), if_neg e]
theorem row_sm {wt : Int → Int → Int} {cs : List Int} {h : Int → Int} {m : Nat} (hm : m < cs.length) : ∀ k, k ≤ m → rowI wt cs (cs.map h) m k = sm ((cs.take k).map fun c => if h c = h cs[m] then wt c cs[m] else 0)
  | 0, _ => rfl
  | k + 1, hk => by
    have hkl : k < cs.length := by omega
    rw [List.take_succ_eq_append_getElem hkl, List.map_append, sm_app]
    show rowI wt cs (cs.map h) m k + _ = _ + (_ + 0)
    rw [row_sm hm k (by omega), Int.add_zero]
    simp only [List.getD, List.getElem?_map, List.getElem?_eq_getElem hm, List.getElem?_eq_getElem hkl, Option.map_some, Option.getD_some]
    congr 1
    by_cases e : h cs[m] = h cs[k]
    · rw [if_pos e, if_pos e.symm]
    · rw [if_neg e, if_neg (fun x => e x.symm)]
theorem kept_sm {wt : Int → Int → Int} {cs : List Int} (hc : Inc cs) {h : Int → Int} : keptF wt cs (cs.map h) = kS wt cs h := by
  have key : ∀ m, m ≤ cs.length → keptI wt cs (cs.map h) m = kS wt (cs.take m) h := by
    intro m
    induction m with
    | zero => intro _; rfl
    | succ m ih =>
      intro hm
      have hml : m < cs.length := by omega
      rw [List.take_succ_eq_append_getElem hml, kS_snoc, ← ih (by omega), ← row_sm hml m (Nat.le_refl _)]
      · rfl
      · intro c hcm
        obtain ⟨j, hj, rfl⟩ := List.getElem_of_mem hcm
        rw [List.length_take] at hj
        rw [List.getElem_take]
        exact List.pairwise_iff_getElem.1 hc j m (by omega) hml (by omega)
  have := key cs.length (Nat.le_refl _)
  rw [List.take_length] at this
  exact this
theorem kS_id {wt : Int → Int → Int} {cs : List Int} : kS wt cs (fun c => c) = 0 := by
  unfold kS
  exact sm_zero _ fun c _ => sm_zero _ fun d _ => if_neg fun q => by have h1 := q.1; have h2 : c = d := q.2; omega
/-- No two of a cluster are decided to be different. -/
def FreeH (ap : Int → Int → Bool) (cs : List Int) (h : Int → Int) : Prop := ∀ c ∈ cs, ∀ d ∈ cs, h c = h d → c ≠ d → ap c d = false
theorem kS_mrg {wt : Int → Int → Int} {cs : List Int} {h : Int → Int} {x y : Int} (hxy : x ≠ y) : kS wt cs (mrg h (x, y)) = kS wt cs h + btw wt cs h x y := by
  have e1 : btw wt cs h x y = sm (cs.map fun c => sm (cs.map fun d => (if c < d ∧ h c = x ∧ h d = y then wt c d else 0) + if c < d ∧ h c = y ∧ h d = x then wt c d else 0)) := by
    unfold btw
    have : ∀ c d, (if h c = x ∧ h d = y then wtS wt c d else 0) = (if c < d ∧ h c = x ∧ h d = y then wt c d else 0) + (if d < c ∧ h d = y ∧ h c = x then wt d c else 0) := fun c d => by
      unfold wtS
      by_cases h1 : h c = x ∧ h d = y
      · rw [if_pos h1]
        rcases Int.lt_trichotomy c d with h2 | h2 | h2
        · rw [if_pos h2, if_pos ⟨h2, h1⟩, if_neg (show ¬ (d < c ∧ h d = y ∧ h c = x) from fun q => absurd q.1 (by omega))]; omega
        · rw [if_neg (show ¬ c < d by omega), if_neg (show ¬ d < c by omega), if_neg (show ¬ (d < c ∧ h d = y ∧ h c = x) from fun q => absurd q.1 (by omega)), if_neg (show ¬ (c < d ∧ h c = x ∧ h d = y) from fun q => absurd q.1 (by omega))]; rfl
        · rw [if_neg (show ¬ c < d by omega), if_pos h2, if_neg (show ¬ (c < d ∧ h c = x ∧ h d = y) from fun q => absurd q.1 (by omega)), if_pos ⟨h2, h1.2, h1.1⟩]; omega
      · rw [if_neg h1, if_neg (show ¬ (c < d ∧ h c = x ∧ h d = y) from fun q => h1 q.2), if_neg (show ¬ (d < c ∧ h d = y ∧ h c = x) from fun q => h1 ⟨q.2.2, q.2.1⟩)]; rfl
    rw [sm_congr _ _ fun c _ => sm_congr _ _ fun d _ => this c d]
    rw [sm_congr _ _ fun c _ => sm_add _ _ cs, sm_add, sm_swap (fun c d => if d < c ∧ h d = y ∧ h c = x then wt d c else 0), ← sm_add]
    exact sm_congr _ _ fun c _ => (sm_add _ _ _).symm
  rw [e1]
  unfold kS
  rw [← sm_add]
  refine sm_congr _ _ fun c _ => ?_
  rw [← sm_add]
  refine sm_congr _ _ fun d _ => ?_
  unfold mrg
  dsimp only
  by_cases hcd : c < d
  · simp only [hcd, true_and]
    by_cases a : h c = y <;> by_cases b : h d = y
    · rw [if_pos a, if_pos b, if_pos rfl, if_pos (a.trans b.symm), if_neg (by omega), if_neg (by omega)]; omega
    · rw [if_pos a, if_neg b, if_neg (show ¬ h c = h d by omega)]
      by_cases e : x = h d
      · rw [if_pos e, if_neg (by omega), if_pos ⟨a, e.symm⟩]; omega
      · rw [if_neg e, if_neg (by omega), if_neg (by omega)]; rfl
    · rw [if_neg a, if_pos b, if_neg (show ¬ h c = h d by omega)]
      by_cases e : h c = x
      · rw [if_pos e, if_pos ⟨e, b⟩, if_neg (by omega)]; omega
      · rw [if_neg e, if_neg (by omega), if_neg (by omega)]; rfl
    · rw [if_neg a, if_neg b, if_neg (show ¬ (h c = x ∧ h d = y) from fun q => b q.2), if_neg (show ¬ (h c = y ∧ h d = x) from fun q => a q.1)]; omega
  · simp only [hcd, false_and, if_false]; rfl
theorem grd_facts {wt : Int → Int → Int} {ap : Int → Int → Bool} (hsym : ∀ a b, ap a b = ap b a) {cs : List Int} {h h' : Int → Int} (g : Grd wt ap cs h h') (ho : HOk cs h) (hf : FreeH ap cs h) : HOk cs h' ∧ FreeH ap cs h' ∧ kS wt cs h ≤ kS wt cs h' := by
  induction g with
  | stop h _ => exact ⟨ho, hf, Int.le_refl _⟩
  | step h h' p hn _ ih =>
    have hc := hn.cand
    obtain ⟨x, y⟩ := p
    have hlt := hc.lt
    dsimp only at hlt
    have h1 := ih (ho.unite hc.m1 hc.h1 hc.h2 hc.lt) (fun c hcm d hdm e hne => by
      by_cases e0 : h c = h d
      · exact hf c hcm d hdm e0 hne
      · cases ha : ap c d with
        | false => rfl
        | true =>
          exfalso
          unfold mrg at e
          dsimp only at e
          by_cases a : h c = y <;> by_cases b : h d = y
          · omega
          · rw [if_pos a, if_neg b] at e; exact hc.free ⟨d, hdm, c, hcm, e.symm, a, by rw [hsym]; exact ha⟩
          · rw [if_neg a, if_pos b] at e; exact hc.free ⟨c, hcm, d, hdm, e, b, ha⟩
          · rw [if_neg a, if_neg b] at e; exact e0 e)
    refine ⟨h1.1, h1.2.1, ?_⟩
    have h2 := h1.2.2
    rw [kS_mrg (by omega)] at h2
    have hp := hc.pos
    dsimp only at hp
    omega
theorem hok_congr {cs : List Int} {h h' : Int → Int} (k : HOk cs h) (e : ∀ c ∈ cs, h c = h' c) : HOk cs h' :=
  ⟨fun c hc => by rw [← e c hc]; exact k.mem c hc, fun c hc => by rw [← e c hc, ← e _ (k.mem c hc)]; exact k.idem c hc, fun c hc => by rw [← e c hc]; exact k.le c hc⟩
theorem SolR.facts {wt : Int → Int → Int} {ap : Int → Int → Bool} (hsym : ∀ a b, ap a b = ap b a) {cs : List Int} (hinc : Inc cs) {H : Int → Int} (h : SolR wt ap cs (cs.map H)) : HOk cs H ∧ FreeH ap cs H ∧ 0 ≤ kS wt cs H := by
  unfold SolR at h
  split at h
  · have hg : ∀ i, i < cs.length → (cs.map H).getD i default = H (cs.getD i default) := fun i hi => gmap _ _ _ hi
    have hat : ∀ c ∈ cs, ∃ i, i < cs.length ∧ c = cs.getD i default := fun c hc => by
      obtain ⟨i, hi, rfl⟩ := List.getElem_of_mem hc
      exact ⟨i, hi, by simp [List.getD, hi]⟩
    have hhd : ∀ c ∈ cs, H c ∈ cs ∧ H (H c) = H c ∧ H c ≤ c := fun c hc => by
      obtain ⟨i, hi, rfl⟩ := hat c hc
      obtain ⟨j, hj, h1, h2⟩ := h.part.head i hi
      rw [hg i hi] at h1
      rw [hg j (by omega)] at h2
      rw [h1]
      refine ⟨getD_mem (by omega), h2, ?_⟩
      rcases Nat.lt_or_ge j i with hji | hji
      · exact Int.le_of_lt (inc_at hinc hji hi)
      · rw [show j = i by omega]; exact Int.le_refl _
    refine ⟨⟨fun c hc => (hhd c hc).1, fun c hc => (hhd c hc).2.1, fun c hc => (hhd c hc).2.2⟩, fun c hc d hd e hne => ?_, ?_⟩
    · obtain ⟨i, hi, rfl⟩ := hat c hc
      obtain ⟨j, hj, rfl⟩ := hat d hd
      rcases Nat.lt_trichotomy i j with hl | hl | hl
      · exact h.part.free j hj i hl (by rw [hg i hi, hg j hj]; exact e)
      · exact absurd (by rw [hl]) hne
      · rw [hsym]; exact h.part.free i hi j hl (by rw [hg i hi, hg j hj]; exact e.symm)
    · have h1 := h.best cs (part_self hinc)
      have h2 := kept_sm (wt := wt) hinc (h := fun c => c)
      rw [List.map_id', kS_id] at h2
      rw [kept_sm hinc, h2] at h1
      omega
  · obtain ⟨h', hg, he⟩ := h
    have hag : ∀ c ∈ cs, h' c = H c := fun c hc => (List.map_inj_left.1 he c hc).symm
    obtain ⟨k1, k2, k3⟩ := grd_facts hsym hg (HOk.start cs) (fun c _ d _ e hne => absurd e hne)
    refine ⟨hok_congr k1 hag, fun c hc d hd e hne => k2 c hc d hd (by rw [hag c hc, hag d hd]; exact e) hne, ?_⟩
    rw [← kS_congr hag]
    rw [kS_id] at k3
    exact k3
end Go.Proofs.Ytglaigeellpikaa

/- Cluster: weights between classes, decisions, costs: as sums. No program. -/
namespace Go.Proofs.Ytglaigeellpikaa
open Go.Vc

theorem gW_snoc (same : List Int) (l : List Ed) (x : Ed) : gW same (l ++ [x]) = gWs same (gW same l) x := by unfold gW; rw [List.foldl_append]; rfl
theorem gA_snoc (same : List Int) (l : List (Int × Int)) (x : Int × Int) : gA same (l ++ [x]) = gAs same (gA same l) x := by unfold gA; rw [List.foldl_append]; rfl
/-- An edge speaks of two classes. -/
def ofP (same : List Int) (e : Ed) (a b : Int) : Prop := at_ same e.a ≠ at_ same e.b ∧ ordF (at_ same e.a) (at_ same e.b) = (a, b)
instance (same : List Int) (e : Ed) (a b : Int) : Decidable (ofP same e a b) := by unfold ofP; infer_instance
theorem gW_val (same : List Int) (edges : List Ed) (a b : Int) : wtM (gW same edges) a b = sm (edges.map fun e => if ofP same e a b then e.w else 0) := by
  refine rev_ind (M := fun edges => wtM (gW same edges) a b = sm (edges.map fun e => if ofP same e a b then e.w else 0)) rfl (fun l x ih => ?_) edges
  rw [List.map_append, sm_app, ← ih, gW_snoc]
  show _ = _ + ((if ofP same x a b then x.w else 0) + 0)
  unfold wtM gWs
  by_cases h : at_ same x.a ≠ at_ same x.b
  · rw [if_pos h, tget_tset]
    by_cases e : (a, b) = ordF (at_ same x.a) (at_ same x.b)
    · rw [if_pos e, if_pos (show ofP same x a b from ⟨h, e.symm⟩), e]; simp
    · rw [if_neg e, if_neg (show ¬ ofP same x a b from fun q => e q.2.symm)]; simp
  · rw [if_neg h, if_neg (show ¬ ofP same x a b from fun q => h q.1)]; simp
theorem gA_true (same : List Int) (other : List (Int × Int)) (a b : Int) : apM (gA same other) a b = true ↔ ∃ p ∈ other, at_ same p.1 ≠ at_ same p.2 ∧ ordF (at_ same p.1) (at_ same p.2) = ordF a b := by
  refine rev_ind (M := fun other => apM (gA same other) a b = true ↔ ∃ p ∈ other, at_ same p.1 ≠ at_ same p.2 ∧ ordF (at_ same p.1) (at_ same p.2) = ordF a b) (by simp [gA, apM, tget]) (fun l x ih => ?_) other
  rw [gA_snoc]
  have hs : (∃ p ∈ l ++ [x], at_ same p.1 ≠ at_ same p.2 ∧ ordF (at_ same p.1) (at_ same p.2) = ordF a b) ↔ (∃ p ∈ l, at_ same p.1 ≠ at_ same p.2 ∧ ordF (at_ same p.1) (at_ same p.2) = ordF a b) ∨ (at_ same x.1 ≠ at_ same x.2 ∧ ordF (at_ same x.1) (at_ same x.2) = ordF a b) := by
    constructor
    · rintro ⟨p, hp, h⟩
      rcases List.mem_append.1 hp with hp | hp
      · exact .inl ⟨p, hp, h⟩
      · rw [List.mem_singleton.1 hp] at h; exact .inr h
    · rintro (⟨p, hp, h⟩ | h)
      · exact ⟨p, List.mem_append_left _ hp, h⟩
      · exact ⟨x, by simp, h⟩
  rw [hs, ← ih]
  unfold apM gAs
  by_cases h : at_ same x.1 ≠ at_ same x.2
  · rw [if_pos h, tget_tset]
    by_cases e : ordF a b = ordF (at_ same x.1) (at_ same x.2)
    · rw [if_pos e]; simp [h, e]
    · rw [if_neg e]
      exact ⟨.inl, fun q => q.elim id fun q => absurd q.2.symm e⟩
  · rw [if_neg h]
    exact ⟨.inl, fun q => q.elim id fun q => absurd q.1 h⟩
theorem ordF_comm (a b : Int) : ordF a b = ordF b a := by unfold ordF; rw [Prod.mk.injEq]; omega
theorem apM_comm (A : List ((Int × Int) × Bool)) (a b : Int) : apM A a b = apM A b a := by unfold apM; rw [ordF_comm]
/-- What contradicts is what is positive but for what is kept. -/
def posE (edges : List Ed) : Int := sm (edges.map fun e => max e.w 0)
def keepE (edges : List Ed) (ent : List Int) : Int := sm (edges.map fun e => if at_ ent e.a = at_ ent e.b then e.w else 0)
theorem cost_sum {edges : List Ed} {ent : List Int} (hl : linkB ent.length edges = true) (hm : edges.length ≤ 1000) : costW edges ent = posE edges - keepE edges ent := by
  have hb := (linkB_iff.1 hl).2
  have key : ∀ k, k ≤ edges.length → costW (edges.take k) ent = posE (edges.take k) - keepE (edges.take k) ent ∧ 0 ≤ costW (edges.take k) ent ∧ costW (edges.take k) ent ≤ 1000000000 * (k : Int) := by
    intro k
    induction k with
    | zero => intro _; exact ⟨rfl, Int.le_refl _, Int.le_refl _⟩
    | succ k ih =>
      intro hk
      obtain ⟨i1, i2, i3⟩ := ih (by omega)
      have hkl : k < edges.length := by omega
      have he := hb _ (getD_mem (l := edges) hkl)
      have hg : edges.getD k default = edges[k] := by simp [List.getD, hkl]
      rw [costW_succ hkl, List.take_succ_eq_append_getElem hkl]
      unfold posE keepE at i1 ⊢
      rw [List.map_append, List.map_append, sm_app, sm_app]
      rw [hg] at he ⊢
      have hk2 : ((k + 1 : Nat) : Int) = (k : Int) + 1 := by omega
      show _ = _ + (max edges[k].w 0 + 0) - (_ + ((if at_ ent edges[k].a = at_ ent edges[k].b then edges[k].w else 0) + 0)) ∧ _
      unfold costS
      rw [if_pos ⟨he.1, he.2.1, he.2.2.1, he.2.2.2.1⟩]
      generalize costW (edges.take k) ent = s at *
      by_cases e : at_ ent edges[k].a = at_ ent edges[k].b
      · rw [if_neg (fun q => q.2 e), if_pos e]
        by_cases hn : edges[k].w < 0
        · rw [if_pos ⟨hn, e⟩, wrap_i64 (by omega) (by omega)]; omega
        · rw [if_neg (fun q => hn q.1)]; omega
      · rw [if_neg e]
        by_cases hp : edges[k].w > 0
        · rw [if_pos ⟨hp, e⟩, wrap_i64 (by omega) (by omega)]; omega
        · rw [if_neg (fun q => hp q.1), if_neg (fun q => e q.2)]; omega
  have := (key edges.length (Nat.le_refl _)).1
  rwa [List.take_length] at this
theorem sm_two {cs : List Int} (hn : cs.Nodup) {a b : Int} (ha : a ∈ cs) (hb : b ∈ cs) (f : Int → Int → Int) : sm (cs.map fun c => sm (cs.map fun d => if c = a ∧ d = b then f c d else 0)) = f a b := by
  have e : ∀ c, sm (cs.map fun d => if c = a ∧ d = b then f c d else 0) = if c = a then f c b else 0 := fun c => by
    by_cases h : c = a
    · rw [if_pos h, sm_congr (fun d => if c = a ∧ d = b then f c d else 0) (fun d => if d = b then f c d else 0) fun d _ => by simp [h], sm_one (fun d => f c d) b hn hb]
    · rw [if_neg h]; exact sm_zero _ fun d _ => by rw [if_neg (fun e => h e.1)]
  rw [sm_congr _ _ fun c _ => e c]
  exact sm_one (fun c => f c b) a hn ha
end Go.Proofs.Ytglaigeellpikaa

/- Cluster: what a clustering is, over all classes. No program. -/
namespace Go.Proofs.Ytglaigeellpikaa
open Go.Vc

def isCl (same : List Int) (c : Int) : Prop := 0 ≤ c ∧ c < same.length ∧ at_ same c = c
/-- All classes. -/
def clL (same : List Int) : List Int := ((List.range same.length).map fun i => ((i : Nat) : Int)).filter fun p => !decide (at_ same p ≠ p)
theorem clL_mem {same : List Int} {c : Int} : c ∈ clL same ↔ isCl same c := by
  unfold clL isCl
  rw [List.mem_filter, List.mem_map]
  constructor
  · rintro ⟨⟨i, hi, rfl⟩, h⟩
    rw [List.mem_range] at hi
    exact ⟨by omega, by omega, by simpa using h⟩
  · rintro ⟨h1, h2, h3⟩
    exact ⟨⟨c.toNat, List.mem_range.2 (by omega), by omega⟩, by simpa using h3⟩
theorem clL_inc (same : List Int) : Inc (clL same) := by
  unfold clL Inc
  refine List.Pairwise.sublist List.filter_sublist ?_
  rw [List.pairwise_map]
  refine List.Pairwise.imp (fun {a b} h => ?_) List.pairwise_lt_range
  show (a : Int) < (b : Int)
  omega
theorem sm_cl (same : List Int) (f : Int → Int) : sm ((clL same).map f) = sm ((List.range same.length).map fun i => if at_ same (i : Nat) = ((i : Nat) : Int) then f ((i : Nat) : Int) else 0) := by
  unfold clL
  rw [sm_filter, List.map_map]
  refine sm_congr _ _ fun i _ => ?_
  show (if (!decide (at_ same (i : Nat) ≠ (i : Nat))) = true then _ else _) = _
  by_cases h : at_ same (i : Nat) = ((i : Nat) : Int)
  · rw [if_pos (by simpa using h), if_pos h]
  · rw [if_neg (by simpa using h), if_neg h]
theorem sm_clsG (same : List Int) (r : Nat → Nat) (h : Nat) (f : Int → Int) : sm ((clsG same (memsK r same.length h)).map f) = sm ((clL same).map fun c => if r c.toNat = h then f c else 0) := by
  rw [sm_cl]
  unfold clsG memsK
  rw [sm_filter, List.map_map, sm_filter]
  refine sm_congr _ _ fun i _ => ?_
  show (if decide (r i = h) = true then (if (!decide (at_ same (i : Nat) ≠ (i : Nat))) = true then f (i : Nat) else 0) else 0) = if at_ same (i : Nat) = ((i : Nat) : Int) then (if r ((i : Nat) : Int).toNat = h then f (i : Nat) else 0) else 0
  rw [Int.toNat_natCast]
  by_cases h1 : r i = h <;> by_cases h2 : at_ same (i : Nat) = ((i : Nat) : Int) <;> simp [h1, h2]
theorem sm_cls (same : List Int) {r : Nat → Nat} (hle : ∀ i, i < same.length → r i ≤ i) (hid : ∀ i, i < same.length → r (r i) = r i) (f : Int → Int) : sm ((clL same).map f) = sm ((grpsK r same.length).map fun g => sm ((clsG same g).map f)) := by
  rw [sm_cl]
  have := sm_grps r (fun x => if at_ same x = x then f x else 0) hle hid
  rw [← this]
  refine sm_congr _ _ fun g _ => ?_
  unfold clsG
  rw [sm_filter]
  refine sm_congr _ _ fun x _ => ?_
  by_cases h : at_ same x = x
  · rw [if_pos h, if_pos (by simpa using h)]
  · rw [if_neg h, if_neg (by simpa using h)]
/-- Pairs of classes lie within one component, or between two. -/
theorem pair_split (same : List Int) {r : Nat → Nat} (hle : ∀ i, i < same.length → r i ≤ i) (hid : ∀ i, i < same.length → r (r i) = r i) (F : Int → Int → Int) :
    sm ((clL same).map fun c => sm ((clL same).map fun d => F c d)) = sm ((grpsK r same.length).map fun g => sm ((clsG same g).map fun c => sm ((clsG same g).map fun d => F c d))) + sm ((clL same).map fun c => sm ((clL same).map fun d => if r c.toNat = r d.toNat then 0 else F c d)) := by
  have e : ∀ c d, F c d = (if r d.toNat = r c.toNat then F c d else 0) + if r c.toNat = r d.toNat then 0 else F c d := fun c d => by
    by_cases h : r d.toNat = r c.toNat
    · rw [if_pos h, if_pos h.symm]; omega
    · rw [if_neg h, if_neg (fun q => h q.symm)]; omega
  rw [sm_congr (fun c => sm ((clL same).map fun d => F c d)) _ fun c _ => sm_congr (fun d => F c d) _ fun d _ => e c d]
  rw [sm_congr _ _ fun c _ => sm_add _ _ _, sm_add]
  congr 1
  rw [sm_cls same hle hid]
  refine sm_congr _ _ fun g hg => ?_
  unfold grpsK at hg
  obtain ⟨h, hh, rfl⟩ := List.mem_map.1 hg
  refine sm_congr _ _ fun c hc => ?_
  obtain ⟨i, hi, hr, rfl⟩ := memsK_mem.1 (clsG_mem.1 hc).1
  rw [sm_clsG, Int.toNat_natCast, hr]
/-- A clustering of the classes. -/
structure GloH (same : List Int) (r : Nat → Nat) (ap : Int → Int → Bool) (H : Int → Int) : Prop where
  cl : ∀ c, isCl same c → isCl same (H c)
  idem : ∀ c, isCl same c → H (H c) = H c
  le : ∀ c, isCl same c → H c ≤ c
  comp : ∀ c, isCl same c → r (H c).toNat = r c.toNat
  free : ∀ c d, isCl same c → isCl same d → H c = H d → c ≠ d → ap c d = false
theorem kS_groups {same : List Int} {r : Nat → Nat} (hle : ∀ i, i < same.length → r i ≤ i) (hid : ∀ i, i < same.length → r (r i) = r i) (wt : Int → Int → Int) {H : Int → Int} (hc : ∀ c, isCl same c → r (H c).toNat = r c.toNat) :
    kS wt (clL same) H = sm ((grpsK r same.length).map fun g => kS wt (clsG same g) H) := by
  unfold kS
  rw [pair_split same hle hid]
  have : sm ((clL same).map fun c => sm ((clL same).map fun d => if r c.toNat = r d.toNat then 0 else if c < d ∧ H c = H d then wt c d else 0)) = 0 := sm_zero _ fun c hcm => sm_zero _ fun d hdm => by
    by_cases h : r c.toNat = r d.toNat
    · rw [if_pos h]
    · rw [if_neg h, if_neg]
      intro q
      have h1 := hc c (clL_mem.1 hcm)
      have h2 := hc d (clL_mem.1 hdm)
      rw [q.2] at h1
      exact h (h1.symm.trans h2)
  rw [this, Int.add_zero]
theorem glo_of {same : List Int} {W : List ((Int × Int) × Int)} {ap : Int → Int → Bool} {wt : Int → Int → Int} (hsym : ∀ a b, ap a b = ap b a) (hv : ∀ i, i < same.length → 0 ≤ same.getD i default ∧ same.getD i default ≤ i ∧ same.getD (same.getD i default).toNat default = same.getD i default) (hok : WOk same W) {H : Int → Int}
    (hs : ∀ g ∈ grpG same W, SolR wt ap (clsG same g) ((clsG same g).map H)) : GloH same (cmpR same W) ap H ∧ 0 ≤ kS wt (clL same) H := by
  have hci := cmpR_is hv hok
  have hg : ∀ c, isCl same c → ∃ h, h ∈ hdsK (cmpR same W) same.length ∧ c ∈ clsG same (memsK (cmpR same W) same.length h) ∧ cmpR same W c.toNat = h := fun c ⟨h1, h2, h3⟩ =>
    ⟨cmpR same W c.toNat, hdsK_mem.2 ⟨by have := hci.le c.toNat (by omega); omega, hci.idem _ (by omega)⟩, clsG_mem.2 ⟨memsK_mem.2 ⟨c.toNat, by omega, rfl, by omega⟩, h3⟩, rfl⟩
  have hf : ∀ h, h ∈ hdsK (cmpR same W) same.length → HOk (clsG same (memsK (cmpR same W) same.length h)) H ∧ FreeH ap (clsG same (memsK (cmpR same W) same.length h)) H ∧ 0 ≤ kS wt (clsG same (memsK (cmpR same W) same.length h)) H := fun h hh => by
    have hm : memsK (cmpR same W) same.length h ∈ grpG same W := List.mem_map.2 ⟨h, hh, rfl⟩
    exact (hs _ hm).facts hsym (grp_facts hv hok hm).1
  have hin : ∀ c, isCl same c → isCl same (H c) ∧ cmpR same W (H c).toNat = cmpR same W c.toNat ∧ H (H c) = H c ∧ H c ≤ c := fun c hc => by
    obtain ⟨h, hh, hm, hr⟩ := hg c hc
    have k := (hf h hh).1
    have hmm := clsG_mem.1 (k.mem c hm)
    obtain ⟨j, hj, hrj, he⟩ := memsK_mem.1 hmm.1
    refine ⟨⟨by omega, by omega, hmm.2⟩, ?_, k.idem c hm, k.le c hm⟩
    rw [he, Int.toNat_natCast, hrj, hr]
  refine ⟨⟨fun c hc => (hin c hc).1, fun c hc => (hin c hc).2.2.1, fun c hc => (hin c hc).2.2.2, fun c hc => (hin c hc).2.1, fun c d hc hd e hne => ?_⟩, ?_⟩
  · obtain ⟨h, hh, hm, hr⟩ := hg c hc
    obtain ⟨h', hh', hm', hr'⟩ := hg d hd
    have h1 := (hin c hc).2.1
    have h2 := (hin d hd).2.1
    rw [e] at h1
    have : h = h' := by omega
    subst this
    exact (hf h hh).2.1 c hm d hm' e hne
  · rw [kS_groups hci.le hci.idem wt fun c hc => (hin c hc).2.1]
    have h0 : sm ((grpsK (cmpR same W) same.length).map fun _ => (0 : Int)) = 0 := sm_zero _ fun _ _ => rfl
    rw [← h0]
    refine sm_le _ _ fun g hgm => ?_
    obtain ⟨h, hh, rfl⟩ := List.mem_map.1 hgm
    exact (hf h hh).2.2
/-- What is kept, within classes and between them. -/
def inE (same : List Int) (edges : List Ed) : Int := sm (edges.map fun e => if at_ same e.a = at_ same e.b then e.w else 0)
theorem keep_sum {same : List Int} {edges : List Ed} (hv : ∀ i, i < same.length → 0 ≤ same.getD i default ∧ same.getD i default ≤ i ∧ same.getD (same.getD i default).toNat default = same.getD i default) (hl : ∀ e ∈ edges, 0 ≤ e.a ∧ 0 ≤ e.b ∧ e.a < same.length ∧ e.b < same.length) (H : Int → Int) :
    keepE edges (same.map H) = inE same edges + kS (wtM (gW same edges)) (clL same) H := by
  have hcl : ∀ x : Int, 0 ≤ x → x < same.length → isCl same (at_ same x) := fun x h0 h1 => by
    have := hv x.toNat (by omega)
    refine ⟨this.1, ?_, ?_⟩
    · unfold at_; omega
    · unfold at_; exact this.2.2
  have hat : ∀ x : Int, 0 ≤ x → x < same.length → at_ (same.map H) x = H (at_ same x) := fun x h0 h1 => by
    unfold at_; exact gmap _ _ _ (by omega)
  have hk : kS (wtM (gW same edges)) (clL same) H = sm (edges.map fun e => sm ((clL same).map fun c => sm ((clL same).map fun d => if c < d ∧ H c = H d then (if ofP same e c d then e.w else 0) else 0))) := by
    unfold kS
    have h1 : ∀ c d, (if c < d ∧ H c = H d then wtM (gW same edges) c d else 0) = sm (edges.map fun e => if c < d ∧ H c = H d then (if ofP same e c d then e.w else 0) else 0) := fun c d => by
      rw [gW_val]
      by_cases h : c < d ∧ H c = H d
      · rw [if_pos h]; exact sm_congr _ _ fun e _ => by rw [if_pos h]
      · rw [if_neg h]; exact (sm_zero _ fun e _ => by rw [if_neg h]).symm
    rw [sm_congr _ _ fun c _ => (sm_congr _ _ fun d _ => h1 c d).trans (sm_swap (fun d e => if c < d ∧ H c = H d then (if ofP same e c d then e.w else 0) else 0) (clL same) edges)]
    exact sm_swap (fun c e => sm ((clL same).map fun d => if c < d ∧ H c = H d then (if ofP same e c d then e.w else 0) else 0)) (clL same) edges
  rw [hk]
  unfold keepE inE
  rw [← sm_add]
  refine sm_congr _ _ fun e he => ?_
  obtain ⟨b1, b2, b3, b4⟩ := hl e he
  rw [hat _ b1 b3, hat _ b2 b4]
  have ca := hcl _ b1 b3
  have cb := hcl _ b2 b4
  have hof : ∀ c d, ofP same e c d ↔ at_ same e.a ≠ at_ same e.b ∧ ordF (at_ same e.a) (at_ same e.b) = (c, d) := fun c d => Iff.rfl
  generalize at_ same e.a = x at *
  generalize at_ same e.b = y at *
  by_cases hxy : x = y
  · subst hxy
    rw [if_pos rfl, if_pos rfl, sm_zero _ fun c _ => sm_zero _ fun d _ => ?_]
    · omega
    · rw [if_neg (show ¬ ofP same e c d from fun q => ((hof c d).1 q).1 rfl)]
      split <;> rfl
  · rw [if_neg hxy]
    have key : ∀ a b, a < b → ordF x y = (a, b) → isCl same a → isCl same b → sm ((clL same).map fun c => sm ((clL same).map fun d => if c < d ∧ H c = H d then (if ofP same e c d then e.w else 0) else 0)) = if H a = H b then e.w else 0 := fun a b hab ho ha hb => by
      rw [← sm_two (inc_nodup (clL_inc same)) (clL_mem.2 ha) (clL_mem.2 hb) (fun c d => if H c = H d then e.w else 0)]
      refine sm_congr _ _ fun c _ => sm_congr _ _ fun d _ => ?_
      by_cases hcd : c = a ∧ d = b
      · rw [if_pos hcd, if_pos (show ofP same e c d from (hof c d).2 ⟨hxy, by rw [ho, hcd.1, hcd.2]⟩)]
        by_cases hh : H c = H d
        · rw [if_pos (show c < d ∧ H c = H d from ⟨by omega, hh⟩), if_pos hh]
        · rw [if_neg (show ¬ (c < d ∧ H c = H d) from fun q => hh q.2), if_neg hh]
      · rw [if_neg hcd, if_neg (show ¬ ofP same e c d from fun q => hcd (by
          have := ((hof c d).1 q).2
          rw [ho, Prod.mk.injEq] at this
          exact ⟨this.1.symm, this.2.symm⟩))]
        split <;> rfl
    rcases Int.lt_or_gt_of_ne hxy with h | h
    · rw [key x y h ((ord_eq h).2 (.inl ⟨rfl, rfl⟩)) ca cb]; omega
    · rw [key y x h ((ord_eq h).2 (.inr ⟨rfl, rfl⟩)) cb ca]
      by_cases q : H x = H y
      · rw [if_pos q, if_pos q.symm]; omega
      · rw [if_neg q, if_neg (fun z => q z.symm)]; rfl
end Go.Proofs.Ytglaigeellpikaa

/- Cluster: a clustering is allowed, and costs no more than the classes. No program. -/
namespace Go.Proofs.Ytglaigeellpikaa
open Go.Vc

/-- What is given, when it is valid. -/
structure OkG (same : List Int) (edges : List Ed) (other : List (Int × Int)) : Prop where
  vb : validB same = true
  lk : linkB same.length edges = true
  pr : pairB same.length other = true
  v : ∀ i, i < same.length → 0 ≤ same.getD i default ∧ same.getD i default ≤ i ∧ same.getD (same.getD i default).toNat default = same.getD i default
  l : ∀ e ∈ edges, 0 ≤ e.a ∧ 0 ≤ e.b ∧ e.a < same.length ∧ e.b < same.length
  p : ∀ p ∈ other, 0 ≤ p.1 ∧ 0 ≤ p.2 ∧ p.1 < same.length ∧ p.2 < same.length
  ok : WOk same (gW same edges)
theorem okG {same : List Int} {edges : List Ed} {other : List (Int × Int)} (h : okB same edges other = true) : OkG same edges other := by
  obtain ⟨hv, hw⟩ := ok_facts h
  unfold okB at h
  rw [Bool.and_eq_true, Bool.and_eq_true] at h
  exact ⟨h.1, h.2.1, h.2.2, hv, fun e he => by have := (linkB_iff.1 h.2.1).2 e he; exact ⟨this.1, this.2.1, this.2.2.1, this.2.2.2.1⟩, pairB_iff.1 h.2.2, hw⟩
def wtG (same : List Int) (edges : List Ed) : Int → Int → Int := wtM (gW same edges)
def apG (same : List Int) (other : List (Int × Int)) : Int → Int → Bool := apM (gA same other)
def rG (same : List Int) (edges : List Ed) : Nat → Nat := cmpR same (gW same edges)
theorem cl_at {same : List Int} {edges : List Ed} {other : List (Int × Int)} (k : OkG same edges other) {x : Int} (h0 : 0 ≤ x) (h1 : x < same.length) : isCl same (at_ same x) ∧ at_ same x ≤ x := by
  have := k.v x.toNat (by omega)
  unfold isCl at_
  exact ⟨⟨this.1, by omega, this.2.2⟩, by omega⟩
theorem clu_glo {same : List Int} {edges : List Ed} {other : List (Int × Int)} {L : List Int} (k : OkG same edges other) (h : IsClu (wtM (gW same edges)) (apM (gA same other)) same (grpG same (gW same edges)) L) :
    ∃ H, L = same.map H ∧ GloH same (rG same edges) (apG same other) H ∧ 0 ≤ kS (wtG same edges) (clL same) H ∧ ∀ g ∈ grpG same (gW same edges), SolR (wtG same edges) (apG same other) (clsG same g) ((clsG same g).map H) := by
  obtain ⟨H, h1, h2⟩ := h
  have := glo_of (apM_comm _) k.v k.ok h1
  exact ⟨H, h2, this.1, this.2, h1⟩
theorem allow_iff {same ent : List Int} {other : List (Int × Int)} : allowB same other ent = true ↔ validB same = true ∧ pairB same.length other = true ∧ ent.length = same.length ∧ validB ent = true ∧ (∀ i, i < same.length → ent.getD i default = ent.getD (same.getD i default).toNat default) ∧ ∀ p ∈ other, at_ same p.1 ≠ at_ same p.2 → at_ ent p.1 ≠ at_ ent p.2 := by
  unfold allowB togAt badP
  simp only [Bool.and_eq_true, decide_eq_true_eq, List.all_eq_true, List.mem_range, Bool.not_eq_true', List.any_eq_false, and_assoc, not_and]
theorem cost_map {same : List Int} {edges : List Ed} {other : List (Int × Int)} (k : OkG same edges other) (hm : edges.length ≤ 1000) (H : Int → Int) : costW edges (same.map H) = posE edges - (inE same edges + kS (wtG same edges) (clL same) H) := by
  rw [cost_sum (by rw [List.length_map]; exact k.lk) hm, keep_sum k.v k.l]; rfl
theorem clu_len {same : List Int} {wt : Int → Int → Int} {ap : Int → Int → Bool} {gs : List (List Int)} {L : List Int} (h : IsClu wt ap same gs L) : L.length = same.length := by
  obtain ⟨H, _, rfl⟩ := h; exact List.length_map _
end Go.Proofs.Ytglaigeellpikaa
