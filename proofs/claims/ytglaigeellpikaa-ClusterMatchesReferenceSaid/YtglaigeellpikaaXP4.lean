/- Cluster: what clusters keep, as a sum; what a solution of one group is worth. No program. -/
import Derived.Test.YtglaigeellpikaaXD2
namespace Go.Proofs.Ytglaigeellpikaa
open Go.Vc

/-- What clusters keep together. -/
def kS (wt : Int → Int → Int) (cs : List Int) (h : Int → Int) : Int := sm (cs.map fun c => sm (cs.map fun d => if c < d ∧ h c = h d then wt c d else 0))
theorem kS_snoc {wt : Int → Int → Int} {l : List Int} {x : Int} {h : Int → Int} (hx : ∀ c ∈ l, c < x) : kS wt (l ++ [x]) h = kS wt l h + sm (l.map fun c => if h c = h x then wt c x else 0) := by
  unfold kS
  rw [List.map_append, sm_app]
  have e1 : sm ([x].map fun c => sm ((l ++ [x]).map fun d => if c < d ∧ h c = h d then wt c d else 0)) = 0 := by
    show sm _ + 0 = 0
    rw [sm_zero _ fun d hd => ?_]; rfl
    rcases List.mem_append.1 hd with hd | hd
    · have := hx d hd; rw [if_neg (by omega)]
    · rw [List.mem_singleton.1 hd, if_neg (by omega)]
  rw [e1, Int.add_zero, ← sm_add]
  refine sm_congr _ _ fun c hc => ?_
  rw [List.map_append, sm_app]
  show _ + (_ + 0) = _
  have := hx c hc
  rw [Int.add_zero]
  congr 1
  show (if c < x ∧ h c = h x then wt c x else 0) = _
  by_cases e : h c = h x
  · rw [if_pos ⟨this, e⟩, if_pos e]
  · rw [if_neg (fun q => e q.2), if_neg e]
theorem row_sm {wt : Int → Int → Int} {cs : List Int} {h : Int → Int} {m : Nat} (hm : m < cs.length) : ∀ k, k ≤ m → rowI wt cs (cs.map h) m k = sm ((cs.take k).map fun c => if h c = h cs[m] then wt c cs[m] else 0)
  | 0, _ => rfl
  | k + 1, hk => by
    have hkl : k < cs.length := by omega
    rw [List.take_succ_eq_append_getElem hkl, List.map_append, sm_app]
    show rowI wt cs (cs.map h) m k + _ = _ + (_ + 0)
    rw [row_sm hm k (by omega), Int.add_zero]
    simp only [List.getD, List.getElem?_map, List.getElem?_eq_getElem hm, List.getElem?_eq_getElem hkl, Option.map_some, Option.getD_some]
    congr 1
    by_cases e : h cs[m] = h cs[k]
    · rw [if_pos e, if_pos e.symm]
    · rw [if_neg e, if_neg (fun x => e x.symm)]
theorem kept_sm {wt : Int → Int → Int} {cs : List Int} (hc : Inc cs) {h : Int → Int} : keptF wt cs (cs.map h) = kS wt cs h := by
  have key : ∀ m, m ≤ cs.length → keptI wt cs (cs.map h) m = kS wt (cs.take m) h := by
    intro m
    induction m with
    | zero => intro _; rfl
    | succ m ih =>
      intro hm
      have hml : m < cs.length := by omega
      rw [List.take_succ_eq_append_getElem hml, kS_snoc, ← ih (by omega), ← row_sm hml m (Nat.le_refl _)]
      · rfl
      · intro c hcm
        obtain ⟨j, hj, rfl⟩ := List.getElem_of_mem hcm
        rw [List.length_take] at hj
        rw [List.getElem_take]
        exact List.pairwise_iff_getElem.1 hc j m (by omega) hml (by omega)
  have := key cs.length (Nat.le_refl _)
  rw [List.take_length] at this
  exact this
end Go.Proofs.Ytglaigeellpikaa

/- Cluster: weights between classes, decisions, costs: as sums. No program. -/
namespace Go.Proofs.Ytglaigeellpikaa
open Go.Vc

theorem gW_snoc (same : List Int) (l : List Ed) (x : Ed) : gW same (l ++ [x]) = gWs same (gW same l) x := by unfold gW; rw [List.foldl_append]; rfl
theorem gA_snoc (same : List Int) (l : List (Int × Int)) (x : Int × Int) : gA same (l ++ [x]) = gAs same (gA same l) x := by unfold gA; rw [List.foldl_append]; rfl
/-- An edge speaks of two classes. -/
def ofP (same : List Int) (e : Ed) (a b : Int) : Prop := at_ same e.a ≠ at_ same e.b ∧ ordF (at_ same e.a) (at_ same e.b) = (a, b)
instance (same : List Int) (e : Ed) (a b : Int) : Decidable (ofP same e a b) := by unfold ofP; infer_instance
theorem gW_val (same : List Int) (edges : List Ed) (a b : Int) : wtM (gW same edges) a b = sm (edges.map fun e => if ofP same e a b then e.w else 0) := by
  refine rev_ind (M := fun edges => wtM (gW same edges) a b = sm (edges.map fun e => if ofP same e a b then e.w else 0)) rfl (fun l x ih => ?_) edges
  rw [List.map_append, sm_app, ← ih, gW_snoc]
  show _ = _ + ((if ofP same x a b then x.w else 0) + 0)
  unfold wtM gWs
  by_cases h : at_ same x.a ≠ at_ same x.b
  · rw [if_pos h, tget_tset]
    by_cases e : (a, b) = ordF (at_ same x.a) (at_ same x.b)
    · rw [if_pos e, if_pos (show ofP same x a b from ⟨h, e.symm⟩), e]; simp
    · rw [if_neg e, if_neg (show ¬ ofP same x a b from fun q => e q.2.symm)]; simp
  · rw [if_neg h, if_neg (show ¬ ofP same x a b from fun q => h q.1)]; simp
theorem gA_true (same : List Int) (other : List (Int × Int)) (a b : Int) : apM (gA same other) a b = true ↔ ∃ p ∈ other, at_ same p.1 ≠ at_ same p.2 ∧ ordF (at_ same p.1) (at_ same p.2) = ordF a b := by
  refine rev_ind (M := fun other => apM (gA same other) a b = true ↔ ∃ p ∈ other, at_ same p.1 ≠ at_ same p.2 ∧ ordF (at_ same p.1) (at_ same p.2) = ordF a b) (by simp [gA, apM, tget]) (fun l x ih => ?_) other
  rw [gA_snoc]
  have hs : (∃ p ∈ l ++ [x], at_ same p.1 ≠ at_ same p.2 ∧ ordF (at_ same p.1) (at_ same p.2) = ordF a b) ↔ (∃ p ∈ l, at_ same p.1 ≠ at_ same p.2 ∧ ordF (at_ same p.1) (at_ same p.2) = ordF a b) ∨ (at_ same x.1 ≠ at_ same x.2 ∧ ordF (at_ same x.1) (at_ same x.2) = ordF a b) := by
    constructor
    · rintro ⟨p, hp, h⟩
      rcases List.mem_append.1 hp with hp | hp
      · exact .inl ⟨p, hp, h⟩
      · rw [List.mem_singleton.1 hp] at h; exact .inr h
    · rintro (⟨p, hp, h⟩ | h)
      · exact ⟨p, List.mem_append_left _ hp, h⟩
      · exact ⟨x, by simp, h⟩
  rw [hs, ← ih]
  unfold apM gAs
  by_cases h : at_ same x.1 ≠ at_ same x.2
  · rw [if_pos h, tget_tset]
    by_cases e : ordF a b = ordF (at_ same x.1) (at_ same x.2)
    · rw [if_pos e]; simp [h, e]
    · rw [if_neg e]
      exact ⟨.inl, fun q => q.elim id fun q => absurd q.2.symm e⟩
  · rw [if_neg h]
    exact ⟨.inl, fun q => q.elim id fun q => absurd q.1 h⟩
theorem ordF_comm (a b : Int) : ordF a b = ordF b a := by unfold ordF; rw [Prod.mk.injEq]; omega
/-- What contradicts is what is positive but for what is kept. -/
def posE (edges : List Ed) : Int := sm (edges.map fun e => max e.w 0)
def keepE (edges : List Ed) (ent : List Int) : Int := sm (edges.map fun e => if at_ ent e.a = at_ ent e.b then e.w else 0)
theorem cost_sum {edges : List Ed} {ent : List Int} (hl : linkB ent.length edges = true) (hm : edges.length ≤ 1000) : costW edges ent = posE edges - keepE edges ent := by
  have hb := (linkB_iff.1 hl).2
  have key : ∀ k, k ≤ edges.length → costW (edges.take k) ent = posE (edges.take k) - keepE (edges.take k) ent ∧ 0 ≤ costW (edges.take k) ent ∧ costW (edges.take k) ent ≤ 1000000000 * (k : Int) := by
    intro k
    induction k with
    | zero => intro _; exact ⟨rfl, Int.le_refl _, Int.le_refl _⟩
    | succ k ih =>
      intro hk
      obtain ⟨i1, i2, i3⟩ := ih (by omega)
      have hkl : k < edges.length := by omega
      have he := hb _ (getD_mem (l := edges) hkl)
      have hg : edges.getD k default = edges[k] := by simp [List.getD, hkl]
      rw [costW_succ hkl, List.take_succ_eq_append_getElem hkl]
      unfold posE keepE at i1 ⊢
      rw [List.map_append, List.map_append, sm_app, sm_app]
      rw [hg] at he ⊢
      have hk2 : ((k + 1 : Nat) : Int) = (k : Int) + 1 := by omega
      show _ = _ + (max edges[k].w 0 + 0) - (_ + ((if at_ ent edges[k].a = at_ ent edges[k].b then edges[k].w else 0) + 0)) ∧ _
      unfold costS
      rw [if_pos ⟨he.1, he.2.1, he.2.2.1, he.2.2.2.1⟩]
      generalize costW (edges.take k) ent = s at *
      by_cases e : at_ ent edges[k].a = at_ ent edges[k].b
      · rw [if_neg (fun q => q.2 e), if_pos e]
        by_cases hn : edges[k].w < 0
        · rw [if_pos ⟨hn, e⟩, wrap_i64 (by omega) (by omega)]; omega
        · rw [if_neg (fun q => hn q.1)]; omega
      · rw [if_neg e]
        by_cases hp : edges[k].w > 0
        · rw [if_pos ⟨hp, e⟩, wrap_i64 (by omega) (by omega)]; omega
        · rw [if_neg (fun q => hp q.1), if_neg (fun q => e q.2)]; omega
  have := (key edges.length (Nat.le_refl _)).1
  rwa [List.take_length] at this
theorem sm_two {cs : List Int} (hn : cs.Nodup) {a b : Int} (ha : a ∈ cs) (hb : b ∈ cs) (f : Int → Int → Int) : sm (cs.map fun c => sm (cs.map fun d => if c = a ∧ d = b then f c d else 0)) = f a b := by
  have e : ∀ c, sm (cs.map fun d => if c = a ∧ d = b then f c d else 0) = if c = a then f c b else 0 := fun c => by
    by_cases h : c = a
    · rw [if_pos h, sm_congr (fun d => if c = a ∧ d = b then f c d else 0) (fun d => if d = b then f c d else 0) fun d _ => by simp [h], sm_one (fun d => f c d) b hn hb]
    · rw [if_neg h]; exact sm_zero _ fun d _ => by rw [if_neg (fun e => h e.1)]
  rw [sm_congr _ _ fun c _ => e c]
  exact sm_one (fun c => f c b) a hn ha
end Go.Proofs.Ytglaigeellpikaa

/- Cluster: what a clustering is, over all classes. No program. -/
namespace Go.Proofs.Ytglaigeellpikaa
open Go.Vc

def isCl (same : List Int) (c : Int) : Prop := 0 ≤ c ∧ c < same.length ∧ at_ same c = c
/-- All classes. -/
def clL (same : List Int) : List Int := ((List.range same.length).map fun i => ((i : Nat) : Int)).filter fun p => !decide (at_ same p ≠ p)
theorem clL_mem {same : List Int} {c : Int} : c ∈ clL same ↔ isCl same c := by
  unfold clL isCl
  rw [List.mem_filter, List.mem_map]
  constructor
  · rintro ⟨⟨i, hi, rfl⟩, h⟩
    rw [List.mem_range] at hi
    exact ⟨by omega, by omega, by simpa using h⟩
  · rintro ⟨h1, h2, h3⟩
    exact ⟨⟨c.toNat, List.mem_range.2 (by omega), by omega⟩, by simpa using h3⟩
theorem clL_inc (same : List Int) : Inc (clL same) := by
  unfold clL Inc
  refine List.Pairwise.sublist List.filter_sublist ?_
  rw [List.pairwise_map]
  refine List.Pairwise.imp (fun {a b} h => ?_) List.pairwise_lt_range
  show (a : Int) < (b : Int)
  omega
theorem sm_cl (same : List Int) (f : Int → Int) : sm ((clL same).map f) = sm ((List.range same.length).map fun i => if at_ same (i : Nat) = ((i : Nat) : Int) then f ((i : Nat) : Int) else 0) := by
  unfold clL
  rw [sm_filter, List.map_map]
  refine sm_congr _ _ fun i _ => ?_
  show (if (!decide (at_ same (i : Nat) ≠ (i : Nat))) = true then _ else _) = _
  by_cases h : at_ same (i : Nat) = ((i : Nat) : Int)
  · rw [if_pos (by simpa using h), if_pos h]
  · rw [if_neg (by simpa using h), if_neg h]
theorem sm_clsG (same : List Int) (r : Nat → Nat) (h : Nat) (f : Int → Int) : sm ((clsG same (memsK r same.length h)).map f) = sm ((clL same).map fun c => if r c.toNat = h then f c else 0) := by
  rw [sm_cl]
  unfold clsG memsK
  rw [sm_filter, List.map_map, sm_filter]
  refine sm_congr _ _ fun i _ => ?_
  show (if decide (r i = h) = true then (if (!decide (at_ same (i : Nat) ≠ (i : Nat))) = true then f (i : Nat) else 0) else 0) = if at_ same (i : Nat) = ((i : Nat) : Int) then (if r ((i : Nat) : Int).toNat = h then f (i : Nat) else 0) else 0
  rw [Int.toNat_natCast]
  by_cases h1 : r i = h <;> by_cases h2 : at_ same (i : Nat) = ((i : Nat) : Int) <;> simp [h1, h2]
/-- What is kept, within classes and between them. -/
def inE (same : List Int) (edges : List Ed) : Int := sm (edges.map fun e => if at_ same e.a = at_ same e.b then e.w else 0)
theorem keep_sum {same : List Int} {edges : List Ed} (hv : ∀ i, i < same.length → 0 ≤ same.getD i default ∧ same.getD i default ≤ i ∧ same.getD (same.getD i default).toNat default = same.getD i default) (hl : ∀ e ∈ edges, 0 ≤ e.a ∧ 0 ≤ e.b ∧ e.a < same.length ∧ e.b < same.length) (H : Int → Int) :
    keepE edges (same.map H) = inE same edges + kS (wtM (gW same edges)) (clL same) H := by
  have hcl : ∀ x : Int, 0 ≤ x → x < same.length → isCl same (at_ same x) := fun x h0 h1 => by
    have := hv x.toNat (by omega)
    refine ⟨this.1, ?_, ?_⟩
    · unfold at_; omega
    · unfold at_; exact this.2.2
  have hat : ∀ x : Int, 0 ≤ x → x < same.length → at_ (same.map H) x = H (at_ same x) := fun x h0 h1 => by
    unfold at_; exact gmap _ _ _ (by omega)
  have hk : kS (wtM (gW same edges)) (clL same) H = sm (edges.map fun e => sm ((clL same).map fun c => sm ((clL same).map fun d => if c < d ∧ H c = H d then (if ofP same e c d then e.w else 0) else 0))) := by
    unfold kS
    have h1 : ∀ c d, (if c < d ∧ H c = H d then wtM (gW same edges) c d else 0) = sm (edges.map fun e => if c < d ∧ H c = H d then (if ofP same e c d then e.w else 0) else 0) := fun c d => by
      rw [gW_val]
      by_cases h : c < d ∧ H c = H d
      · rw [if_pos h]; exact sm_congr _ _ fun e _ => by rw [if_pos h]
      · rw [if_neg h]; exact (sm_zero _ fun e _ => by rw [if_neg h]).symm
    rw [sm_congr _ _ fun c _ => (sm_congr _ _ fun d _ => h1 c d).trans (sm_swap (fun d e => if c < d ∧ H c = H d then (if ofP same e c d then e.w else 0) else 0) (clL same) edges)]
    exact sm_swap (fun c e => sm ((clL same).map fun d => if c < d ∧ H c = H d then (if ofP same e c d then e.w else 0) else 0)) (clL same) edges
  rw [hk]
  unfold keepE inE
  rw [← sm_add]
  refine sm_congr _ _ fun e he => ?_
  obtain ⟨b1, b2, b3, b4⟩ := hl e he
  rw [hat _ b1 b3, hat _ b2 b4]
  have ca := hcl _ b1 b3
  have cb := hcl _ b2 b4
  have hof : ∀ c d, ofP same e c d ↔ at_ same e.a ≠ at_ same e.b ∧ ordF (at_ same e.a) (at_ same e.b) = (c, d) := fun c d => Iff.rfl
  generalize at_ same e.a = x at *
  generalize at_ same e.b = y at *
  by_cases hxy : x = y
  · subst hxy
    rw [if_pos rfl, if_pos rfl, sm_zero _ fun c _ => sm_zero _ fun d _ => ?_]
    · omega
    · rw [if_neg (show ¬ ofP same e c d from fun q => ((hof c d).1 q).1 rfl)]
      split <;> rfl
  · rw [if_neg hxy]
    have key : ∀ a b, a < b → ordF x y = (a, b) → isCl same a → isCl same b → sm ((clL same).map fun c => sm ((clL same).map fun d => if c < d ∧ H c = H d then (if ofP same e c d then e.w else 0) else 0)) = if H a = H b then e.w else 0 := fun a b hab ho ha hb => by
      rw [← sm_two (inc_nodup (clL_inc same)) (clL_mem.2 ha) (clL_mem.2 hb) (fun c d => if H c = H d then e.w else 0)]
      refine sm_congr _ _ fun c _ => sm_congr _ _ fun d _ => ?_
      by_cases hcd : c = a ∧ d = b
      · rw [if_pos hcd, if_pos (show ofP same e c d from (hof c d).2 ⟨hxy, by rw [ho, hcd.1, hcd.2]⟩)]
        by_cases hh : H c = H d
        · rw [if_pos (show c < d ∧ H c = H d from ⟨by omega, hh⟩), if_pos hh]
        · rw [if_neg (show ¬ (c < d ∧ H c = H d) from fun q => hh q.2), if_neg hh]
      · rw [if_neg hcd, if_neg (show ¬ ofP same e c d from fun q => hcd (by
          have := ((hof c d).1 q).2
          rw [ho, Prod.mk.injEq] at this
          exact ⟨this.1.symm, this.2.symm⟩))]
        split <;> rfl
    rcases Int.lt_or_gt_of_ne hxy with h | h
    · rw [key x y h ((ord_eq h).2 (.inl ⟨rfl, rfl⟩)) ca cb]; omega
    · rw [key y x h ((ord_eq h).2 (.inr ⟨rfl, rfl⟩)) cb ca]
      by_cases q : H x = H y
      · rw [if_pos q, if_pos q.symm]; omega
      · rw [if_neg q, if_neg (fun z => q z.symm)]; rfl
end Go.Proofs.Ytglaigeellpikaa

/- Cluster: a clustering is allowed, and costs no more than the classes. No program. -/
namespace Go.Proofs.Ytglaigeellpikaa
open Go.Vc

/-- What is given, when it is valid. -/
structure OkG (same : List Int) (edges : List Ed) (other : List (Int × Int)) : Prop where
  vb : validB same = true
  lk : linkB same.length edges = true
  pr : pairB same.length other = true
  v : ∀ i, i < same.length → 0 ≤ same.getD i default ∧ same.getD i default ≤ i ∧ same.getD (same.getD i default).toNat default = same.getD i default
  l : ∀ e ∈ edges, 0 ≤ e.a ∧ 0 ≤ e.b ∧ e.a < same.length ∧ e.b < same.length
  p : ∀ p ∈ other, 0 ≤ p.1 ∧ 0 ≤ p.2 ∧ p.1 < same.length ∧ p.2 < same.length
  ok : WOk same (gW same edges)
theorem okG {same : List Int} {edges : List Ed} {other : List (Int × Int)} (h : okB same edges other = true) : OkG same edges other := by
  obtain ⟨hv, hw⟩ := ok_facts h
  unfold okB at h
  rw [Bool.and_eq_true, Bool.and_eq_true] at h
  exact ⟨h.1, h.2.1, h.2.2, hv, fun e he => by have := (linkB_iff.1 h.2.1).2 e he; exact ⟨this.1, this.2.1, this.2.2.1, this.2.2.2.1⟩, pairB_iff.1 h.2.2, hw⟩
def wtG (same : List Int) (edges : List Ed) : Int → Int → Int := wtM (gW same edges)
def apG (same : List Int) (other : List (Int × Int)) : Int → Int → Bool := apM (gA same other)
def rG (same : List Int) (edges : List Ed) : Nat → Nat := cmpR same (gW same edges)
theorem cl_at {same : List Int} {edges : List Ed} {other : List (Int × Int)} (k : OkG same edges other) {x : Int} (h0 : 0 ≤ x) (h1 : x < same.length) : isCl same (at_ same x) ∧ at_ same x ≤ x := by
  have := k.v x.toNat (by omega)
  unfold isCl at_
  exact ⟨⟨this.1, by omega, this.2.2⟩, by omega⟩
theorem at_map {same : List Int} (H : Int → Int) {x : Int} (h0 : 0 ≤ x) (h1 : x < same.length) : at_ (same.map H) x = H (at_ same x) := by unfold at_; exact gmap _ _ _ (by omega)
theorem allow_iff {same ent : List Int} {other : List (Int × Int)} : allowB same other ent = true ↔ validB same = true ∧ pairB same.length other = true ∧ ent.length = same.length ∧ validB ent = true ∧ (∀ i, i < same.length → ent.getD i default = ent.getD (same.getD i default).toNat default) ∧ ∀ p ∈ other, at_ same p.1 ≠ at_ same p.2 → at_ ent p.1 ≠ at_ ent p.2 := by
  unfold allowB togAt badP
  simp only [Bool.and_eq_true, decide_eq_true_eq, List.all_eq_true, List.mem_range, Bool.not_eq_true', List.any_eq_false, and_assoc, not_and]
theorem cost_map {same : List Int} {edges : List Ed} {other : List (Int × Int)} (k : OkG same edges other) (hm : edges.length ≤ 1000) (H : Int → Int) : costW edges (same.map H) = posE edges - (inE same edges + kS (wtG same edges) (clL same) H) := by
  rw [cost_sum (by rw [List.length_map]; exact k.lk) hm, keep_sum k.v k.l]; rfl
theorem clu_len {same : List Int} {wt : Int → Int → Int} {ap : Int → Int → Bool} {gs : List (List Int)} {L : List Int} (h : IsClu wt ap same gs L) : L.length = same.length := by
  obtain ⟨H, _, rfl⟩ := h; exact List.length_map _
end Go.Proofs.Ytglaigeellpikaa
