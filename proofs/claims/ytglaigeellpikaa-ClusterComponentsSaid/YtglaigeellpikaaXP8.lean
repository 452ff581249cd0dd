/- Cluster: what a solution depends on. No program. -/
import Derived.Test.YtglaigeellpikaaXP4
namespace Go.Proofs.Ytglaigeellpikaa
open Go.Vc

section
variable {wt wt' : Int → Int → Int} {ap ap' : Int → Int → Bool} {cs : List Int}
theorem kS_wt (hw : ∀ c ∈ cs, ∀ d ∈ cs, c < d → wt c d = wt' c d) (h : Int → Int) : kS wt cs h = kS wt' cs h := by
  unfold kS
  refine sm_congr _ _ fun c hc => sm_congr _ _ fun d hd => ?_
  by_cases e : c < d ∧ h c = h d
  · rw [if_pos e, if_pos e, hw c hc d hd e.1]
  · rw [if_neg e, if_neg e]
/-- A list of heads is a map of the classes. -/
theorem heads_map (hn : cs.Nodup) {hs : List Int} (hl : hs.length = cs.length) : ∃ h : Int → Int, hs = cs.map h := by
  refine ⟨fun c => hs.getD (cs.idxOf c) default, List.ext_getElem (by rw [List.length_map]; exact hl) fun i h1 h2 => ?_⟩
  rw [List.getElem_map]
  rw [List.length_map] at h2
  have : cs.idxOf cs[i] = i := by
    have h3 : cs.idxOf cs[i] < cs.length := List.idxOf_lt_length_iff.2 (List.getElem_mem h2)
    have h4 : cs[cs.idxOf cs[i]] = cs[i] := List.getElem_idxOf h3
    have hp := List.pairwise_iff_getElem.1 hn
    rcases Nat.lt_trichotomy (cs.idxOf cs[i]) i with h | h | h
    · exact absurd h4 (hp _ _ h3 h2 h)
    · exact h
    · exact absurd h4.symm (hp _ _ h2 h3 h)
  rw [this]
  simp [List.getD, h1]
theorem kept_wt (hinc : Inc cs) (hw : ∀ c ∈ cs, ∀ d ∈ cs, c < d → wt c d = wt' c d) {hs : List Int} (hl : hs.length = cs.length) : keptF wt cs hs = keptF wt' cs hs := by
  obtain ⟨h, rfl⟩ := heads_map (inc_nodup hinc) hl
  rw [kept_sm hinc, kept_sm hinc, kS_wt hw]
theorem part_ap (ha : ∀ c ∈ cs, ∀ d ∈ cs, ap' c d = true → ap c d = true) {hs : List Int} (h : IsPart ap cs hs) : IsPart ap' cs hs := by
  refine ⟨h.len, h.head, fun i hi k hk e => ?_⟩
  cases h1 : ap' (cs.getD k default) (cs.getD i default) with
  | false => rfl
  | true =>
    have := ha _ (getD_mem (by omega)) _ (getD_mem hi) h1
    rw [h.free i hi k hk e] at this; cases this
theorem btw_wt (hw : ∀ c ∈ cs, ∀ d ∈ cs, c < d → wt c d = wt' c d) (h : Int → Int) (a b : Int) : btw wt cs h a b = btw wt' cs h a b := by
  unfold btw
  refine sm_congr _ _ fun c hc => sm_congr _ _ fun d hd => ?_
  have : wtS wt c d = wtS wt' c d := by
    unfold wtS
    by_cases h1 : c < d
    · rw [if_pos h1, if_pos h1, hw c hc d hd h1]
    · rw [if_neg h1, if_neg h1]
      by_cases h2 : d < c
      · rw [if_pos h2, if_pos h2, hw d hd c hc h2]
      · rw [if_neg h2, if_neg h2]
  rw [this]
theorem apH_ap (ha : ∀ c ∈ cs, ∀ d ∈ cs, ap c d = ap' c d) (h : Int → Int) (a b : Int) : apH ap cs h a b ↔ apH ap' cs h a b := by
  constructor
  · rintro ⟨c, hc, d, hd, h1, h2, h3⟩
    exact ⟨c, hc, d, hd, h1, h2, by rw [← ha c hc d hd]; exact h3⟩
  · rintro ⟨c, hc, d, hd, h1, h2, h3⟩
    exact ⟨c, hc, d, hd, h1, h2, by rw [ha c hc d hd]; exact h3⟩
theorem cand_congr (hw : ∀ c ∈ cs, ∀ d ∈ cs, c < d → wt c d = wt' c d) (ha : ∀ c ∈ cs, ∀ d ∈ cs, ap c d = ap' c d) {h : Int → Int} {p : Int × Int} (k : Cand wt ap cs h p) : Cand wt' ap' cs h p :=
  ⟨k.m1, k.m2, k.h1, k.h2, k.lt, fun q => k.free ((apH_ap ha h _ _).2 q), by rw [← btw_wt hw]; exact k.pos⟩
theorem grd_congr (hw : ∀ c ∈ cs, ∀ d ∈ cs, c < d → wt c d = wt' c d) (ha : ∀ c ∈ cs, ∀ d ∈ cs, ap c d = ap' c d) {h h' : Int → Int} (g : Grd wt ap cs h h') : Grd wt' ap' cs h h' := by
  have hw' : ∀ c ∈ cs, ∀ d ∈ cs, c < d → wt' c d = wt c d := fun c hc d hd e => (hw c hc d hd e).symm
  have ha' : ∀ c ∈ cs, ∀ d ∈ cs, ap' c d = ap c d := fun c hc d hd => (ha c hc d hd).symm
  induction g with
  | stop h hn => exact .stop h fun p k => hn p (cand_congr hw' ha' k)
  | step h h' p hp _ ih => exact .step h h' p ⟨cand_congr hw ha hp.cand, fun q k => by rw [← btw_wt hw, ← btw_wt hw]; exact hp.best q (cand_congr hw' ha' k)⟩ ih
theorem sol_congr (hinc : Inc cs) (hw : ∀ c ∈ cs, ∀ d ∈ cs, c < d → wt c d = wt' c d) (ha : ∀ c ∈ cs, ∀ d ∈ cs, ap c d = ap' c d) {hs : List Int} (h : SolR wt ap cs hs) : SolR wt' ap' cs hs := by
  unfold SolR at h ⊢
  split
  · rename_i hl
    rw [if_pos hl] at h
    refine ⟨part_ap (fun c hc d hd e => by rw [ha c hc d hd]; exact e) h.part, fun g hg => ?_⟩
    have := h.best g (part_ap (fun c hc d hd e => by rw [← ha c hc d hd]; exact e) hg)
    rw [← kept_wt hinc hw hg.len, ← kept_wt hinc hw h.part.len]; exact this
  · rename_i hl
    rw [if_neg hl] at h
    obtain ⟨h1, h2, h3⟩ := h
    exact ⟨h1, grd_congr hw ha h2, h3⟩
end
/-! ### The components depend on which weights are positive. -/
theorem gW_nodup (same : List Int) (edges : List Ed) : ((gW same edges).map (·.1)).Nodup := by
  refine rev_ind (M := fun edges => ((gW same edges).map (·.1)).Nodup) (by simp [gW]) (fun l x ih => ?_) edges
  rw [gW_snoc]
  unfold gWs
  split
  · rw [tset_keys]
    split
    · exact ih
    · rename_i hm
      exact List.nodup_append.2 ⟨ih, by simp, fun a ha b hb => by rw [List.mem_singleton] at hb; rw [hb]; exact fun e => hm (e ▸ ha)⟩
  · exact ih
theorem jC_wt (same : List Int) (edges : List Ed) {p : Nat × Nat} : p ∈ jC same (gW same edges) ↔ (∃ i, i < same.length ∧ p = (i, (same.getD i default).toNat)) ∨ ∃ a b, 0 < wtG same edges a b ∧ p = (a.toNat, b.toNat) := by
  rw [jC_mem]
  refine or_congr Iff.rfl ⟨?_, ?_⟩
  · rintro ⟨q, h1, h2, h3⟩
    refine ⟨q.1.1, q.1.2, ?_, h3⟩
    unfold wtG wtM
    rw [show (q.1.1, q.1.2) = q.1 from rfl, (tget_mem (gW_nodup same edges)).2 (show (q.1, q.2) ∈ gW same edges from h1)]
    exact h2
  · rintro ⟨a, b, h1, h3⟩
    unfold wtG wtM at h1
    cases ht : tget (gW same edges) (a, b) with
    | none => rw [ht] at h1; simp at h1
    | some v => exact ⟨((a, b), v), (tget_mem (gW_nodup same edges)).1 ht, by rw [ht] at h1; exact h1, h3⟩
theorem grps_congr {r r' : Nat → Nat} {n : Nat} (h : ∀ i, i < n → r i = r' i) : grpsK r n = grpsK r' n := by
  have h1 : ∀ k, memsK r n k = memsK r' n k := fun k => by
    unfold memsK
    rw [List.filter_congr fun i hi => by rw [h i (List.mem_range.1 hi)]]
  have h2 : hdsK r n = hdsK r' n := by
    unfold hdsK
    exact List.filter_congr fun i hi => by rw [h i (List.mem_range.1 hi)]
  unfold grpsK
  rw [h2]
  exact List.map_congr_left fun k _ => h1 k
theorem comp_congr {same : List Int} {edges edges' : List Ed} {other other' : List (Int × Int)} (k : OkG same edges other) (k' : OkG same edges' other') (hw : ∀ a b, 0 < wtG same edges a b ↔ 0 < wtG same edges' a b) : (∀ i, i < same.length → rG same edges i = rG same edges' i) ∧ grpG same (gW same edges) = grpG same (gW same edges') := by
  have h1 := cmpR_is k.v k.ok
  have h2 := cmpR_is k'.v k'.ok
  have hj : ∀ p, p ∈ jC same (gW same edges) ↔ p ∈ jC same (gW same edges') := fun p => by
    rw [jC_wt, jC_wt]
    refine or_congr Iff.rfl ⟨?_, ?_⟩
    · rintro ⟨a, b, h, e⟩; exact ⟨a, b, (hw a b).1 h, e⟩
    · rintro ⟨a, b, h, e⟩; exact ⟨a, b, (hw a b).2 h, e⟩
  have hu := h1.unique h2 (fun p hp => h2.join p ((hj p).1 hp)) (fun p hp => h1.join p ((hj p).2 hp))
  exact ⟨hu, grps_congr hu⟩
/-- Two inputs that lead to the same clustering. -/
theorem clu_congr {same : List Int} {edges edges' : List Ed} {other other' : List (Int × Int)} {L : List Int} (k : OkG same edges other) (k' : OkG same edges' other') (hp : ∀ a b, 0 < wtG same edges a b ↔ 0 < wtG same edges' a b)
    (hs : ∀ g ∈ grpG same (gW same edges), ∀ hs, SolR (wtG same edges) (apG same other) (clsG same g) hs → SolR (wtG same edges') (apG same other') (clsG same g) hs)
    (h : IsClu (wtM (gW same edges)) (apM (gA same other)) same (grpG same (gW same edges)) L) : IsClu (wtM (gW same edges')) (apM (gA same other')) same (grpG same (gW same edges')) L := by
  obtain ⟨H, h1, h2⟩ := h
  rw [← (comp_congr k k' hp).2]
  exact ⟨H, fun g hg => hs g hg _ (h1 g hg), h2⟩
theorem cluR_eq {edges edges' : List Ed} {same : List Int} {other other' : List (Int × Int)} {L L' : List Int} {e e' : Int} (h : CluR edges same other L e) (h' : CluR edges' same other' L' e') (hb : okB same edges other = okB same edges' other')
    (hc : OkG same edges other → OkG same edges' other' → IsClu (wtM (gW same edges)) (apM (gA same other)) same (grpG same (gW same edges)) L → IsClu (wtM (gW same edges')) (apM (gA same other')) same (grpG same (gW same edges')) L) : L = L' ∧ e = e' := by
  unfold CluR at h h'
  cases ho : okB same edges other with
  | false =>
    rw [ho, if_neg (by decide)] at h
    rw [← hb, ho, if_neg (by decide)] at h'
    exact ⟨h.2.trans h'.2.symm, h.1.trans h'.1.symm⟩
  | true =>
    rw [ho, if_pos rfl] at h
    have ho' : okB same edges' other' = true := by rw [← hb, ho]
    rw [ho', if_pos rfl] at h'
    have k' := okG ho'
    exact ⟨(hc (okG ho) k' h.2).unique (grpG_cov k'.v k'.ok) h'.2, h.1.trans h'.1.symm⟩
end Go.Proofs.Ytglaigeellpikaa

/- Cluster: deciding that two records of different entities are different. -/
namespace Go.Proofs.Ytglaigeellpikaa
open Go.Vc

end Go.Proofs.Ytglaigeellpikaa

/- Cluster: the evidence, given otherwise. -/
namespace Go.Proofs.Ytglaigeellpikaa
open Go.Vc

end Go.Proofs.Ytglaigeellpikaa

/- Cluster: without weights against it and without decisions the entities are the components. -/
namespace Go.Proofs.Ytglaigeellpikaa
open Go.Vc

/-- The lists of the components, as they lie. -/
structure CmpL (same : List Int) (edges : List Ed) (z : List Sl) : Prop where
  at_ : ∀ i, i < z.length → ∃ h, h < same.length ∧ rG same edges h = h ∧ (z.getD i default).l = memsK (rG same edges) same.length h
theorem cmpL {same : List Int} {edges : List Ed} {other : List (Int × Int)} (k : OkG same edges other) {z : List Sl} (h : vals z = compsF same edges) : CmpL same edges z ∧ vals z = grpG same (gW same edges) := by
  have h2 : vals z = grpG same (gW same edges) := by rw [h]; unfold compsF; rw [if_pos ⟨k.vb, k.lk⟩]; rfl
  refine ⟨⟨fun i hi => ?_⟩, h2⟩
  have hl : i < (vals z).length := by unfold vals; rw [List.length_map]; exact hi
  have e1 : (z.getD i default).l = (vals z).getD i default := (gmap (·.l) z i hi).symm
  have hm : (vals z).getD i default ∈ grpG same (gW same edges) := by rw [← h2]; exact getD_mem hl
  obtain ⟨h, hh, he⟩ := List.mem_map.1 hm
  obtain ⟨a, b⟩ := hdsK_mem.1 hh
  exact ⟨h, a, b, by rw [e1, ← he]; rfl⟩
theorem mem_first {r : Nat → Nat} {n h : Nat} (hle : ∀ i, i < n → r i ≤ i) (hh : h < n) (hr : r h = h) : (memsK r n h).getD 0 default = (h : Int) ∧ 0 < (memsK r n h).length := by
  have hm : (h : Int) ∈ memsK r n h := memsK_mem.2 ⟨h, hh, hr, rfl⟩
  have hl := List.length_pos_of_mem hm
  refine ⟨?_, hl⟩
  obtain ⟨i, hi, hi2⟩ := List.getElem_of_mem hm
  have h1 : (memsK r n h).getD 0 default ≤ (h : Int) := by
    rw [← hi2, show (memsK r n h)[i] = (memsK r n h).getD i default by simp [List.getD, hi]]
    rcases Nat.eq_zero_or_pos i with e | e
    · rw [e]; exact Int.le_refl _
    · exact Int.le_of_lt (inc_at (memsK_inc r n h) e hi)
  obtain ⟨j, hj, hj2, hj3⟩ := memsK_mem.1 (getD_mem hl)
  have := hle j hj
  omega
end Go.Proofs.Ytglaigeellpikaa
