/- Cluster: the first of the greatest, gathered part by part. No program. -/
import Derived.Test.YtglaigeellpikaaXQ12
namespace Go.Proofs.Ytglaigeellpikaa
open Go.Vc

section
variable {wt : Int → Int → Int} {cs : List Int}
/-- The first of the greatest. -/
def fstB (wt : Int → Int → Int) (cs : List Int) (l : List (List Int)) : Option (List Int) := l.foldl (pickF wt cs) none
/-- What was found so far, and what was found in the next part. -/
def comb (wt : Int → Int → Int) (cs : List Int) (b o : Option (List Int)) : Option (List Int) := match o with
  | none => b
  | some h => pickF wt cs b h
theorem fstB_comb (b : Option (List Int)) (l : List (List Int)) : l.foldl (pickF wt cs) b = comb wt cs b (fstB wt cs l) := by
  refine rev_ind (M := fun l => l.foldl (pickF wt cs) b = comb wt cs b (fstB wt cs l)) rfl (fun l x ih => ?_) l
  unfold fstB at ih ⊢
  rw [List.foldl_append, List.foldl_append, ih]
  show pickF wt cs (comb wt cs b (l.foldl (pickF wt cs) none)) x = comb wt cs b (pickF wt cs (l.foldl (pickF wt cs) none) x)
  cases l.foldl (pickF wt cs) none with
  | none => rfl
  | some g =>
    cases b with
    | none => unfold comb pickF; dsimp only; split <;> rfl
    | some f =>
      unfold comb pickF
      dsimp only
      by_cases h1 : keptF wt cs f < keptF wt cs g
      · rw [if_pos h1]
        by_cases h2 : keptF wt cs g < keptF wt cs x
        · rw [if_pos h2]; dsimp only; rw [if_pos h2, if_pos (by omega)]
        · rw [if_neg h2]; dsimp only; rw [if_neg h2, if_pos h1]
      · rw [if_neg h1]
        by_cases h2 : keptF wt cs g < keptF wt cs x
        · rw [if_pos h2]
        · rw [if_neg h2]; dsimp only; rw [if_neg h1, if_neg (by omega)]
theorem fstB_flat {α : Type} (f : α → List (List Int)) (l : List α) : ∀ b, (l.flatMap f).foldl (pickF wt cs) b = l.foldl (fun b x => comb wt cs b (fstB wt cs (f x))) b := by
  induction l with
  | nil => intro b; rfl
  | cons x l ih =>
    intro b
    rw [List.flatMap_cons, List.foldl_append, ih, List.foldl_cons, fstB_comb]
theorem fstB_mem {l : List (List Int)} {h : List Int} (k : fstB wt cs l = some h) : h ∈ l := by
  have key : ∀ (l : List (List Int)) (h : List Int), l.foldl (pickF wt cs) none = some h → h ∈ l := fun l => by
    refine rev_ind (M := fun l => ∀ h, l.foldl (pickF wt cs) none = some h → h ∈ l) (fun h k => by cases k) (fun l x ih h k => ?_) l
    rw [List.foldl_append] at k
    have k : pickF wt cs (l.foldl (pickF wt cs) none) x = some h := k
    cases hf : l.foldl (pickF wt cs) none with
    | none => rw [hf] at k; unfold pickF at k; injection k with k; rw [← k]; simp
    | some g =>
      rw [hf] at k
      unfold pickF at k
      dsimp only at k
      split at k
      · injection k with k; rw [← k]; simp
      · injection k with k; rw [← k]; exact List.mem_append_left _ (ih g hf)
  exact key l h k
end
end Go.Proofs.Ytglaigeellpikaa

/- Cluster: the reference's best: heads that are decided one by one. No program. -/
namespace Go.Proofs.Ytglaigeellpikaa
open Go.Vc

/-- The clusters when the first classes have their heads. -/
def fH (cs pre : List Int) (F0 : Int → Int) (c : Int) : Int := if cs.idxOf c < pre.length then pre.getD (cs.idxOf c) default else F0 c
theorem idx_at {cs : List Int} (hn : cs.Nodup) {i : Nat} (hi : i < cs.length) : cs.idxOf (cs.getD i default) = i := by
  rw [gdE hi]
  have h3 : cs.idxOf cs[i] < cs.length := List.idxOf_lt_length_iff.2 (List.getElem_mem hi)
  have h4 : cs[cs.idxOf cs[i]] = cs[i] := List.getElem_idxOf h3
  have hp := List.pairwise_iff_getElem.1 hn
  rcases Nat.lt_trichotomy (cs.idxOf cs[i]) i with h | h | h
  · exact absurd h4 (hp _ _ h3 hi h)
  · exact h
  · exact absurd h4.symm (hp _ _ hi h3 h)
theorem fH_at {cs pre : List Int} (hn : cs.Nodup) {F0 : Int → Int} {i : Nat} (hi : i < pre.length) (hl : pre.length ≤ cs.length) : fH cs pre F0 (cs.getD i default) = pre.getD i default := by
  unfold fH; rw [idx_at hn (by omega), if_pos hi]
theorem fH_nil (cs : List Int) (F0 : Int → Int) : fH cs [] F0 = F0 := by
  funext c; unfold fH; rw [if_neg (show ¬ cs.idxOf c < ([] : List Int).length from Nat.not_lt_zero _)]
theorem fH_next {cs pre : List Int} (hn : cs.Nodup) {F0 : Int → Int} (hl : pre.length < cs.length) (v c : Int) : fH cs (pre ++ [v]) F0 c = if c = cs.getD pre.length default then v else fH cs pre F0 c := by
  unfold fH
  rw [List.length_append, List.length_singleton]
  by_cases e : c = cs.getD pre.length default
  · rw [if_pos e, e, idx_at hn hl, if_pos (Nat.lt_succ_self _), gA_end]
  · rw [if_neg e]
    by_cases h : cs.idxOf c < pre.length
    · rw [if_pos h, if_pos (by omega), gA_app h]
    · rw [if_neg h, if_neg]
      intro h2
      have h3 : cs.idxOf c = pre.length := by omega
      have h4 : cs.idxOf c < cs.length := by omega
      refine e ?_
      rw [← h3, gdE h4, List.getElem_idxOf]
theorem fH_map {cs hs : List Int} (hn : cs.Nodup) (hl : hs.length = cs.length) (F0 : Int → Int) : cs.map (fH cs hs F0) = hs := by
  refine List.ext_getElem (by rw [List.length_map]; exact hl.symm) fun i h1 h2 => ?_
  rw [List.length_map] at h1
  rw [List.getElem_map, ← gdE h1, fH_at hn (by omega) (by omega), gdE h2]
theorem fH_off {cs pre : List Int} {F0 : Int → Int} {c : Int} (hc : c ∉ cs) (hl : pre.length ≤ cs.length) : fH cs pre F0 c = F0 c := by
  unfold fH
  rw [if_neg]
  have : ¬ cs.idxOf c < cs.length := fun h => hc (List.idxOf_lt_length_iff.1 h)
  omega
/-- What is kept, within one component and elsewhere. -/
theorem kS_one (same : List Int) (r : Nat → Nat) (h : Nat) (wt : Int → Int → Int) (H : Int → Int) : kS wt (clL same) H = kS wt (clsG same (memsK r same.length h)) H + sm ((clL same).map fun c => sm ((clL same).map fun d => if r c.toNat = h ∧ r d.toNat = h then 0 else if c < d ∧ H c = H d then wt c d else 0)) := by
  have e1 : kS wt (clsG same (memsK r same.length h)) H = sm ((clL same).map fun c => sm ((clL same).map fun d => if r c.toNat = h ∧ r d.toNat = h then (if c < d ∧ H c = H d then wt c d else 0) else 0)) := by
    unfold kS
    rw [sm_clsG]
    refine sm_congr _ _ fun c _ => ?_
    by_cases q : r c.toNat = h
    · rw [if_pos q, sm_clsG]
      refine sm_congr _ _ fun d _ => ?_
      by_cases q2 : r d.toNat = h
      · rw [if_pos q2, if_pos (show r c.toNat = h ∧ r d.toNat = h from ⟨q, q2⟩)]
      · rw [if_neg q2, if_neg (show ¬ (r c.toNat = h ∧ r d.toNat = h) from fun z => q2 z.2)]
    · rw [if_neg q]
      exact (sm_zero _ fun d _ => if_neg fun z => q z.1).symm
  rw [e1, ← sm_add]
  unfold kS
  refine sm_congr _ _ fun c _ => ?_
  rw [← sm_add]
  refine sm_congr _ _ fun d _ => ?_
  by_cases q : r c.toNat = h ∧ r d.toNat = h
  · rw [if_pos q, if_pos q]; omega
  · rw [if_neg q, if_neg q]; omega
/-- What a completion costs, but for what all completions have in common. -/
theorem cost_fH {same : List Int} {edges : List Ed} {other : List (Int × Int)} (k : OkG same edges other) (hm : edges.length ≤ 1000) {F0 : Int → Int} (hF0 : HdOk same (rG same edges) F0) {h : Nat} {hs gs : List Int} (hh : hs.length = (clsG same (memsK (rG same edges) same.length h)).length) (hg : gs.length = (clsG same (memsK (rG same edges) same.length h)).length)
    (hm1 : ∀ c ∈ hs, c ∈ clsG same (memsK (rG same edges) same.length h)) (hm2 : ∀ c ∈ gs, c ∈ clsG same (memsK (rG same edges) same.length h)) (hinc : Inc (clsG same (memsK (rG same edges) same.length h))) :
    costW (insF (rG same edges) edges) (same.map (fH (clsG same (memsK (rG same edges) same.length h)) hs F0)) + keptF (wtG same edges) (clsG same (memsK (rG same edges) same.length h)) hs = costW (insF (rG same edges) edges) (same.map (fH (clsG same (memsK (rG same edges) same.length h)) gs F0)) + keptF (wtG same edges) (clsG same (memsK (rG same edges) same.length h)) gs := by
  obtain ⟨cs, hcs⟩ : ∃ cs, cs = clsG same (memsK (rG same edges) same.length h) := ⟨_, rfl⟩
  have hcm : ∀ c, c ∈ cs ↔ isCl same c ∧ rG same edges c.toNat = h := fun c => by rw [hcs]; exact gcls_mem
  have k' := okG (ins_ok k)
  have hil : (insF (rG same edges) edges).length ≤ 1000 := Nat.le_trans (List.length_filter_le _ _) hm
  have hn := inc_nodup hinc
  have hkw : ∀ H, kS (wtG same (insF (rG same edges) edges)) (clsG same (memsK (rG same edges) same.length h)) H = kS (wtG same edges) (clsG same (memsK (rG same edges) same.length h)) H := fun H => kS_wt (fun c hc d hd _ => by
    rw [ins_wt k, if_pos]
    rw [(gcls_mem.1 hc).2, (gcls_mem.1 hd).2]) H
  have hin : ∀ (xs : List Int), xs.length = (clsG same (memsK (rG same edges) same.length h)).length → (∀ c ∈ xs, c ∈ clsG same (memsK (rG same edges) same.length h)) → ∀ c, isCl same c → rG same edges c.toNat = h → rG same edges (fH (clsG same (memsK (rG same edges) same.length h)) xs F0 c).toNat = h := fun xs hx hxm c hc hr => by
    have hmem : c ∈ clsG same (memsK (rG same edges) same.length h) := gcls_mem.2 ⟨hc, hr⟩
    have hlt := List.idxOf_lt_length_iff.2 hmem
    unfold fH
    rw [if_pos (by omega)]
    exact (gcls_mem.1 (hxm _ (getD_mem (by omega)))).2
  have hoff : ∀ (xs : List Int), xs.length = (clsG same (memsK (rG same edges) same.length h)).length → ∀ c, isCl same c → rG same edges c.toNat ≠ h → fH (clsG same (memsK (rG same edges) same.length h)) xs F0 c = F0 c := fun xs hx c hc hr => fH_off (fun q => hr (gcls_mem.1 q).2) (by omega)
  rw [cost_map k' hil, cost_map k' hil, kS_one same (rG same edges) h _ (fH _ hs F0), kS_one same (rG same edges) h _ (fH _ gs F0), hkw, hkw, ← kept_sm hinc, ← kept_sm hinc, fH_map hn hh, fH_map hn hg]
  have heq : sm ((clL same).map fun c => sm ((clL same).map fun d => if rG same edges c.toNat = h ∧ rG same edges d.toNat = h then 0 else if c < d ∧ fH (clsG same (memsK (rG same edges) same.length h)) hs F0 c = fH (clsG same (memsK (rG same edges) same.length h)) hs F0 d then wtG same (insF (rG same edges) edges) c d else 0)) = sm ((clL same).map fun c => sm ((clL same).map fun d => if rG same edges c.toNat = h ∧ rG same edges d.toNat = h then 0 else if c < d ∧ fH (clsG same (memsK (rG same edges) same.length h)) gs F0 c = fH (clsG same (memsK (rG same edges) same.length h)) gs F0 d then wtG same (insF (rG same edges) edges) c d else 0)) := by
    refine sm_congr _ _ fun c hc => sm_congr _ _ fun d hd => ?_
    have hc := clL_mem.1 hc
    have hd := clL_mem.1 hd
    by_cases q : rG same edges c.toNat = h ∧ rG same edges d.toNat = h
    · rw [if_pos q, if_pos q]
    · rw [if_neg q, if_neg q]
      by_cases q1 : rG same edges c.toNat = h
      · have q2 : rG same edges d.toNat ≠ h := fun z => q ⟨q1, z⟩
        have n1 : ∀ xs : List Int, xs.length = (clsG same (memsK (rG same edges) same.length h)).length → (∀ c ∈ xs, c ∈ clsG same (memsK (rG same edges) same.length h)) → ¬ (c < d ∧ fH (clsG same (memsK (rG same edges) same.length h)) xs F0 c = fH (clsG same (memsK (rG same edges) same.length h)) xs F0 d) := fun xs hx hxm z => q2 (by
          have e1 := hin xs hx hxm c hc q1
          rw [z.2, hoff xs hx d hd q2, hF0.comp d hd] at e1
          exact e1)
        rw [if_neg (n1 hs hh hm1), if_neg (n1 gs hg hm2)]
      · by_cases q2 : rG same edges d.toNat = h
        · have n1 : ∀ xs : List Int, xs.length = (clsG same (memsK (rG same edges) same.length h)).length → (∀ c ∈ xs, c ∈ clsG same (memsK (rG same edges) same.length h)) → ¬ (c < d ∧ fH (clsG same (memsK (rG same edges) same.length h)) xs F0 c = fH (clsG same (memsK (rG same edges) same.length h)) xs F0 d) := fun xs hx hxm z => q1 (by
            have e1 := hin xs hx hxm d hd q2
            rw [← z.2, hoff xs hx c hc q1, hF0.comp c hc] at e1
            exact e1)
          rw [if_neg (n1 hs hh hm1), if_neg (n1 gs hg hm2)]
        · rw [hoff hs hh c hc q1, hoff hs hh d hd q2, hoff gs hg c hc q1, hoff gs hg d hd q2]
  rw [heq]
  omega
end Go.Proofs.Ytglaigeellpikaa

/- Cluster: the reference's best: the order of entity lists. No program. -/
namespace Go.Proofs.Ytglaigeellpikaa
open Go.Vc

/-- Lists of heads and lists of entities have the same order. -/
theorem lex_fH {same : List Int} {edges : List Ed} {other : List (Int × Int)} (k : OkG same edges other) {F0 : Int → Int} {cs : List Int} (hcl : ∀ c ∈ cs, isCl same c) (hinc : Inc cs) {hs gs : List Int} (hh : hs.length = cs.length) (hg : gs.length = cs.length) {p : Nat} (hp : p < cs.length) (heq : ∀ i, i < p → hs.getD i default = gs.getD i default) (hlt : hs.getD p default < gs.getD p default) :
    lexB (same.map (fH cs hs F0)) (same.map (fH cs gs F0)) = true := by
  have hn := inc_nodup hinc
  have hc := hcl _ (getD_mem hp)
  have hl : ∀ F : Int → Int, (same.map F).length = same.length := fun F => List.length_map _
  have hat : ∀ (F : Int → Int) (i : Nat), i < same.length → (same.map F).getD i default = F (at_ same (i : Int)) := fun F i hi => at_map (x := (i : Int)) F (by omega) (by omega)
  have hkl : (cs.getD p default).toNat < same.length := by have := hc.1; have := hc.2.1; omega
  have hself : at_ same (((cs.getD p default).toNat : Nat) : Int) = cs.getD p default := by
    rw [Int.toNat_of_nonneg hc.1]; exact hc.2.2
  have e1 : (same.map (fH cs hs F0)).getD (cs.getD p default).toNat default = hs.getD p default := by
    rw [hat _ _ hkl, hself, fH_at hn (by omega) (by omega)]
  have e2 : (same.map (fH cs gs F0)).getD (cs.getD p default).toNat default = gs.getD p default := by
    rw [hat _ _ hkl, hself, fH_at hn (by omega) (by omega)]
  rw [lexB_at (by rw [hl, hl]) (k := (cs.getD p default).toNat) (by rw [hl]; exact hkl) (fun i hi => ?_) (by rw [e1, e2]; omega), e1, e2]
  · exact decide_eq_true hlt
  · have hi2 : i < same.length := by omega
    rw [hat _ i hi2, hat _ i hi2]
    obtain ⟨_, c2⟩ := cl_at k (x := (i : Int)) (by omega) (by omega)
    by_cases hm : at_ same (i : Int) ∈ cs
    · obtain ⟨j, hj, hje⟩ := List.getElem_of_mem hm
      rw [← gdE hj] at hje
      have hjp : j < p := Nat.lt_of_not_le fun h => by
        have h0 := hc.1
        rcases Nat.lt_or_eq_of_le h with q | q
        · have := inc_at hinc q hj; omega
        · rw [← q] at hje; omega
      rw [← hje, fH_at hn (by omega) (by omega), fH_at hn (by omega) (by omega), heq j hjp]
    · rw [fH_off hm (by omega), fH_off hm (by omega)]
end Go.Proofs.Ytglaigeellpikaa

/- Cluster: the reference's best: what the loop over heads gathers. No program. -/
namespace Go.Proofs.Ytglaigeellpikaa
open Go.Vc

section
variable {wt : Int → Int → Int} {ap : Int → Int → Bool} {cs pre : List Int}
/-- The best of the completions with the first k heads. -/
def bstK (wt : Int → Int → Int) (ap : Int → Int → Bool) (cs : List Int) (m : Nat) (pre : List Int) (k : Nat) : Option (List Int) := ((List.range k).filter (stepB ap cs pre)).foldl (fun b j => comb wt cs b (fstB wt cs (partsF ap cs m (pre ++ [cs.getD j default])))) none
theorem bstK_succ (m : Nat) (pre : List Int) (k : Nat) : bstK wt ap cs m pre (k + 1) = if stepB ap cs pre k = true then comb wt cs (bstK wt ap cs m pre k) (fstB wt cs (partsF ap cs m (pre ++ [cs.getD k default]))) else bstK wt ap cs m pre k := by
  unfold bstK
  rw [List.range_succ, List.filter_append, List.foldl_append]
  by_cases h : stepB ap cs pre k = true
  · rw [if_pos h, List.filter_cons, if_pos h]; rfl
  · rw [if_neg h, List.filter_cons, if_neg h]; rfl
theorem bstK_all (m : Nat) (pre : List Int) : fstB wt cs (partsF ap cs (m + 1) pre) = bstK wt ap cs m pre (pre.length + 1) := by
  show ((nxtsF ap cs pre).flatMap (partsF ap cs m)).foldl (pickF wt cs) none = _
  rw [fstB_flat]
  unfold nxtsF bstK
  rw [List.foldl_map]
theorem stepB_end (hinc : Inc cs) (hp : PreP ap cs pre) (hl : pre.length < cs.length) : stepB ap cs pre pre.length = true := by
  unfold stepB
  rw [decide_eq_true rfl, Bool.true_or, Bool.true_and, Bool.not_eq_true', ← Bool.not_eq_true, clashF_iff]
  rintro ⟨k, hk, h1, _⟩
  rw [gA_app hk, gA_end] at h1
  obtain ⟨j, hj, h2, _⟩ := hp.head k hk
  rw [h2] at h1
  have := inc_at hinc (i := j) (j := pre.length) (by omega) hl
  omega
theorem step_pre (hp : PreP ap cs pre) (hl : pre.length < cs.length) {k : Nat} (hk : k ≤ pre.length) (hs : stepB ap cs pre k = true) : PreP ap cs (pre ++ [cs.getD k default]) :=
  ((nxts_mem hp hl).1 (List.mem_map.2 ⟨k, List.mem_filter.2 ⟨List.mem_range.2 (by omega), hs⟩, rfl⟩)).1
/-- A completion in which the next class has the head of class k. -/
structure Cmpl (ap : Int → Int → Bool) (cs pre : List Int) (k : Nat) (h : List Int) : Prop where
  part : IsPart ap cs h
  old : ∀ i, i < pre.length → h.getD i default = pre.getD i default
  at' : h.getD pre.length default = cs.getD k default
theorem cmpl_mem (hp : PreP ap cs pre) {m k : Nat} (hm : pre.length + (m + 1) = cs.length) (hk : k ≤ pre.length) (hs : stepB ap cs pre k = true) {h : List Int} (hh : h ∈ partsF ap cs m (pre ++ [cs.getD k default])) : Cmpl ap cs pre k h := by
  have hp2 := step_pre hp (by omega) hk hs
  obtain ⟨h1, h2⟩ := (parts_mem m _ h hp2 (by rw [List.length_append, List.length_singleton]; omega)).1 hh
  rw [List.length_append, List.length_singleton] at h2
  have hl := h1.len
  have gt : ∀ i, i < pre.length + 1 → h.getD i default = (pre ++ [cs.getD k default]).getD i default := fun i hi => by rw [← h2]; simp [List.getD, hi]
  exact ⟨h1, fun i hi => by rw [gt i (by omega), gA_app hi], by rw [gt _ (Nat.lt_succ_self _), gA_end]⟩
theorem bstK_some (hp : PreP ap cs pre) {m : Nat} (hm : pre.length + (m + 1) = cs.length) : ∀ (k : Nat) (g : List Int), k ≤ pre.length + 1 → bstK wt ap cs m pre k = some g → ∃ j, j < k ∧ Cmpl ap cs pre j g
  | 0, g, _, h => by cases h
  | k + 1, g, hk, h => by
    rw [bstK_succ] at h
    split at h
    · rename_i hs
      have hc : ∀ f, fstB wt cs (partsF ap cs m (pre ++ [cs.getD k default])) = some f → Cmpl ap cs pre k f := fun f hf => cmpl_mem hp hm (by omega) hs (fstB_mem hf)
      cases hx : fstB wt cs (partsF ap cs m (pre ++ [cs.getD k default])) with
      | none =>
        rw [hx] at h
        obtain ⟨j, hj, hc⟩ := bstK_some hp hm k g (by omega) h
        exact ⟨j, by omega, hc⟩
      | some f =>
        rw [hx] at h
        unfold comb pickF at h
        dsimp only at h
        cases hb : bstK wt ap cs m pre k with
        | none =>
          rw [hb] at h
          injection h with h
          exact ⟨k, Nat.lt_succ_self _, by rw [← h]; exact hc f hx⟩
        | some g' =>
          rw [hb] at h
          dsimp only at h
          split at h
          · injection h with h
            exact ⟨k, Nat.lt_succ_self _, by rw [← h]; exact hc f hx⟩
          · injection h with h
            obtain ⟨j, hj, hc⟩ := bstK_some hp hm k g' (by omega) hb
            exact ⟨j, by omega, by rw [← h]; exact hc⟩
    · obtain ⟨j, hj, hc⟩ := bstK_some hp hm k g (by omega) h
      exact ⟨j, by omega, hc⟩
theorem part_in {h : List Int} (hp : IsPart ap cs h) : ∀ c ∈ h, c ∈ cs := by
  intro c hc
  obtain ⟨i, hi, rfl⟩ := List.getElem_of_mem hc
  have hl := hp.len
  obtain ⟨j, hj, h1, _⟩ := hp.head i (by omega)
  rw [gdE hi] at h1
  rw [h1]
  exact getD_mem (by omega)
/-- The heads that are clashes. -/
theorem clash_end {k : Nat} : clashF ap cs (pre ++ [cs.getD k default]) pre.length = true ↔ ∃ j, j < pre.length ∧ pre.getD j default = cs.getD k default ∧ ap (cs.getD j default) (cs.getD pre.length default) = true := by
  rw [clashF_iff]
  constructor
  · rintro ⟨j, hj, h1, h2⟩
    rw [gA_app hj, gA_end] at h1
    exact ⟨j, hj, h1, h2⟩
  · rintro ⟨j, hj, h1, h2⟩
    exact ⟨j, hj, by rw [gA_app hj, gA_end]; exact h1, h2⟩
end
/-- A pair forbids that the class at the end joins that of a head. -/
def hitP (same : List Int) (cs pre : List Int) (k : Nat) (p : Int × Int) (j : Nat) : Prop := pre.getD j default = cs.getD k default ∧ ((at_ same p.1 = cs.getD j default ∧ at_ same p.2 = cs.getD pre.length default) ∨ (at_ same p.2 = cs.getD j default ∧ at_ same p.1 = cs.getD pre.length default))
theorem clash_hit {same : List Int} {other : List (Int × Int)} {cs pre : List Int} {k : Nat} (hinc : Inc cs) (hl : pre.length < cs.length) : clashF (apG same other) cs (pre ++ [cs.getD k default]) pre.length = true ↔ ∃ p ∈ other, ∃ j, j < pre.length ∧ hitP same cs pre k p j := by
  rw [clash_end]
  have hne : ∀ j, j < pre.length → cs.getD j default < cs.getD pre.length default := fun j hj => inc_at hinc hj hl
  constructor
  · rintro ⟨j, hj, h1, h2⟩
    obtain ⟨p, hp, hn, ho⟩ := (gA_true same other _ _).1 h2
    refine ⟨p, hp, j, hj, h1, ?_⟩
    have := hne j hj
    unfold ordF at ho; rw [Prod.mk.injEq] at ho; omega
  · rintro ⟨p, hp, j, hj, h1, h2⟩
    have := hne j hj
    refine ⟨j, hj, h1, (gA_true same other _ _).2 ⟨p, hp, by omega, ?_⟩⟩
    unfold ordF; rw [Prod.mk.injEq]; omega
/-- Which of two completions the reference takes. -/
theorem pick_less {same : List Int} {edges : List Ed} {other : List (Int × Int)} (k : OkG same edges other) (hm : edges.length ≤ 1000) {F0 : Int → Int} (hF0 : HdOk same (rG same edges) F0) {h : Nat} (hinc : Inc (clsG same (memsK (rG same edges) same.length h))) {pre f g : List Int} {i j : Nat} (hij : i < j) (hj : j ≤ pre.length) (hl : pre.length < (clsG same (memsK (rG same edges) same.length h)).length)
    (hg : Cmpl (apG same other) (clsG same (memsK (rG same edges) same.length h)) pre i g) (hf : Cmpl (apG same other) (clsG same (memsK (rG same edges) same.length h)) pre j f) :
    ((costW (insF (rG same edges) edges) (same.map (fH (clsG same (memsK (rG same edges) same.length h)) f F0)) < costW (insF (rG same edges) edges) (same.map (fH (clsG same (memsK (rG same edges) same.length h)) g F0)) ∨ costW (insF (rG same edges) edges) (same.map (fH (clsG same (memsK (rG same edges) same.length h)) f F0)) = costW (insF (rG same edges) edges) (same.map (fH (clsG same (memsK (rG same edges) same.length h)) g F0)) ∧ lexB (same.map (fH (clsG same (memsK (rG same edges) same.length h)) f F0)) (same.map (fH (clsG same (memsK (rG same edges) same.length h)) g F0)) = true) ↔
      keptF (wtG same edges) (clsG same (memsK (rG same edges) same.length h)) g < keptF (wtG same edges) (clsG same (memsK (rG same edges) same.length h)) f) := by
  have hc := cost_fH k hm hF0 (h := h) hf.part.len hg.part.len (part_in hf.part) (part_in hg.part) hinc
  have hlex := lex_fH k (F0 := F0) (cs := clsG same (memsK (rG same edges) same.length h)) (fun c hc => (gcls_mem.1 hc).1) hinc hg.part.len hf.part.len hl (fun i hi => by rw [hg.old i hi, hf.old i hi]) (by rw [hg.at', hf.at']; exact inc_at hinc hij (by omega))
  have hno := lexB_sto.asym hlex
  rw [hno]
  constructor
  · rintro (q | ⟨_, q⟩)
    · omega
    · cases q
  · intro q; left; omega
end Go.Proofs.Ytglaigeellpikaa

/- Cluster: the reference's best: the walk. -/
namespace Go.Proofs.Ytglaigeellpikaa
open Go.Vc

instance (same cs pre : List Int) (k : Nat) (p : Int × Int) (j : Nat) : Decidable (hitP same cs pre k p j) := by unfold hitP; infer_instance
theorem rcost_specN (a ea : Option Addr) (c ce n : Nat) (edges : List Ed) (ent : List Int) (w : World) (hn : ent.length = n) (hm : edges.length ≤ 1000000) (hS : EdSl w a edges) (hE : IntSl w ea ent) :
    RetsP Try.prog 16 #[.slice a edges.length c, .slice ea n ce] w (.int .i64 (costW edges ent)) := by
  subst hn; exact rcost_spec a ea c ce edges ent w hm hS hE
theorem less_specN (a b : Option Addr) (ca cb n : Nat) (l m : List Int) (w : World) (hl : l.length = n) (hk : m.length = n) (hm : n ≤ 1000000) (hS : IntSl w a l) (hT : IntSl w b m) :
    RetsP Try.prog 42 #[.slice a n ca, .slice b n cb] w (.bool (lexB l m)) := by
  have h := less_spec a b ca cb l m w (by omega) (by omega) hS hT
  rw [hl, hk] at h; exact h
theorem step_no {ap : Int → Int → Bool} {cs pre : List Int} {k : Nat} (hk : k < pre.length) (h : pre.getD k default ≠ cs.getD k default) : stepB ap cs pre k = false := by
  unfold stepB
  rw [decide_eq_false (show ¬ k = pre.length by omega), decide_eq_false h]; rfl
theorem step_is {ap : Int → Int → Bool} {cs pre : List Int} {k : Nat} (h : k = pre.length ∨ pre.getD k default = cs.getD k default) : stepB ap cs pre k = !clashF ap cs (pre ++ [cs.getD k default]) pre.length := by
  unfold stepB
  rcases h with h | h
  · rw [decide_eq_true h, Bool.true_or, Bool.true_and]
  · rw [decide_eq_true h, Bool.or_true, Bool.true_and]
set_option maxRecDepth 100000 in
set_option maxHeartbeats 16000000 in
theorem rbest_spec (edges ins : List Ed) (same cs : List Int) (other : List (Int × Int)) (F0 : Int → Int) (h : Nat) (hcs : cs = clsG same (memsK (rG same edges) same.length h)) (hins : ins = insF (rG same edges) edges) (k_ : OkG same edges other) (hm : edges.length ≤ 1000) (hms : same.length ≤ 1000) (hmo : other.length ≤ 1000) (hcl : cs.length ≤ 1000) (hinc : Inc cs) (hF0 : HdOk same (rG same edges) F0) (ea sa oa ca : Option Addr) (ec sc oc cc : Nat) :
    ∀ (m : Nat) (pre : List Int) (na : Option Addr) (nc : Nat) (w : World), pre.length + m = cs.length → PreP (apG same other) cs pre → (na = none → nc = 0) →
    EdSl w ea ins → IntSl w sa same → PrSl w oa other → IntSl w ca cs → IntSl w na (same.map (fH cs pre F0)) →
    RetsX Try.prog 41 #[.slice ea ins.length ec, .slice sa same.length sc, .slice oa other.length oc, .slice ca cs.length cc, .int .i64 (pre.length : Nat), .slice na same.length nc] w (fun x : Option Addr × Nat => .slice x.1 same.length x.2)
      (fun x w' => ∃ hs, fstB (wtG same edges) cs (partsF (apG same other) cs m pre) = some hs ∧ IntSl w' x.1 (same.map (fH cs hs F0))) := by
  have hil : ins.length ≤ 1000 := by rw [hins]; unfold insF; have := List.length_filter_le (fun e : Ed => decide (rG same edges e.a.toNat = rG same edges e.b.toNat)) edges; omega
  have hcm : ∀ c, c ∈ cs ↔ isCl same c ∧ rG same edges c.toNat = h := fun c => by rw [hcs]; exact gcls_mem
  have hcb : ∀ i, i < cs.length → 0 ≤ cs.getD i default ∧ cs.getD i default < same.length ∧ at_ same (cs.getD i default) = cs.getD i default := fun i hi => ((hcm _).1 (getD_mem hi)).1
  have hn := inc_nodup hinc
  intro m
  induction m with
  | zero =>
    intro pre na nc w hpm hp hnx hS hI hO hC hN
    refine enter (args := [_, _, _, _, _, _]) Try.func41 rfl Try.ntmps41 (by kernel_rfl) rfl ?_
    refine V.seq (V.region (VL.op (R.asS rfl) (VL.nil (V.seq (V.seq (V.region (VL.op (R.mvI rfl) (VL.op (R.mvS rfl) (VL.op (R.lenS Try.runUnderlying23 rfl) (VL.op (R.eql rfl rfl) (VL.nil (V.condP rfl (fun c28 => V.seq (V.region (VL.op (R.mvS rfl) (VL.op (R.asS rfl) (VL.nil (V.ret (fret1 (v := .slice _ _ _) rfl rfl rfl (?_)))))))) (fun c28 => V.skip (V.seq (?_)))))))))))))))
    · exact ⟨(na, nc), rfl, ⟨pre, rfl, hN⟩, Mod.refl _ _⟩
    · exfalso; omega
  | succ m ih =>
    intro pre na nc w hpm hp hnx hS hI hO hC hN
    have hpl : pre.length < cs.length := by omega
    have hfl : (same.map (fH cs pre F0)).length = same.length := List.length_map _
    have hent : ∀ j, j < pre.length → (same.map (fH cs pre F0)).getD (cs.getD j default).toNat default = pre.getD j default := fun j hj => by
      have hb := hcb j (by omega)
      have := at_map (same := same) (fH cs pre F0) hb.1 hb.2.1
      rw [hb.2.2, fH_at hn hj (by omega)] at this
      exact this
    have hpo : ∀ i, i < other.length → 0 ≤ (other.getD i default).1 ∧ 0 ≤ (other.getD i default).2 ∧ (other.getD i default).1 < same.length ∧ (other.getD i default).2 < same.length := fun i hi => pairB_iff.1 k_.pr _ (getD_mem hi)
    have hend := stepB_end (ap := apG same other) hinc hp hpl
    refine enter (args := [_, _, _, _, _, _]) Try.func41 rfl Try.ntmps41 (by kernel_rfl) rfl ?_
    refine V.seq (V.region (VL.op (R.asS rfl) (VL.nil (V.seq (V.seq (V.region (VL.op (R.mvI rfl) (VL.op (R.mvS rfl) (VL.op (R.lenS Try.runUnderlying23 rfl) (VL.op (R.eql rfl rfl) (VL.nil (V.condP rfl (fun c28 => V.seq (V.region (VL.op (R.mvS rfl) (VL.op (R.asS rfl) (VL.nil (V.ret (fret1 (v := .slice _ _ _) rfl rfl rfl (?_)))))))) (fun c28 => V.skip (V.seq (?_)))))))))))))))
    · exfalso; omega
    refine V.region (VL.op (R.asS rfl) (VL.nil (V.seq (V.seq (V.region (VL.op (R.asI rfl) (VL.nil (V.block (?_)))))))))
    refine V.loop [0, 1, 2, 3, 4, 5, 13, 14] (fun x : Nat × Option Addr × Nat × Nat => [.slice ea ins.length ec, .slice sa same.length sc, .slice oa other.length oc, .slice ca cs.length cc, .int .i64 (pre.length : Nat), .slice na same.length nc, .slice x.2.1 x.2.2.1 x.2.2.2, .int .i64 (x.1 : Nat)])
      (fun x w' => x.1 ≤ pre.length + 1 ∧ Ext w w' ∧ ((x.2.1 = none ∧ x.2.2.1 = 0 ∧ x.2.2.2 = 0 ∧ x.1 ≤ pre.length ∧ bstK (wtG same edges) (apG same other) cs m pre x.1 = none) ∨ (x.2.1 ≠ none ∧ x.2.2.1 = same.length ∧ ∃ g, bstK (wtG same edges) (apG same other) cs m pre x.1 = some g ∧ IntSl w' x.2.1 (same.map (fH cs g F0))))) (fun x => pre.length + 1 - x.1) (0, none, 0, 0) rfl ⟨Nat.zero_le _, Mod.refl _ _, .inl ⟨rfl, rfl, rfl, Nat.zero_le _, rfl⟩⟩ ?_
    rintro ρ ⟨k, xa, xl, xc⟩ w1 ⟨hk, e1, hX⟩
    dsimp only at hk e1 hX ⊢
    have hskip : stepB (apG same other) cs pre k = false → k ≤ pre.length → ∀ w', Ext w1 w' → ∃ x : Nat × Option Addr × Nat × Nat, x = (k + 1, xa, xl, xc) ∧ x.1 ≤ pre.length + 1 ∧ Ext w w' ∧ ((x.2.1 = none ∧ x.2.2.1 = 0 ∧ x.2.2.2 = 0 ∧ x.1 ≤ pre.length ∧ bstK (wtG same edges) (apG same other) cs m pre x.1 = none) ∨ (x.2.1 ≠ none ∧ x.2.2.1 = same.length ∧ ∃ g, bstK (wtG same edges) (apG same other) cs m pre x.1 = some g ∧ IntSl w' x.2.1 (same.map (fH cs g F0)))) := fun hs hkl w' e => by
      refine ⟨_, rfl, by dsimp only; omega, e1.trans e, ?_⟩
      dsimp only
      have hne : k ≠ pre.length := fun q => by rw [q, hend] at hs; cases hs
      rw [bstK_succ, if_neg (by rw [hs]; decide)]
      rcases hX with ⟨q1, q2, q3, q4, q5⟩ | ⟨q1, q2, g, q3, q4⟩
      · exact .inl ⟨q1, q2, q3, by omega, q5⟩
      · exact .inr ⟨q1, q2, g, q3, TSl.ext q4 e⟩
    have hck := hcb k
    have hN1 := TSl.ext hN e1
    refine V.seq (V.seq (V.region (VL.op (R.mvI rfl) (VL.op (R.mvI rfl) (VL.op (R.leq rfl rfl) (VL.nil (V.condP rfl (fun c32 => V.skip (V.seq (V.block (V.seq (V.region (VL.op (R.mvS rfl) (VL.op (R.mvI rfl) (VL.op (R.ixS Try.runUnderlying23 Try.sizeOf3 rfl rfl (by have := hck; omega) (by have := hck; omega) (((TSl.ext hC e1)).some (i := k) (by have := hck; omega))) (VL.op (R.ld1 Try.isAgg3 rfl ((((((TSl.ext hC e1)).ext (Mod.refl Vc.nob w1)).row (i := k) (by have := hck; omega)).cell (i := 0) rfl))) (VL.op (R.asI rfl) (VL.nil (V.seq (V.region (VL.buildSl Try.runUnderlying23 Try.sizeOf3 Try.zeroValue3 rfl rfl rfl fun b8 w8 hb8 e8 hX8 => VL.op (R.mvS rfl) (VL.appendT el23 (fun _ => rfl) rfl (rfl) ((OwnT.of0 encI 1 hX8 (Nat.le_of_eq (Eq.symm hb8)))) rfl ( (List.length_map _).symm) ((hN1.ext ((Mod.refl Vc.nob w1).trans e8))) (hnx) (by simp; omega) (by simp [maxLen]; omega) e8.size (Nat.zero_add _) fun a9 c9 w9 ho9 m9 hf9 => VL.op (R.asS rfl) (VL.nil (V.seq (V.seq (V.regionCut [42, 43, 44, 45, 46, 47, 48, 49, 50, 51, 52] 52 (.bool (decide (k < pre.length ∧ (same.map (fH cs pre F0)).getD (cs.getD k default).toNat default ≠ cs.getD k default))) (fun w' => Ext _ w') rfl (VL.op (R.mvI rfl) (VL.op (R.mvI rfl) (VL.op (R.lss rfl rfl) (VL.op (R.mvB rfl) (VL.andP rfl rfl (fun g9_3 => VL.op (R.mvS rfl) (VL.gT rfl rfl (VL.op (R.mvI rfl) (VL.gT rfl rfl (VL.op (R.ixS Try.runUnderlying23 Try.sizeOf3 rfl rfl (by have := hck; omega) (by have := hck; omega) ((hN1).some (i := (cs.getD k default).toNat) (by have := hck; omega))) (VL.gT rfl rfl (VL.op (R.ld1 Try.isAgg3 rfl (((((hN1).ext (Mod.ownA ((Mod.refl Vc.nob w1).trans e8) m9 (fun k hk => (OwnSl.blk (OwnT.of0 encI 1 hX8 (Nat.le_of_eq (Eq.symm hb8))) k hk).1))).row (i := (cs.getD k default).toNat) (by have := hck; omega)).cell (i := 0) rfl))) (VL.gT rfl rfl (VL.op (R.mvI rfl) (VL.gT rfl rfl (VL.op (R.neq rfl rfl) (VL.op (R.pickTB rfl rfl) (VL.nil ⟨rfl, cutB rfl ?_, Mod.refl _ _⟩))))))))))))) (fun g9_3 => VL.gF rfl rfl (VL.gF rfl rfl (VL.gF rfl rfl (VL.gF rfl rfl (VL.gF rfl rfl (VL.op (R.pickFB rfl rfl) (VL.nil ⟨rfl, cutB rfl ?_, Mod.refl _ _⟩)))))))))))) (fun rg9 w9c e9c => V.condP rfl (fun c52 => V.exit (V.region (VL.op (R.mvI rfl) (VL.op (R.add rfl rfl (by omega) (by omega)) (VL.op (R.asI rfl) (VL.nil (?_))))))) (fun c52 => V.skip (V.seq (?_))))))))))))))))))))))) (fun c32 => V.exit (V.seq (V.region (VL.op (R.mvS rfl) (VL.op (R.asS rfl) (VL.nil (V.ret (fret1 (v := .slice _ _ _) rfl rfl rfl (?_))))))))))))))))
    · exact decide_eq_decide.2 ⟨fun q => ⟨by omega, q⟩, fun q => q.2⟩
    · exact (decide_eq_false fun q => by omega).symm
    · have hh := hent k c52.1
      obtain ⟨x, rfl, hx⟩ := hskip (step_no c52.1 fun q => c52.2 (by rw [hh, q])) (by omega) w9c (((e8.ownA m9 fun q hq => by have := aBlk_some hq; omega) : Ext w1 w9).trans e9c)
      exact ⟨_, rfl, hx, by dsimp only; omega⟩
    · have E9 : Ext w1 w9c := ((e8.ownA m9 fun q hq => by have := aBlk_some hq; omega) : Ext w1 w9).trans e9c
      have ho9 : OwnT encI 1 3 w1.heap.size w9c a9 c9 (same.map (fH cs pre F0)) := OwnT.ext ho9 e9c
      have hS9 := hS.ext (e1.trans E9)
      have hI9 := TSl.ext hI (e1.trans E9)
      have hO9 := hO.ext (e1.trans E9)
      have hC9 := TSl.ext hC (e1.trans E9)
      have hN9 := TSl.ext hN (e1.trans E9)
      have hkh : k < pre.length → pre.getD k default = cs.getD k default := fun q => by
        have hh := hent k q
        rw [← hh]
        exact Classical.not_not.1 fun z => c52 ⟨q, z⟩
      refine V.region (VL.op (R.asB rfl) (VL.nil (V.seq (V.seq (V.region (VL.op (R.asI rfl) (VL.nil (V.block (?_)))))))))
      refine V.loop [0, 1, 2, 3, 4, 5, 13, 14, 15, 16, 17, 18] (fun x : Nat × Bool => [.slice ea ins.length ec, .slice sa same.length sc, .slice oa other.length oc, .slice ca cs.length cc, .int .i64 (pre.length : Nat), .slice na same.length nc, .slice xa xl xc, .int .i64 (k : Nat), .int .i64 (cs.getD k default), .slice a9 same.length c9, .bool x.2, .int .i64 (x.1 : Nat)])
        (fun x w' => x.1 ≤ other.length ∧ Ext w9c w' ∧ (x.2 = false ↔ k < pre.length ∧ ∃ i', i' < x.1 ∧ ∃ j, j < pre.length ∧ hitP same cs pre k (other.getD i' default) j)) (fun x => other.length - x.1) (0, true) rfl ⟨Nat.zero_le _, Mod.refl _ _, ⟨fun q => (by cases q), fun ⟨_, i', q, _⟩ => absurd q (Nat.not_lt_zero _)⟩⟩ ?_
      rintro ρ ⟨i, ok⟩ w2 ⟨hi, e2, hok⟩
      dsimp only at hi e2 hok ⊢
      have hpi := hpo i
      refine V.seq (V.seq (V.regionCut [53, 54, 55, 56, 57, 58, 59, 60, 61] 61 (.bool (decide (i < other.length ∧ k < pre.length))) (fun w' => Ext _ w') rfl (VL.op (R.mvI rfl) (VL.op (R.mvS rfl) (VL.op (R.lenS Try.runUnderlying24 rfl) (VL.op (R.lss rfl rfl) (VL.op (R.mvB rfl) (VL.andP rfl rfl (fun g12_4 => VL.op (R.mvI rfl) (VL.gT rfl rfl (VL.op (R.mvI rfl) (VL.gT rfl rfl (VL.op (R.lss rfl rfl) (VL.op (R.pickTB rfl rfl) (VL.nil ⟨rfl, cutB rfl ?_, Mod.refl _ _⟩))))))) (fun g12_4 => VL.gF rfl rfl (VL.gF rfl rfl (VL.op (R.pickFB rfl rfl) (VL.nil ⟨rfl, cutB rfl ?_, Mod.refl _ _⟩)))))))))) (fun rg12 w12c e12c => V.condP rfl (fun c61 => V.skip (V.seq (V.block (V.seq (V.region (VL.op (R.mvS rfl) (VL.op (R.mvS rfl) (VL.op (R.mvI rfl) (VL.op (R.ixS Try.runUnderlying24 Try.sizeOf42 rfl rfl (by have := hpi; omega) (by have := hpi; omega) ((hO9).some (i := i) (by have := hpi; omega))) (VL.op (R.ixA Try.runUnderlying42 Try.sizeOf3 rfl rfl (by decide) (by decide)) (VL.op (R.ld1 Try.isAgg3 rfl (((((hO9).ext (e2.trans e12c)).row (i := i) (by have := hpi; omega)).cell (i := 0) rfl))) (VL.op (R.ixS Try.runUnderlying23 Try.sizeOf3 rfl rfl (by have := hpi; omega) (by have := hpi; omega) ((hI9).some (i := (other.getD i default).1.toNat) (by have := hpi; omega))) (VL.op (R.ld1 Try.isAgg3 rfl (((((hI9).ext (e2.trans e12c)).row (i := (other.getD i default).1.toNat) (by have := hpi; omega)).cell (i := 0) rfl))) (VL.op (R.asI rfl) (VL.nil (V.seq (V.region (VL.op (R.mvS rfl) (VL.op (R.mvS rfl) (VL.op (R.mvI rfl) (VL.op (R.ixS Try.runUnderlying24 Try.sizeOf42 rfl rfl (by have := hpi; omega) (by have := hpi; omega) ((hO9).some (i := i) (by have := hpi; omega))) (VL.op (R.ixA Try.runUnderlying42 Try.sizeOf3 rfl rfl (by decide) (by decide)) (VL.op (R.ld1 Try.isAgg3 rfl (((((hO9).ext (e2.trans e12c)).row (i := i) (by have := hpi; omega)).cell (i := 1) rfl))) (VL.op (R.ixS Try.runUnderlying23 Try.sizeOf3 rfl rfl (by have := hpi; omega) (by have := hpi; omega) ((hI9).some (i := (other.getD i default).2.toNat) (by have := hpi; omega))) (VL.op (R.ld1 Try.isAgg3 rfl (((((hI9).ext (e2.trans e12c)).row (i := (other.getD i default).2.toNat) (by have := hpi; omega)).cell (i := 0) rfl))) (VL.op (R.asI rfl) (VL.nil (V.seq (?_))))))))))))))))))))))))))))) (fun c61 => V.exit (V.seq (V.seq (?_)))))))
      · exact decide_eq_decide.2 (by omega)
      · exact (decide_eq_false (by omega)).symm
      · have E12 := e2.trans e12c
        have hC12 := hC9.ext E12
        have hN12 := hN9.ext E12
        refine V.region (VL.op (R.asI rfl) (VL.nil (V.block (?_))))
        refine V.loop [0, 1, 2, 3, 4, 5, 13, 14, 15, 16, 17, 18, 19, 20, 21] (fun x : Nat × Bool => [.slice ea ins.length ec, .slice sa same.length sc, .slice oa other.length oc, .slice ca cs.length cc, .int .i64 (pre.length : Nat), .slice na same.length nc, .slice xa xl xc, .int .i64 (k : Nat), .int .i64 (cs.getD k default), .slice a9 same.length c9, .bool x.2, .int .i64 (i : Nat), .int .i64 (same.getD (other.getD i default).1.toNat default), .int .i64 (same.getD (other.getD i default).2.toNat default), .int .i64 (x.1 : Nat)])
          (fun x w' => x.1 ≤ pre.length ∧ Ext w12c w' ∧ (x.2 = false ↔ ok = false ∨ ∃ j, j < x.1 ∧ hitP same cs pre k (other.getD i default) j)) (fun x => pre.length - x.1) (0, ok) rfl ⟨Nat.zero_le _, Mod.refl _ _, ⟨fun q => .inl q, fun q => q.elim id fun ⟨j, z, _⟩ => absurd z (Nat.not_lt_zero _)⟩⟩ ?_
        rintro ρ ⟨j, okj⟩ w3 ⟨hj, e3, hokj⟩
        dsimp only at hj e3 hokj ⊢
        have hcj := hcb j
        have hej := hent j
        refine V.seq (V.seq (V.region (VL.op (R.mvI rfl) (VL.op (R.mvI rfl) (VL.op (R.lss rfl rfl) (VL.nil (V.condP rfl (fun c82 => V.skip (V.seq (V.block (V.seq (V.region (VL.op (R.mvS rfl) (VL.op (R.mvI rfl) (VL.op (R.ixS Try.runUnderlying23 Try.sizeOf3 rfl rfl (by have := hcj; omega) (by have := hcj; omega) ((hC12).some (i := j) (by have := hcj; omega))) (VL.op (R.ld1 Try.isAgg3 rfl (((((hC12).ext e3).row (i := j) (by have := hcj; omega)).cell (i := 0) rfl))) (VL.op (R.asI rfl) (VL.nil (V.seq (V.regionCut [89, 90, 91, 92, 93, 94, 95, 96, 97, 98, 99, 100, 101, 102, 103, 104, 105, 106, 107, 108, 109, 110, 111, 112, 113, 114, 115, 116, 117, 118, 119, 120] 120 (.bool (decide (hitP same cs pre k (other.getD i default) j))) (fun w' => Ext _ w') rfl (VL.op (R.mvS rfl) (VL.op (R.mvI rfl) (VL.op (R.ixS Try.runUnderlying23 Try.sizeOf3 rfl rfl (by have := hcj; omega) (by have := hcj; omega) ((hN12).some (i := (cs.getD j default).toNat) (by have := hcj; omega))) (VL.op (R.ld1 Try.isAgg3 rfl (((((hN12).ext e3).row (i := (cs.getD j default).toNat) (by have := hcj; omega)).cell (i := 0) rfl))) (VL.op (R.mvI rfl) (VL.op (R.eql rfl rfl) (VL.op (R.mvB rfl) (VL.andP rfl rfl (fun g20_6 => VL.op (R.mvI rfl) (VL.gT rfl rfl (VL.op (R.mvI rfl) (VL.gT rfl rfl (VL.op (R.eql rfl rfl) (VL.gT rfl rfl (VL.op (R.mvB rfl) (VL.andP rfl rfl (fun g20_10 => VL.op (R.mvI rfl) (VL.gT rfl rfl (VL.op (R.mvS rfl) (VL.gT rfl rfl (VL.op (R.mvI rfl) (VL.gT rfl rfl (VL.op (R.ixS Try.runUnderlying23 Try.sizeOf3 rfl rfl (by have := hcj; omega) (by have := hcj; omega) ((hC12).some (i := pre.length) (by have := hcj; omega))) (VL.gT rfl rfl (VL.op (R.ld1 Try.isAgg3 rfl (((((hC12).ext e3).row (i := pre.length) (by have := hcj; omega)).cell (i := 0) rfl))) (VL.gT rfl rfl (VL.op (R.eql rfl rfl) (VL.gT rfl rfl (VL.op (R.pickTB rfl rfl) (VL.gT rfl rfl (VL.op (R.mvB rfl) (VL.orP rfl rfl (fun g20_18 => VL.op (R.mvI rfl) (VL.gT rfl rfl (VL.op (R.mvI rfl) (VL.gT rfl rfl (VL.op (R.eql rfl rfl) (VL.gT rfl rfl (VL.op (R.mvB rfl) (VL.andP rfl rfl (fun g20_22 => VL.op (R.mvI rfl) (VL.gT rfl rfl (VL.op (R.mvS rfl) (VL.gT rfl rfl (VL.op (R.mvI rfl) (VL.gT rfl rfl (VL.op (R.ixS Try.runUnderlying23 Try.sizeOf3 rfl rfl (by have := hcj; omega) (by have := hcj; omega) ((hC12).some (i := pre.length) (by have := hcj; omega))) (VL.gT rfl rfl (VL.op (R.ld1 Try.isAgg3 rfl (((((hC12).ext e3).row (i := pre.length) (by have := hcj; omega)).cell (i := 0) rfl))) (VL.gT rfl rfl (VL.op (R.eql rfl rfl) (VL.gT rfl rfl (VL.op (R.pickTB rfl rfl) (VL.gT rfl rfl (VL.op (R.pickFB rfl rfl) (VL.op (R.pickTB rfl rfl) (VL.nil ⟨rfl, cutB rfl ?_, Mod.refl _ _⟩))))))))))))))))) (fun g20_22 => VL.gF rfl rfl (VL.gF rfl rfl (VL.gF rfl rfl (VL.gF rfl rfl (VL.gF rfl rfl (VL.gT rfl rfl (VL.op (R.pickFB rfl rfl) (VL.gT rfl rfl (VL.op (R.pickFB rfl rfl) (VL.op (R.pickTB rfl rfl) (VL.nil ⟨rfl, cutB rfl ?_, Mod.refl _ _⟩))))))))))))))))))) (fun g20_18 => VL.gF rfl rfl (VL.gF rfl rfl (VL.gF rfl rfl (VL.gU rfl rfl (VL.gU rfl rfl (VL.gU rfl rfl (VL.gU rfl rfl (VL.gU rfl rfl (VL.gU rfl rfl (VL.gF rfl rfl (VL.gT rfl rfl (VL.op (R.pickTB rfl rfl) (VL.op (R.pickTB rfl rfl) (VL.nil ⟨rfl, cutB rfl ?_, Mod.refl _ _⟩)))))))))))))))))))))))))))))) (fun g20_10 => VL.gF rfl rfl (VL.gF rfl rfl (VL.gF rfl rfl (VL.gF rfl rfl (VL.gF rfl rfl (VL.gT rfl rfl (VL.op (R.pickFB rfl rfl) (VL.gT rfl rfl (VL.op (R.mvB rfl) (VL.gT rfl rfl (VL.op (R.mvI rfl) (VL.gT rfl rfl (VL.op (R.mvI rfl) (VL.gT rfl rfl (VL.op (R.eql rfl rfl) (VL.gT rfl rfl (VL.op (R.mvB rfl) (VL.andP rfl rfl (fun g20_22 => VL.op (R.mvI rfl) (VL.gT rfl rfl (VL.op (R.mvS rfl) (VL.gT rfl rfl (VL.op (R.mvI rfl) (VL.gT rfl rfl (VL.op (R.ixS Try.runUnderlying23 Try.sizeOf3 rfl rfl (by have := hcj; omega) (by have := hcj; omega) ((hC12).some (i := pre.length) (by have := hcj; omega))) (VL.gT rfl rfl (VL.op (R.ld1 Try.isAgg3 rfl (((((hC12).ext e3).row (i := pre.length) (by have := hcj; omega)).cell (i := 0) rfl))) (VL.gT rfl rfl (VL.op (R.eql rfl rfl) (VL.gT rfl rfl (VL.op (R.pickTB rfl rfl) (VL.gT rfl rfl (VL.op (R.pickFB rfl rfl) (VL.op (R.pickTB rfl rfl) (VL.nil ⟨rfl, cutB rfl ?_, Mod.refl _ _⟩))))))))))))))))) (fun g20_22 => VL.gF rfl rfl (VL.gF rfl rfl (VL.gF rfl rfl (VL.gF rfl rfl (VL.gF rfl rfl (VL.gT rfl rfl (VL.op (R.pickFB rfl rfl) (VL.gT rfl rfl (VL.op (R.pickFB rfl rfl) (VL.op (R.pickTB rfl rfl) (VL.nil ⟨rfl, cutB rfl ?_, Mod.refl _ _⟩))))))))))))))))))))))))))))))))))))) (fun g20_6 => VL.gF rfl rfl (VL.gF rfl rfl (VL.gF rfl rfl (VL.gU rfl rfl (VL.gU rfl rfl (VL.gU rfl rfl (VL.gU rfl rfl (VL.gU rfl rfl (VL.gU rfl rfl (VL.gF rfl rfl (VL.gF rfl rfl (VL.gU rfl rfl (VL.gU rfl rfl (VL.gU rfl rfl (VL.gU rfl rfl (VL.gU rfl rfl (VL.gU rfl rfl (VL.gU rfl rfl (VL.gU rfl rfl (VL.gU rfl rfl (VL.gU rfl rfl (VL.gU rfl rfl (VL.gF rfl rfl (VL.op (R.pickFB rfl rfl) (VL.nil ⟨rfl, cutB rfl ?_, Mod.refl _ _⟩))))))))))))))))))))))))))))))))) (fun rg20 w20c e20c => V.condP rfl (fun c120 => V.region (VL.op (R.asB rfl) (VL.nil (V.region (VL.op (R.mvI rfl) (VL.op (R.add rfl rfl (by omega) (by omega)) (VL.op (R.asI rfl) (VL.nil (?_))))))))) (fun c120 => V.skip (V.region (VL.op (R.mvI rfl) (VL.op (R.add rfl rfl (by omega) (by omega)) (VL.op (R.asI rfl) (VL.nil (?_))))))))))))))))))))) (fun c82 => V.exit (V.region (VL.op (R.mvI rfl) (VL.op (R.add rfl rfl (by omega) (by omega)) (VL.op (R.asI rfl) (VL.nil (?_))))))))))))))
        iterate 6 first | exact decide_eq_decide.2 (by unfold hitP at_; omega) | exact (decide_eq_false (by unfold hitP at_; omega)).symm | exact (decide_eq_true (by unfold hitP at_; omega)).symm
        · exact ⟨(j + 1, false), rfl, ⟨by dsimp only; omega, e3.trans e20c, ⟨fun _ => .inr ⟨j, Nat.lt_succ_self _, c120⟩, fun _ => rfl⟩⟩, by dsimp only; omega⟩
        · refine ⟨(j + 1, okj), rfl, ⟨by dsimp only; omega, e3.trans e20c, ?_⟩, by dsimp only; omega⟩
          dsimp only
          rw [hokj]
          refine ⟨fun q => q.imp id fun ⟨j', z, y⟩ => ⟨j', by omega, y⟩, fun q => q.imp id fun ⟨j', z, y⟩ => ⟨j', ?_, y⟩⟩
          rcases Nat.lt_succ_iff_lt_or_eq.1 z with z | z
          · exact z
          · rw [z] at y; exact absurd y c120
        · refine ⟨(i + 1, okj), rfl, ⟨by dsimp only; omega, E12.trans e3, ?_⟩, by dsimp only; omega⟩
          dsimp only
          have hjl : j = pre.length := by omega
          rw [hokj, hok, hjl]
          constructor
          · rintro (⟨q, i', z, y⟩ | ⟨j', z, y⟩)
            · exact ⟨q, i', by omega, y⟩
            · exact ⟨c61.2, i, Nat.lt_succ_self _, j', z, y⟩
          · rintro ⟨q, i', z, y⟩
            rcases Nat.lt_succ_iff_lt_or_eq.1 z with z | z
            · exact .inl ⟨q, i', z, y⟩
            · rw [z] at y; exact .inr y
      · have E12 : Ext w1 w12c := E9.trans (e2.trans e12c)
        have hstep : stepB (apG same other) cs pre k = ok := by
          by_cases q : k < pre.length
          · have hil2 : i = other.length := by omega
            rw [step_is (.inr (hkh q))]
            have hch : clashF (apG same other) cs (pre ++ [cs.getD k default]) pre.length = true ↔ ok = false := by
              rw [clash_hit hinc hpl, hok, hil2]
              constructor
              · rintro ⟨p, hp1, j, hj, hh⟩
                obtain ⟨i', hi', rfl⟩ := List.getElem_of_mem hp1
                exact ⟨q, i', hi', j, hj, by rw [gdE hi']; exact hh⟩
              · rintro ⟨_, i', hi', j, hj, hh⟩
                exact ⟨_, getD_mem hi', j, hj, hh⟩
            cases hcc : clashF (apG same other) cs (pre ++ [cs.getD k default]) pre.length with
            | true => rw [hch.1 hcc]; rfl
            | false => cases ok with
              | true => rfl
              | false => rw [hch.2 rfl] at hcc; cases hcc
          · have hkl : k = pre.length := by omega
            have : ok = true := by
              cases ok with
              | true => rfl
              | false => exact absurd (hok.1 rfl).1 q
            rw [this, hkl]; exact hend
        refine V.region (VL.op (R.mvB rfl) (VL.op (R.not rfl) (VL.nil (V.cond rfl (fun c122 => V.exit (V.region (VL.op (R.mvI rfl) (VL.op (R.add rfl rfl (by omega) (by omega)) (VL.op (R.asI rfl) (VL.nil (?_))))))) (fun c122 => V.skip (V.seq (V.seq (?_))))))))
        · have hof : ok = false := by simpa using c122
          obtain ⟨x, rfl, hx⟩ := hskip (by rw [hstep, hof]) (by omega) w12c E12
          exact ⟨_, rfl, hx, by dsimp only; omega⟩
        · have hot : ok = true := by simpa using c122
          rw [hot] at hstep
          have ho12 := OwnT.ext ho9 (e2.trans e12c)
          have hI12 := TSl.ext hI9 (e2.trans e12c)
          have hC12 := TSl.ext hC9 (e2.trans e12c)
          refine V.region (VL.op (R.asI rfl) (VL.nil (V.block (?_))))
          refine V.loop [0, 1, 2, 3, 4, 5, 13, 14, 15, 16, 23] (fun x : Nat × List Int => [.slice ea ins.length ec, .slice sa same.length sc, .slice oa other.length oc, .slice ca cs.length cc, .int .i64 (pre.length : Nat), .slice na same.length nc, .slice xa xl xc, .int .i64 (k : Nat), .int .i64 (cs.getD k default), .slice a9 same.length c9, .int .i64 (x.1 : Nat)])
            (fun x w' => x.1 ≤ same.length ∧ Vc.Mod (aBlk a9) w12c w' ∧ OwnT encI 1 3 w1.heap.size w' a9 c9 x.2 ∧ x.2.length = same.length ∧ ∀ j, j < same.length → x.2.getD j default = if j < x.1 then fH cs (pre ++ [cs.getD k default]) F0 (at_ same (j : Int)) else fH cs pre F0 (at_ same (j : Int))) (fun x => same.length - x.1) (0, same.map (fH cs pre F0)) rfl ⟨Nat.zero_le _, Mod.refl _ _, ho12, hfl, fun j hj => by rw [if_neg (Nat.not_lt_zero _)]; exact at_map (x := (j : Int)) (fH cs pre F0) (by omega) (by omega)⟩ ?_
          rintro ρ ⟨i2, l⟩ w4 ⟨hi2, m4, ho4, hl4, hg4⟩
          dsimp only at hi2 m4 ho4 hl4 hg4 ⊢
          have E4 : Ext w1 w4 := E12.ownA m4 fun q hq => ho12.ge q hq
          have hI4 := TSl.ext hI (e1.trans E4)
          have hC4 := TSl.ext hC (e1.trans E4)
          refine V.seq (V.seq (V.region (VL.op (R.mvI rfl) (VL.op (R.mvS rfl) (VL.op (R.lenS Try.runUnderlying23 rfl) (VL.op (R.lss rfl rfl) (VL.nil (V.condP rfl (fun c126 => V.skip (V.seq (V.block (V.seq (V.regionQ mixed 8 (by kernel_rfl) rfl (fun w' => Ext _ w') (Ext.drawn _) (VQ.op (fun wq eq => R.mvS rfl) (VQ.op (fun wq eq => R.mvI rfl) (VQ.op (fun wq eq => R.ixS Try.runUnderlying23 Try.sizeOf3 rfl rfl (by omega) (by omega) ((hI4).some (i := i2) (by omega))) (VQ.op (fun wq eq => R.ld1 Try.isAgg3 rfl (((((hI4).ext ((Mod.refl Vc.nob w4).trans eq)).row (i := i2) (by omega)).cell (i := 0) rfl))) (VQ.op (fun wq eq => R.mvS rfl) (VQ.op (fun wq eq => R.mvI rfl) (VQ.op (fun wq eq => R.ixS Try.runUnderlying23 Try.sizeOf3 rfl rfl (by omega) (by omega) ((hC4).some (i := pre.length) (by omega))) (VQ.op (fun wq eq => R.ld1 Try.isAgg3 rfl (((((hC4).ext ((Mod.refl Vc.nob w4).trans eq)).row (i := pre.length) (by omega)).cell (i := 0) rfl))) (VQ.nil fun w26q e26q => VL.op (R.eql rfl rfl) (VL.nil (V.condP rfl (fun c137 => V.region (VL.op (R.mvS rfl) (VL.op (R.mvI rfl) (VL.op (R.mvI rfl) (VL.op (R.ixS Try.runUnderlying23 Try.sizeOf3 rfl rfl (by omega) (by omega) ((ho4.sl).some (i := i2) (by omega))) (VL.ownSt eltI (v := .int _ _) Try.sizeOf3 ((OwnT.ext ho4 e26q)) i2 0 (cs.getD k default) rfl rfl (by omega) rfl rfl rfl rfl rfl fun w5 ho5 m5 hs5 => VL.nil (V.region (VL.op (R.mvI rfl) (VL.op (R.add rfl rfl (by omega) (by omega)) (VL.op (R.asI rfl) (VL.nil (?_)))))))))))) (fun c137 => V.skip (V.region (VL.op (R.mvI rfl) (VL.op (R.add rfl rfl (by omega) (by omega)) (VL.op (R.asI rfl) (VL.nil (?_))))))))))))))))))))))) (fun c126 => V.exit (V.seq (?_)))))))))))
          · have hil2 : i2 < same.length := by omega
            refine ⟨(i2 + 1, l.set i2 (cs.getD k default)), rfl, ⟨by dsimp only; omega, (m4.trans (Ext.mod e26q)).trans m5, ho5, by dsimp only; rw [List.length_set]; exact hl4, fun j hj => ?_⟩, by dsimp only; omega⟩
            dsimp only
            rw [set_get (by omega)]
            by_cases q : j = i2
            · subst q
              rw [if_pos rfl, if_pos (Nat.lt_succ_self _), fH_next hn hpl]; exact (if_pos c137).symm
            · rw [if_neg q, hg4 j hj]
              by_cases q2 : j < i2
              · rw [if_pos q2, if_pos (by omega)]
              · rw [if_neg q2, if_neg (by omega)]
          · have hil2 : i2 < same.length := by omega
            refine ⟨(i2 + 1, l), rfl, ⟨by dsimp only; omega, m4.trans (Ext.mod e26q), OwnT.ext ho4 e26q, hl4, fun j hj => ?_⟩, by dsimp only; omega⟩
            dsimp only
            rw [hg4 j hj]
            by_cases q : j = i2
            · subst q
              rw [if_neg (Nat.lt_irrefl _), if_pos (Nat.lt_succ_self _), fH_next hn hpl]; exact (if_neg c137).symm
            · by_cases q2 : j < i2
              · rw [if_pos q2, if_pos (by omega)]
              · rw [if_neg q2, if_neg (by omega)]
          · have hil2 : i2 = same.length := by omega
            have hl : l = same.map (fH cs (pre ++ [cs.getD k default]) F0) := by
              refine List.ext_getElem (by rw [List.length_map]; exact hl4) fun j h1 h2 => ?_
              rw [← gdE h1, hg4 j (by omega), if_pos (by omega), List.getElem_map]
              congr 1
              unfold at_
              rw [Int.toNat_natCast, gdE (by omega)]
            subst hl
            have hp2 := step_pre hp hpl (k := k) (by omega) hstep
            have hih := ih (pre ++ [cs.getD k default]) a9 c9 w4 (by rw [List.length_append, List.length_singleton]; omega) hp2 (fun q => OwnT.hax ho4 q) (hS.ext (e1.trans E4)) hI4 (hO.ext (e1.trans E4)) hC4 ho4.sl
            rw [show (((pre ++ [cs.getD k default]).length : Nat) : Int) = (pre.length : Int) + 1 by simp] at hih
            refine V.region (VL.op (R.mvS rfl) (VL.op (R.mvS rfl) (VL.op (R.mvS rfl) (VL.op (R.mvS rfl) (VL.op (R.mvI rfl) (VL.op (R.add rfl rfl (by omega) (by omega)) (VL.op (R.mvS rfl) (VL.callX Try.call41 rfl (hih) fun y w6 ⟨f, hf, hy6⟩ e6 => VL.op (R.asS rfl) (VL.nil (V.seq (?_)))))))))))
            obtain ⟨ya, yc⟩ := y
            dsimp only at hy6 ⊢
            have hS6 := hS.ext (e1.trans (E4.trans e6))
            have hcf := cmpl_mem hp hpm (by omega) hstep (fstB_mem hf)
            have hlf : (same.map (fH cs f F0)).length = same.length := List.length_map _
            have hsl : 0 < same.length := by have := hcb pre.length hpl; omega
            have hyn : ya ≠ none := fun q => by
              obtain ⟨_, _, z⟩ := TSl.some hy6 (i := 0) (by omega)
              rw [z] at q; cases q
            rcases hX with ⟨rfl, rfl, rfl, q4, q5⟩ | ⟨q1, rfl, g, q3, q4⟩
            · refine V.region (VL.op (R.mvS rfl) (VL.op (R.lit (R.eqlNil Try.runUnderlying23 rfl rfl) ((decide_eq_true rfl))) (VL.op (R.mvB rfl) (VL.gF rfl rfl (VL.gF rfl rfl (VL.gF rfl rfl (VL.gF rfl rfl (VL.gF rfl rfl (VL.gF rfl rfl (VL.gF rfl rfl (VL.op (R.pickTB rfl rfl) (VL.op (R.mvB rfl) (VL.gF rfl rfl (VL.gF rfl rfl (VL.gF rfl rfl (VL.gF rfl rfl (VL.gF rfl rfl (VL.gF rfl rfl (VL.gF rfl rfl (VL.gF rfl rfl (VL.gU rfl rfl (VL.gU rfl rfl (VL.gU rfl rfl (VL.gF rfl rfl (VL.op (R.pickTB rfl rfl) (VL.nil (V.condT rfl (V.region (VL.op (R.mvS rfl) (VL.op (R.asS rfl) (VL.nil (V.region (VL.op (R.mvI rfl) (VL.op (R.add rfl rfl (by omega) (by omega)) (VL.op (R.asI rfl) (VL.nil (?_)))))))))))))))))))))))))))))))))))))
              exact ⟨(k + 1, ya, same.length, yc), rfl, ⟨by dsimp only; omega, e1.trans (E4.trans e6), .inr ⟨hyn, rfl, f, by dsimp only; rw [bstK_succ, if_pos hstep, q5, hf]; rfl, hy6⟩⟩, by dsimp only; omega⟩
            · have q6 := TSl.ext q4 (E4.trans e6)
              obtain ⟨j, hjk, hcg⟩ := bstK_some hp hpm k g (by omega) q3
              have hpk := pick_less k_ hm hF0 (h := h) (by rw [← hcs]; exact hinc) hjk (pre := pre) (f := f) (g := g) (by omega) (by rw [← hcs]; exact hpl) (by rw [← hcs]; exact hcg) (by rw [← hcs]; exact hcf)
              rw [← hcs, ← hins] at hpk
              have hlg : (same.map (fH cs g F0)).length = same.length := List.length_map _
              refine V.regionCut [150, 151, 152, 153, 154, 155, 156, 157, 158, 159, 160, 161, 162, 163, 164, 165, 166, 167, 168, 169, 170, 171, 172, 173, 174] 174 (.bool (decide (keptF (wtG same edges) cs g < keptF (wtG same edges) cs f))) (fun w' => Ext _ w') rfl (VL.op (R.mvS rfl) (VL.op (R.lit (R.eqlNil Try.runUnderlying23 rfl rfl) ((decide_eq_false q1))) (VL.op (R.mvB rfl) (VL.gT rfl rfl (VL.op (R.mvS rfl) (VL.gT rfl rfl (VL.op (R.mvS rfl) (VL.gT rfl rfl (VL.callP Try.call16 rfl (rcost_specN ea ya ec yc same.length ins (same.map (fH cs f F0)) _ hlf (by omega) (hS6.ext (Mod.refl _ _)) (hy6.ext (Mod.refl _ _))) fun w29_5 e29_5 => VL.gT rfl rfl (VL.op (R.mvS rfl) (VL.gT rfl rfl (VL.op (R.mvS rfl) (VL.gT rfl rfl (VL.callP Try.call16 rfl (rcost_specN ea xa ec xc same.length ins (same.map (fH cs g F0)) _ hlg (by omega) (hS6.ext e29_5) (q6.ext e29_5)) fun w29_8 e29_8 => VL.gT rfl rfl (VL.op (R.lss rfl rfl) (VL.op (R.pickFB rfl rfl) (VL.op (R.mvB rfl) (VL.orP rfl rfl (fun g29_11 => VL.op (R.mvS rfl) (VL.gT rfl rfl (VL.op (R.mvS rfl) (VL.gT rfl rfl (VL.callP Try.call16 rfl (rcost_specN ea ya ec yc same.length ins (same.map (fH cs f F0)) _ hlf (by omega) (hS6.ext (e29_5.trans e29_8)) (hy6.ext (e29_5.trans e29_8))) fun w29_14 e29_14 => VL.gT rfl rfl (VL.op (R.mvS rfl) (VL.gT rfl rfl (VL.op (R.mvS rfl) (VL.gT rfl rfl (VL.callP Try.call16 rfl (rcost_specN ea xa ec xc same.length ins (same.map (fH cs g F0)) _ hlg (by omega) (hS6.ext ((e29_5.trans e29_8).trans e29_14)) (q6.ext ((e29_5.trans e29_8).trans e29_14))) fun w29_17 e29_17 => VL.gT rfl rfl (VL.op (R.eql rfl rfl) (VL.gT rfl rfl (VL.op (R.mvB rfl) (VL.andP rfl rfl (fun g29_19 => VL.op (R.mvS rfl) (VL.gT rfl rfl (VL.op (R.mvS rfl) (VL.gT rfl rfl (VL.callP Try.call42 rfl (less_specN ya xa yc xc same.length (same.map (fH cs f F0)) (same.map (fH cs g F0)) _ hlf hlg (by omega) (hy6.ext (((e29_5.trans e29_8).trans e29_14).trans e29_17)) (q6.ext (((e29_5.trans e29_8).trans e29_14).trans e29_17))) fun w29_22 e29_22 => VL.gT rfl rfl (VL.op (R.pickTB rfl rfl) (VL.op (R.pickFB rfl rfl) (VL.nil ⟨rfl, cutB rfl ?_, (Mod.trans e29_5 (Mod.trans e29_8 (Mod.trans e29_14 (Mod.trans e29_17 e29_22))))⟩)))))))) (fun g29_19 => VL.gF rfl rfl (VL.gF rfl rfl (VL.gT rfl rfl (VL.op (R.pickFB rfl rfl) (VL.op (R.pickFB rfl rfl) (VL.nil ⟨rfl, cutB rfl ?_, (Mod.trans e29_5 (Mod.trans e29_8 (Mod.trans e29_14 e29_17)))⟩)))))))))))))))))))) (fun g29_11 => VL.gF rfl rfl (VL.gF rfl rfl (VL.gF rfl rfl (VL.gF rfl rfl (VL.gF rfl rfl (VL.gF rfl rfl (VL.gF rfl rfl (VL.gU rfl rfl (VL.gU rfl rfl (VL.gU rfl rfl (VL.gF rfl rfl (VL.op (R.pickTB rfl rfl) (VL.nil ⟨rfl, cutB rfl ?_, (Mod.trans e29_5 e29_8)⟩))))))))))))))))))))))))))))))) (fun rg29 w29c e29c => V.condP rfl (fun c174 => V.region (VL.op (R.mvS rfl) (VL.op (R.asS rfl) (VL.nil (V.region (VL.op (R.mvI rfl) (VL.op (R.add rfl rfl (by omega) (by omega)) (VL.op (R.asI rfl) (VL.nil (?_)))))))))) (fun c174 => V.skip (V.region (VL.op (R.mvI rfl) (VL.op (R.add rfl rfl (by omega) (by omega)) (VL.op (R.asI rfl) (VL.nil (?_))))))))
              · cases hb : lexB (same.map (fH cs f F0)) (same.map (fH cs g F0)) with
                | true => exact (decide_eq_true (hpk.1 (.inr ⟨g29_19, hb⟩))).symm
                | false => exact (decide_eq_false fun q => (hpk.2 q).elim g29_11 fun z => by rw [hb] at z; cases z.2).symm
              · exact (decide_eq_false fun q => (hpk.2 q).elim g29_11 fun z => g29_19 z.1).symm
              · exact (decide_eq_true (hpk.1 (.inl g29_11))).symm
              · refine ⟨(k + 1, ya, same.length, yc), rfl, ⟨by dsimp only; omega, e1.trans (E4.trans (e6.trans e29c)), .inr ⟨hyn, rfl, f, ?_, TSl.ext hy6 e29c⟩⟩, by dsimp only; omega⟩
                dsimp only
                rw [bstK_succ, if_pos hstep, q3, hf]
                unfold comb pickF
                exact if_pos c174
              · refine ⟨(k + 1, xa, same.length, xc), rfl, ⟨by dsimp only; omega, e1.trans (E4.trans (e6.trans e29c)), .inr ⟨q1, rfl, g, ?_, TSl.ext q6 e29c⟩⟩, by dsimp only; omega⟩
                dsimp only
                rw [bstK_succ, if_pos hstep, q3, hf]
                unfold comb pickF
                exact if_neg c174
    · have hkl : k = pre.length + 1 := by omega
      subst hkl
      rcases hX with ⟨_, _, _, q, _⟩ | ⟨q1, q2, g, q3, q4⟩
      · omega
      · exact ⟨(xa, xc), by rw [q2], ⟨g, by rw [bstK_all]; exact q3, q4⟩, e1⟩
end Go.Proofs.Ytglaigeellpikaa
