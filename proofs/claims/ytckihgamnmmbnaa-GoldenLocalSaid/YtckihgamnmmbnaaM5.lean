/- Golden: entities of one record, and the splits. -/
import Derived.Test.YtckihgamnmmbnaaM3
namespace Go.Proofs.Ytckihgamnmmbnaa
open Go.Vc Go.Sort
variable {s : Set_} {recs : List Rec} {L : List Int}
theorem gget {α : Type} [Inhabited α] {l : List α} {i : Nat} (h : i < l.length) : l.getD i default = l[i] := by simp [List.getD, h]
/-- The rules and the values are right. -/
structure FitOk (s : Set_) (recs : List Rec) : Prop where
  keeps : ∀ k ∈ s.keeps, 1 ≤ k.by_ ∧ k.by_ ≤ 6
  cells : ∀ r ∈ recs, ∀ c ∈ r.cells, validV c.val = true
theorem rule_rng (h : FitOk s recs) (t c : Int) : 1 ≤ ruleG s t c ∧ ruleG s t c ≤ 6 := by
  unfold ruleG
  split
  · rename_i k hk
    exact h.keeps k (List.mem_of_find?_eq_some hk)
  · omega
theorem valid_null {v : Val} (h1 : validV v = true) (h2 : v.kind = 0) : v = ⟨0, 0, ⟨#[]⟩⟩ := by
  obtain ⟨k, n, t⟩ := v
  dsimp only at h2
  subst h2
  simp [validV] at h1
  rw [h1.1, h1.2]
theorem one_rank {by_ : Int} {c : Cell} {t : Int} (h : 1 ≤ by_ ∧ by_ ≤ 6) : rankF by_ [c] [t] = if counts c = true then [0] else [] := by
  have hr : rightB by_ [c].length [t].length = true := by simp [rightB]; omega
  unfold rankF
  rw [if_pos hr]
  have hp := rankL_perm by_ [c] [t]
  have hi : idxK [c] [c].length = if counts c = true then [0] else [] := by
    show (List.range 1).filter _ = _
    simp [List.range_succ, List.filter]
    split <;> simp_all
  rw [hi] at hp
  split
  · rename_i hc; rw [if_pos hc] at hp; exact List.perm_singleton.1 hp
  · rename_i hc; rw [if_neg hc] at hp; exact List.perm_nil.1 hp
theorem one_base (h : FitOk s recs) {m t : Int} {c : Nat} (hm : m.toNat < recs.length) (hc : c < (recs.getD m.toNat default).cells.length) :
    baseC s recs [m] t (c : Nat) = ((recs.getD m.toNat default).cells.getD c default).val ∧ othG s recs [m] t (c : Nat) = [] := by
  have hcl : colL recs [m] (c : Nat) = [(recs.getD m.toNat default).cells.getD c default] := rfl
  obtain ⟨x, hx⟩ : ∃ x, x = (recs.getD m.toNat default).cells.getD c default := ⟨_, rfl⟩
  have hv : validV x.val = true := h.cells _ (gmem hm) x (hx ▸ gmem hc)
  have hct : colT s recs [m] = [trustG s (recs.getD m.toNat default)] := rfl
  have hr := one_rank (c := x) (t := trustG s (recs.getD m.toNat default)) (rule_rng h t (c : Nat))
  unfold baseC chosen chooseF othG othersF
  rw [hcl, hct, ← hx, hr]
  by_cases hcx : counts x = true
  · rw [if_pos hcx]
    exact ⟨rfl, rfl⟩
  · rw [if_neg hcx]
    refine ⟨?_, rfl⟩
    show (⟨0, 0, ⟨#[]⟩⟩ : Val) = x.val
    unfold counts at hcx
    rw [hv, Bool.true_and] at hcx
    exact (valid_null hv (by simpa using hcx)).symm
theorem vOut_one {mem : List Int} {t : Int} : ∀ c, (∀ c', c' < c → othG s recs mem t (c' : Nat) = []) → vOut s recs mem t c = [baseF s recs mem t] := by
  intro c
  induction c with
  | zero => intro _; rfl
  | succ c ih =>
    intro h
    rw [vOut, h c (by omega)]
    exact ih fun c' hc => h c' (by omega)
/-- An entity of one record. -/
theorem ent_one (hf : FitOk s recs) (h : EOk s recs L) {x : Int} (hx : x ∈ headsF L L.length) (h1 : (grpF L x L.length).length = 1) :
    (entF s recs L x).length = 1 ∧ ((entF s recs L x).getD 0 default).row = rowG (recs.getD ((grpF L x L.length).getD 0 default).toNat default) := by
  have hgo := grp_ok h.len h.at_ hx
  obtain ⟨m, hm⟩ : ∃ m, grpF L x L.length = [m] := by
    match hl : grpF L x L.length with
    | [m] => exact ⟨m, rfl⟩
    | [] => rw [hl] at h1; simp at h1
    | _ :: _ :: _ => rw [hl] at h1; simp at h1
  unfold entF
  rw [hm] at hgo ⊢
  obtain ⟨_, hm1, hm2⟩ := hgo.mem m (by simp)
  have hone := fun c (hc : c < ncol s (tabOf recs x)) => one_base (s := s) hf (t := tabOf recs x) hm1 (by rw [hm2]; exact hc)
  have hv := vOut_one (s := s) (recs := recs) (mem := [m]) (t := tabOf recs x) (ncol s (tabOf recs x)) fun c hc => (hone c hc).2
  have he : factsG s recs [m] (tabOf recs x) = [baseF s recs [m] (tabOf recs x)] := by
    unfold factsG
    rw [hv, if_pos (by rfl)]; rfl
  rw [he]
  refine ⟨rfl, ?_⟩
  show baseG s recs [m] (tabOf recs x) = rowG (recs.getD m.toNat default)
  refine List.ext_getElem (by rw [baseG_len, ← hm2]; simp [rowG]) fun c h2 h3 => ?_
  have hc : c < ncol s (tabOf recs x) := by rw [baseG_len] at h2; exact h2
  have h4 := (hone c hc).1
  have h5 : (baseG s recs [m] (tabOf recs x))[c] = baseC s recs [m] (tabOf recs x) (c : Nat) := by simp [baseG]
  rw [h5, h4]
  have hc' : c < (recs.getD m.toNat default).cells.length := by rw [hm2]; exact hc
  obtain ⟨r, hr⟩ : ∃ r, r = recs.getD m.toNat default := ⟨_, rfl⟩
  simp only [← hr] at hc' h3 ⊢
  simp [rowG, List.getD, hc']
theorem ent_num (x : Int) : (entF s recs L x).length = nV s recs (grpF L x L.length) (tabOf recs x) + nS (grpF L x L.length) := factsG_num _ _ _ _
/-- An entity of several records. -/
theorem ent_many {x : Int} (h1 : (grpF L x L.length).length ≠ 1) : (grpF L x L.length).length + 1 ≤ (entF s recs L x).length ∧ ∀ k, k < (grpF L x L.length).length →
    (entF s recs L x).getD ((entF s recs L x).length - (grpF L x L.length).length + k) default = spF recs (grpF L x L.length) (tabOf recs x) k := by
  have hn := (nV_ok s recs (grpF L x L.length) (tabOf recs x)).1
  have hS : nS (grpF L x L.length) = (grpF L x L.length).length := if_neg h1
  have hl := ent_num (s := s) (recs := recs) (L := L) x
  refine ⟨by omega, fun k hk => ?_⟩
  rw [show (entF s recs L x).length - (grpF L x L.length).length + k = nV s recs (grpF L x L.length) (tabOf recs x) + k by omega]
  exact facts_s (by omega)
/-- Behind an entity another one begins. -/
theorem all_next (h : EOk s recs L) {pre post : List Int} {x : Int} (hs : hsF s recs L = pre ++ x :: post) (hl : off s recs L pre + (entF s recs L x).length < (allF s recs L).length) :
    ((allF s recs L).getD (off s recs L pre + (entF s recs L x).length) default).ent ≠ x := by
  cases post with
  | nil =>
    have := off_all (s := s) (recs := recs) (L := L)
    rw [hs, off_succ] at this
    omega
  | cons y post =>
    have hy : hsF s recs L = (pre ++ [x]) ++ y :: post := by rw [hs]; simp
    have hp := ent_pos (s := s) (recs := recs) (L := L) y
    have e := (all_at hy hp).1
    rw [off_succ, Nat.add_zero] at e
    rw [e, (ent_same h (mem_split hy) hp).2.1]
    have := hsF_sorted s recs L
    rw [hs, List.pairwise_append, List.pairwise_cons] at this
    have := this.2.1.1 y (by simp)
    unfold HLt at this
    intro e; subst e; omega
theorem ownT_le {α : Type} {enc : α → List Value} {s e B : Nat} {w : World} {a : Option Addr} {cap : Nat} {l : List α} (h : OwnT enc s e B w a cap l) : l.length ≤ cap := by
  rcases OwnSl.own h |>.2 with ⟨_, h0⟩ | ⟨g, cap', cur, hv, _, hg, hn, _, hc, ht⟩
  · rw [List.length_map] at h0; omega
  · injection hv with _ h1 h2
    rw [List.length_map] at hn h1
    omega
end Go.Proofs.Ytckihgamnmmbnaa
