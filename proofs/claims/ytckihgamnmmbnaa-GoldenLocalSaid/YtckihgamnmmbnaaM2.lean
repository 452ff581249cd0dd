/- Golden: the facts of all entities, in their order. -/
import Derived.Test.YtckihgamnmmbnaaM1
namespace Go.Proofs.Ytckihgamnmmbnaa
open Go.Vc Go.Sort

/-- The entities are as they should be. -/
structure EOk (s : Set_) (recs : List Rec) (L : List Int) : Prop where
  len : L.length = recs.length
  at_ : ∀ i, i < L.length → entAt s recs L i
theorem resF_ok {s : Set_} {recs : List Rec} {L : List Int} (h : (resF s recs L).2 = 0) : EOk s recs L ∧ (resF s recs L).1 = allF s recs L ∧ (allF s recs L).length ≤ 4000 := by
  unfold resF at h ⊢
  split at h
  · rename_i hb
    rw [if_pos hb]
    obtain ⟨h1, h2⟩ := of_decide_eq_true hb
    split at h
    · rename_i h3
      rw [if_pos h3]
      exact ⟨⟨h1, h2⟩, rfl, h3⟩
    · simp at h
  · simp at h
theorem resF_bad {s : Set_} {recs : List Rec} {L : List Int} (h : (resF s recs L).2 ≠ 0) : (resF s recs L).1 = [] := by
  unfold resF at h ⊢
  split
  · rename_i hb
    rw [if_pos hb] at h
    split
    · rename_i h3; rw [if_pos h3] at h; exact absurd rfl h
    · rfl
  · rfl
variable {s : Set_} {recs : List Rec} {L : List Int}
theorem EOk.heads (h : EOk s recs L) : ∀ x ∈ headsF L L.length, HOk s recs x := heads_ok h.len h.at_
theorem EOk.mem (h : EOk s recs L) {x : Int} (hx : x ∈ hsF s recs L) : x ∈ headsF L L.length := (hsF_mem h.heads).1 hx
/-- The first member of an entity is its head. -/
theorem grp_first (h : EOk s recs L) {x : Int} (hx : x ∈ headsF L L.length) : (grpF L x L.length).getD 0 default = x := by
  obtain ⟨k, hk, he, rfl⟩ := headsF_mem.1 hx
  have hm : ((k : Nat) : Int) ∈ grpF L (k : Nat) L.length := grpF_mem.2 ⟨k, hk, he, rfl⟩
  have hp : 0 < (grpF L (k : Nat) L.length).length := List.length_pos_of_mem hm
  obtain ⟨q, hq, e⟩ := List.getElem_of_mem hm
  have h0 : (grpF L (k : Nat) L.length).getD 0 default = (grpF L (k : Nat) L.length)[0] := by simp [List.getD, hp]
  rw [h0]
  obtain ⟨k0, h1, h2, h3⟩ := grpF_mem.1 (List.getElem_mem hp)
  have h4 := (h.at_ k0 h1).1
  rw [h2] at h4
  by_cases q0 : q = 0
  · subst q0; exact e
  · have := List.pairwise_iff_getElem.1 (grpF_lt L (k : Nat) L.length) 0 q hp hq (by omega)
    rw [e, h3] at this
    omega
def off (s : Set_) (recs : List Rec) (L : List Int) (pre : List Int) : Nat := (pre.flatMap (entF s recs L)).length
theorem off_succ (pre : List Int) (x : Int) : off s recs L (pre ++ [x]) = off s recs L pre + (entF s recs L x).length := by
  simp [off]
theorem off_nil : off s recs L [] = 0 := rfl
theorem off_all : off s recs L (hsF s recs L) = (allF s recs L).length := rfl
theorem all_at {pre post : List Int} {x : Int} (h : hsF s recs L = pre ++ x :: post) {k : Nat} (hk : k < (entF s recs L x).length) :
    (allF s recs L).getD (off s recs L pre + k) default = (entF s recs L x).getD k default ∧ off s recs L pre + (entF s recs L x).length ≤ (allF s recs L).length := by
  unfold allF off
  rw [h, List.flatMap_append, List.flatMap_cons]
  refine ⟨?_, by simp⟩
  rw [gapp_r, gapp_l _ _ _ hk]
theorem find_in (F : Int → List Fac) : ∀ (hs : List Int) (i : Nat), i < (hs.flatMap F).length → ∃ pre x post k, hs = pre ++ x :: post ∧ k < (F x).length ∧ i = (pre.flatMap F).length + k := by
  intro hs
  induction hs with
  | nil => intro i hi; simp at hi
  | cons a hs ih =>
    intro i hi
    rw [List.flatMap_cons, List.length_append] at hi
    by_cases h : i < (F a).length
    · exact ⟨[], a, hs, i, rfl, h, by simp⟩
    · obtain ⟨pre, x, post, k, h1, h2, h3⟩ := ih (i - (F a).length) (by omega)
      exact ⟨a :: pre, x, post, k, by rw [h1]; rfl, h2, by rw [List.flatMap_cons, List.length_append]; omega⟩
theorem find_blk {i : Nat} (h : i < (allF s recs L).length) : ∃ pre x post k, hsF s recs L = pre ++ x :: post ∧ k < (entF s recs L x).length ∧ i = off s recs L pre + k := find_in _ _ _ h
theorem mem_split {pre post : List Int} {x : Int} (h : hsF s recs L = pre ++ x :: post) : x ∈ hsF s recs L := by rw [h]; simp
theorem ent_pos (x : Int) : 0 < (entF s recs L x).length := by
  unfold entF
  rw [factsG_num]
  have := (nV_ok s recs (grpF L x L.length) (tabOf recs x)).1
  omega
/-- A fact and its place in its entity. -/
theorem ent_same (h : EOk s recs L) {x : Int} (hx : x ∈ hsF s recs L) {k : Nat} (hk : k < (entF s recs L x).length) :
    ((entF s recs L x).getD k default).table = tabOf recs x ∧ ((entF s recs L x).getD k default).ent = x ∧ (((entF s recs L x).getD k default).variant = 0 ↔ k = 0) := by
  have h1 := facts_same hk
  rw [grp_first h (h.mem hx)] at h1
  exact h1
/-- Ordered by table, then by entity. -/
def FLt (f g : Fac) : Prop := f.table < g.table ∨ f.table = g.table ∧ f.ent < g.ent
theorem all_order (h : EOk s recs L) {i : Nat} (hi : i < (allF s recs L).length) :
    (((allF s recs L).getD i default).variant = 0 → i = 0 ∨ FLt ((allF s recs L).getD (i - 1) default) ((allF s recs L).getD i default)) ∧
    (((allF s recs L).getD i default).variant ≠ 0 → 0 < i ∧ ((allF s recs L).getD (i - 1) default).table = ((allF s recs L).getD i default).table ∧ ((allF s recs L).getD (i - 1) default).ent = ((allF s recs L).getD i default).ent) := by
  obtain ⟨pre, x, post, k, h1, h2, h3⟩ := find_blk hi
  have hx := mem_split h1
  obtain ⟨a1, a2, a3⟩ := ent_same h hx h2
  have e1 := (all_at h1 h2).1
  rw [← h3] at e1
  rw [e1]
  refine ⟨fun hv => ?_, fun hv => ?_⟩
  · have k0 := a3.1 hv
    subst k0
    by_cases hp : pre = []
    · subst hp; rw [off_nil] at h3; exact .inl h3
    · right
      obtain ⟨pre', y, rfl⟩ : ∃ p y, pre = p ++ [y] := ⟨pre.dropLast, pre.getLast hp, (List.dropLast_concat_getLast hp).symm⟩
      rw [off_succ] at h3
      have hy : hsF s recs L = pre' ++ y :: (x :: post) := by rw [h1]; simp
      have hyp := ent_pos (s := s) (recs := recs) (L := L) y
      have hl : (entF s recs L y).length - 1 < (entF s recs L y).length := by omega
      have e2 := (all_at hy hl).1
      obtain ⟨b1, b2, _⟩ := ent_same h (mem_split hy) hl
      rw [show i - 1 = off s recs L pre' + ((entF s recs L y).length - 1) by omega, e2]
      have hs := hsF_sorted s recs L
      rw [hy, List.pairwise_append, List.pairwise_cons] at hs
      have := hs.2.1.1 x (by simp)
      unfold FLt
      rw [a1, a2, b1, b2]
      exact this
  · have k0 : k ≠ 0 := fun e => hv (a3.2 e)
    have e2 := (all_at h1 (show k - 1 < (entF s recs L x).length by omega)).1
    obtain ⟨b1, b2, _⟩ := ent_same h hx (show k - 1 < (entF s recs L x).length by omega)
    rw [show i - 1 = off s recs L pre + (k - 1) by omega, e2]
    exact ⟨by omega, by rw [a1, b1], by rw [a2, b2]⟩
theorem all_mem {f : Fac} (h : EOk s recs L) (hf : f ∈ allF s recs L) : ∃ x ∈ headsF L L.length, ∃ k, k < (entF s recs L x).length ∧ f = (entF s recs L x).getD k default := by
  obtain ⟨x, hx, hf⟩ := List.mem_flatMap.1 hf
  obtain ⟨k, hk, e⟩ := List.getElem_of_mem hf
  exact ⟨x, h.mem hx, k, hk, by rw [← e]; simp [List.getD, hk]⟩
/-- The values of a fact. -/
structure ValOk (recs : List Rec) (L : List Int) (f : Fac) : Prop where
  frm : ∀ m ∈ f.frm, 0 ≤ m ∧ m.toNat < recs.length ∧ L.getD m.toNat default = f.ent ∧ (recs.getD m.toNat default).table = f.table ∧ (recs.getD m.toNat default).cells.length = f.row.length
  val : ∀ c, c < f.row.length → f.row.getD c default = ⟨0, 0, ⟨#[]⟩⟩ ∨ ∃ m ∈ f.frm, ((recs.getD m.toNat default).cells.getD c default).val = f.row.getD c default
theorem cval_mem {mem : List Int} {c : Nat} {i : Int} (h0 : 0 ≤ i) (h : i < mem.length) : ∃ m ∈ mem, ((recs.getD m.toNat default).cells.getD c default).val = cval recs mem c i := by
  have hi : i.toNat < mem.length := by omega
  refine ⟨mem.getD i.toNat default, gmem hi, ?_⟩
  unfold cval colL
  rw [gmap _ _ _ hi]
  rfl
theorem baseC_mem {mem : List Int} {t : Int} {c : Nat} : baseC s recs mem t (c : Nat) = ⟨0, 0, ⟨#[]⟩⟩ ∨ ∃ m ∈ mem, ((recs.getD m.toNat default).cells.getD c default).val = baseC s recs mem t (c : Nat) := by
  unfold baseC
  split
  · rename_i h
    exact .inr (cval_mem h (chosen_lt s recs mem t (c : Nat)))
  · exact .inl rfl
theorem val_ok (h : EOk s recs L) {f : Fac} (hf : f ∈ allF s recs L) : ValOk recs L f := by
  obtain ⟨x, hx, k, hk, rfl⟩ := all_mem h hf
  have hgo := grp_ok h.len h.at_ hx
  have hfi := grp_first h hx
  have hmem : ∀ m ∈ grpF L x L.length, 0 ≤ m ∧ m.toNat < recs.length ∧ L.getD m.toNat default = x ∧ (recs.getD m.toNat default).table = tabOf recs x ∧ (recs.getD m.toNat default).cells.length = ncol s (tabOf recs x) := fun m hm => by
    obtain ⟨h1, h2, h3⟩ := hgo.mem m hm
    obtain ⟨k', _, h5, h6⟩ := grpF_mem.1 hm
    exact ⟨h1, h2, by rw [h6]; exact h5, (grp_tab h.at_ hm).1, h3⟩
  have hbl := baseG_len s recs (grpF L x L.length) (tabOf recs x)
  rcases facts_at hk with ⟨_, e⟩ | ⟨_, _, c, i, hc, hi, e⟩ | ⟨h1, h2, e⟩
  · unfold entF
    rw [e]
    refine ⟨fun m hm => ?_, fun c hc => ?_⟩
    · obtain ⟨h1, h2, h3, h4, h5⟩ := hmem m hm
      exact ⟨h1, h2, by rw [h3]; exact hfi.symm, h4, by rw [h5]; exact hbl.symm⟩
    · have hc : c < ncol s (tabOf recs x) := by rw [← hbl]; exact hc
      show (baseG s recs (grpF L x L.length) (tabOf recs x)).getD c default = _ ∨ ∃ m ∈ grpF L x L.length, _ = (baseG s recs (grpF L x L.length) (tabOf recs x)).getD c default
      rw [baseG_at _ _ _ _ hc]
      exact baseC_mem
  · unfold entF
    rw [e]
    have hrl : (varF recs (grpF L x L.length) (tabOf recs x) (baseG s recs (grpF L x L.length) (tabOf recs x)) c i k).row.length = ncol s (tabOf recs x) := by
      unfold varF; rw [List.length_set]; exact hbl
    refine ⟨fun m hm => ?_, fun d hd => ?_⟩
    · obtain ⟨h1, h2, h3, h4, h5⟩ := hmem m hm
      exact ⟨h1, h2, by rw [h3]; exact hfi.symm, h4, by rw [h5]; exact hrl.symm⟩
    · rw [hrl] at hd
      by_cases hcd : c = d
      · subst hcd
        have hv : (varF recs (grpF L x L.length) (tabOf recs x) (baseG s recs (grpF L x L.length) (tabOf recs x)) c i k).row.getD c default = cval recs (grpF L x L.length) c i := gset_eq _ _ _ _ (by omega)
        rw [hv]
        have him := othG_mem hi
        exact .inr (cval_mem him.1 him.2)
      · have hv : (varF recs (grpF L x L.length) (tabOf recs x) (baseG s recs (grpF L x L.length) (tabOf recs x)) c i k).row.getD d default = _ := gset_ne _ _ _ _ _ hcd
        rw [hv, baseG_at _ _ _ _ hd]
        exact baseC_mem
  · have h2' : k - nV s recs (grpF L x L.length) (tabOf recs x) < (grpF L x L.length).length := by
      unfold nS at h2
      split at h2 <;> omega
    obtain ⟨q, hq⟩ : ∃ q, q = k - nV s recs (grpF L x L.length) (tabOf recs x) := ⟨_, rfl⟩
    rw [← hq] at h2' e
    have hm := gmem h2'
    obtain ⟨h3, h4, h5, h6, h7⟩ := hmem _ hm
    unfold entF
    rw [e]
    refine ⟨fun m hm => ?_, fun d hd => .inr ⟨_, List.mem_singleton.2 rfl, ?_⟩⟩
    · obtain rfl := List.mem_singleton.1 hm
      exact ⟨h3, h4, by rw [h5]; exact hfi.symm, h6, by simp [spF, rowG]⟩
    · have hd : d < (recs.getD ((grpF L x L.length).getD q default).toNat default).cells.length := by simpa [spF, rowG] using hd
      show _ = (rowG (recs.getD ((grpF L x L.length).getD q default).toNat default)).getD d default
      unfold rowG
      rw [gmap _ _ _ hd]
end Go.Proofs.Ytckihgamnmmbnaa
