/- Golden: an entity alone. -/
import Derived.Test.YtckihgamnmmbnaaM6
namespace Go.Proofs.Ytckihgamnmmbnaa
open Go.Vc Go.Sort
variable {s : Set_} {recs : List Rec} {L : List Int}
def somR (recs : List Rec) (mem : List Int) : List Rec := mem.map fun m => recs.getD m.toNat default
def idxs (n : Nat) : List Int := (List.range n).map fun k => ((k : Nat) : Int)
/-- The places of a member. -/
def posK (mem : List Int) (v : Int) (k : Nat) : List Int := ((List.range k).filter fun n => decide (mem.getD n default = v)).map fun n => ((n : Nat) : Int)
def pos (mem : List Int) (v : Int) : List Int := posK mem v mem.length
/-- A fact of the entity alone. -/
def reF (mem : List Int) (f : Fac) : Fac := { f with ent := 0, frm := f.frm.flatMap (pos mem) }
theorem posK_succ (mem : List Int) (v : Int) (k : Nat) : posK mem v (k + 1) = posK mem v k ++ if mem.getD k default = v then [(k : Int)] else [] := by
  unfold posK
  rw [List.range_succ, List.filter_append, List.map_append]
  congr 1
  by_cases h : mem.getD k default = v
  · rw [if_pos h, List.filter_cons_of_pos (by simpa using h)]; rfl
  · rw [if_neg h, List.filter_cons_of_neg (by simpa using h)]; rfl
theorem posK_none {mem : List Int} {v : Int} : ∀ {k : Nat}, (∀ n, n < k → mem.getD n default ≠ v) → posK mem v k = [] := by
  intro k
  induction k with
  | zero => intro _; rfl
  | succ k ih => intro h; rw [posK_succ, if_neg (h k (by omega)), ih fun n hn => h n (by omega)]; rfl
theorem posK_one {mem : List Int} {j : Nat} (hne : ∀ n, n < mem.length → n ≠ j → mem.getD n default ≠ mem.getD j default) : ∀ {k : Nat}, j < k → k ≤ mem.length → posK mem (mem.getD j default) k = [(j : Int)] := by
  intro k
  induction k with
  | zero => intro h; omega
  | succ k ih =>
    intro h hk
    rw [posK_succ]
    by_cases e : k = j
    · subst e; rw [if_pos rfl, posK_none fun n hn => hne n (by omega) (by omega)]; rfl
    · rw [if_neg (hne k (by omega) e), ih (by omega) (by omega), List.append_nil]
theorem pos_at {mem : List Int} (hs : mem.Pairwise (· < ·)) {j : Nat} (hj : j < mem.length) : pos mem (mem.getD j default) = [(j : Int)] := by
  refine posK_one (fun n hn hnj => ?_) hj (Nat.le_refl _)
  have e : ∀ i, (hi : i < mem.length) → mem.getD i default = mem[i] := fun i hi => by simp [List.getD, hi]
  rw [e n hn, e j hj]
  rcases Nat.lt_or_gt_of_ne hnj with h | h
  · have := List.pairwise_iff_getElem.1 hs n j hn hj h; omega
  · have := List.pairwise_iff_getElem.1 hs j n hj hn h; omega
theorem flat_pos {mem : List Int} (hs : mem.Pairwise (· < ·)) : mem.flatMap (pos mem) = idxs mem.length := by
  have e : mem = (List.range mem.length).map fun k => mem.getD k default := by
    refine List.ext_getElem (by simp) fun i h1 h2 => by simp [List.getD, h1]
  have h2 : ∀ l : List Nat, (∀ k ∈ l, k < mem.length) → (l.map fun k => mem.getD k default).flatMap (pos mem) = l.map fun k => ((k : Nat) : Int) := by
    intro l
    induction l with
    | nil => intro _; rfl
    | cons a l ih =>
      intro h
      rw [List.map_cons, List.flatMap_cons, pos_at hs (h a (by simp)), ih fun k hk => h k (by simp [hk])]
      rfl
  have := h2 (List.range mem.length) fun k hk => by simpa using hk
  rw [← e] at this
  exact this
theorem idxs_get {n k : Nat} (h : k < n) : (idxs n).getD k default = (k : Int) := by simp [idxs, List.getD, h]
theorem idxs_len (n : Nat) : (idxs n).length = n := by simp [idxs]
theorem som_get {mem : List Int} {k : Nat} (h : k < mem.length) : (somR recs mem).getD k default = recs.getD (mem.getD k default).toNat default := by
  unfold somR; rw [gmap _ _ _ h]
theorem som_map {β : Type} (g : Rec → β) (mem : List Int) : (idxs mem.length).map (fun m => g ((somR recs mem).getD m.toNat default)) = mem.map fun m => g (recs.getD m.toNat default) := by
  refine List.ext_getElem (by simp [idxs]) fun i h1 h2 => ?_
  have hi : i < mem.length := by simpa using h2
  simp only [List.getElem_map]
  have e1 : (idxs mem.length)[i]'(by rw [idxs_len]; exact hi) = (i : Int) := by simp [idxs]
  rw [e1, Int.toNat_natCast, som_get hi]
  simp [List.getD, hi]
theorem col_som (mem : List Int) (c : Int) : colL (somR recs mem) (idxs mem.length) c = colL recs mem c := som_map (fun r => r.cells.getD c.toNat default) mem
theorem tr_som (mem : List Int) : colT s (somR recs mem) (idxs mem.length) = colT s recs mem := som_map (fun r => trustG s r) mem
theorem baseC_som (mem : List Int) (t c : Int) : baseC s (somR recs mem) (idxs mem.length) t c = baseC s recs mem t c := by
  unfold baseC chosen; rw [col_som, tr_som]
theorem base_som (mem : List Int) (t : Int) : baseG s (somR recs mem) (idxs mem.length) t = baseG s recs mem t := by
  unfold baseG
  exact List.map_congr_left fun c _ => baseC_som mem t (c : Nat)
theorem oth_som (mem : List Int) (t c : Int) : othG s (somR recs mem) (idxs mem.length) t c = othG s recs mem t c := by
  unfold othG; rw [col_som, tr_som]
theorem var_som {mem : List Int} (hs : mem.Pairwise (· < ·)) (hp : 0 < mem.length) (t : Int) (base : List Val) (c : Nat) (i : Int) (n : Nat) : varF (somR recs mem) (idxs mem.length) t base c i n = reF mem (varF recs mem t base c i n) := by
  unfold varF reF
  rw [col_som, flat_pos hs, idxs_get hp]; rfl
theorem vIn_som {mem : List Int} (hs : mem.Pairwise (· < ·)) (hp : 0 < mem.length) (t : Int) (base : List Val) (c : Nat) (oth : List Int) : ∀ j (o : List Fac), vIn (somR recs mem) (idxs mem.length) t base c oth j (o.map (reF mem)) = (vIn recs mem t base c oth j o).map (reF mem) := by
  intro j
  induction j with
  | zero => intro o; rfl
  | succ j ih =>
    intro o
    rw [vIn, vIn, ih, List.length_map]
    split
    · rw [List.map_append, var_som hs hp]; rfl
    · rfl
theorem vOut_som {mem : List Int} (hs : mem.Pairwise (· < ·)) (hp : 0 < mem.length) (t : Int) : ∀ c, vOut s (somR recs mem) (idxs mem.length) t c = (vOut s recs mem t c).map (reF mem) := by
  intro c
  induction c with
  | zero =>
    show [baseF s (somR recs mem) (idxs mem.length) t] = [reF mem (baseF s recs mem t)]
    unfold baseF reF
    rw [base_som, flat_pos hs, idxs_get hp]; rfl
  | succ c ih =>
    rw [vOut, vOut, ih, base_som, oth_som, vIn_som hs hp]
theorem facts_som {mem : List Int} (hs : mem.Pairwise (· < ·)) (hp : 0 < mem.length) (t : Int) : factsG s (somR recs mem) (idxs mem.length) t = (factsG s recs mem t).map (reF mem) := by
  unfold factsG
  rw [List.map_append, vOut_som hs hp, idxs_len]
  congr 1
  split
  · rfl
  · rw [List.map_map]
    refine List.map_congr_left fun k hk => ?_
    have hk : k < mem.length := by simpa using hk
    show spF (somR recs mem) (idxs mem.length) t k = reF mem (spF recs mem t k)
    unfold spF reF
    rw [idxs_get hk, idxs_get hp, Int.toNat_natCast, som_get hk]
    simp only [List.flatMap_cons, List.flatMap_nil, List.append_nil, pos_at hs hk]
    rfl
theorem zeros_get {n k : Nat} (h : k < n) : (List.replicate n (0 : Int)).getD k default = 0 := by simp [List.getD, h]
theorem grp_zeros (n : Nat) : grpF (List.replicate n (0 : Int)) 0 n = idxs n := by
  unfold grpF idxs
  congr 1
  rw [List.filter_eq_self]
  intro k hk
  rw [zeros_get (by simpa using hk)]; rfl
theorem heads_zeros {n : Nat} (h : 0 < n) : headsF (List.replicate n (0 : Int)) n = [0] := by
  refine sorted_ext (R := (· < ·)) ?_ ?_ (List.pairwise_singleton _ _) fun x => ?_
  · intro a b h1 h2; omega
  · exact headsF_lt _ _
  · rw [headsF_mem, List.mem_singleton]
    constructor
    · rintro ⟨k, hk, e, rfl⟩; rw [zeros_get hk] at e; omega
    · rintro rfl; exact ⟨0, h, zeros_get h, rfl⟩
/-- The facts of the members of one entity alone. -/
theorem res_som (h : EOk s recs L) {x : Int} (hx : x ∈ headsF L L.length) : resF s (somR recs (grpF L x L.length)) (List.replicate (grpF L x L.length).length 0) = if (entF s recs L x).length ≤ 4000 then ((entF s recs L x).map (reF (grpF L x L.length)), 0) else ([], 3) := by
  obtain ⟨mem, hmem⟩ : ∃ mem, mem = grpF L x L.length := ⟨_, rfl⟩
  have hs : mem.Pairwise (· < ·) := hmem ▸ grpF_lt L x L.length
  have hgo := grp_ok h.len h.at_ hx
  have hp : 0 < mem.length := by rw [hmem]; exact hgo.pos
  have htab : ∀ k, k < mem.length → ((somR recs mem).getD k default).table = tabOf recs x ∧ formedG s ((somR recs mem).getD k default) = true := fun k hk => by
    rw [som_get hk]
    exact grp_tab h.at_ (hmem ▸ gmem hk)
  have hB : entB s (somR recs mem) (List.replicate mem.length 0) = true := by
    refine decide_eq_true ⟨by simp [somR], fun i hi => ?_⟩
    rw [List.length_replicate] at hi
    unfold entAt
    rw [zeros_get hi]
    refine ⟨⟨Int.le_refl _, by omega, zeros_get hp⟩, (htab i hi).2, ?_⟩
    show ((somR recs mem).getD 0 default).table = _
    rw [(htab 0 hp).1, (htab i hi).1]
  have hO : EOk s (somR recs mem) (List.replicate mem.length 0) := by
    obtain ⟨h1, h2⟩ := of_decide_eq_true hB
    exact ⟨h1, h2⟩
  have hhs : hsF s (somR recs mem) (List.replicate mem.length 0) = [0] := by
    refine sorted_ext (R := HLt (somR recs mem)) ?_ (hsF_sorted _ _ _) (List.pairwise_singleton _ _) fun y => ?_
    · intro a b h1 h2; unfold HLt at h1 h2; omega
    · rw [hsF_mem hO.heads, List.length_replicate, heads_zeros hp]
  have hA : allF s (somR recs mem) (List.replicate mem.length 0) = (entF s recs L x).map (reF mem) := by
    unfold allF
    rw [hhs]
    show entF s (somR recs mem) (List.replicate mem.length 0) 0 ++ [] = _
    unfold entF
    rw [List.append_nil, List.length_replicate, grp_zeros, ← hmem]
    have ht : tabOf (somR recs mem) 0 = tabOf recs x := (htab 0 hp).1
    rw [ht, facts_som hs hp]
  rw [← hmem]
  unfold resF
  rw [if_pos hB, hA, List.length_map]
end Go.Proofs.Ytckihgamnmmbnaa
