/- Bond: plain laws of the decisions in force and of the heads. -/
import Derived.Test.YtlefkkelohhnkaaL3
namespace Go.Proofs.Ytlefkkelohhnkaa
open Go.Vc

theorem about_self {d : Dec} (h : formed d = true) : about (pr d) d = true := by unfold about; rw [h]; simp
theorem effL_formed {l : List Dec} {d : Dec} (h : d ∈ effL l) : formed d = true ∧ d.kind ≠ 3 := by
  obtain ⟨i, _, h2, h3, h4, _⟩ := (effL_mem l d).1 h
  rw [h2] at h3 h4
  exact ⟨h3, h4⟩
theorem sameP_about (d x : Dec) : sameP d x = about (pr d) x := by
  unfold sameP about pr
  rw [Bool.and_assoc]
  congr 1
  rw [← Bool.decide_and]; exact decide_eq_decide.2 (by rw [Prod.mk.injEq])
/-- The last one about a pair, so far. -/
def lasK (l : List Dec) (d : Dec) : Nat → Dec
  | 0 => default
  | k + 1 => if sameP d (l.getD k default) = true then l.getD k default else lasK l d k
theorem lasK_force {l : List Dec} {d : Dec} (h : d ∈ effL l) : lasK l d l.length = d := by
  obtain ⟨i, h1, h2, h3, h4, h5⟩ := (effL_mem l d).1 h
  have key : ∀ m, i < m → m ≤ l.length → lasK l d m = d := by
    intro m
    induction m with
    | zero => intro h; omega
    | succ m ih =>
      intro him hm
      rw [lasK]
      by_cases e : i = m
      · subst e
        have : sameP d (l.getD i default) = true := by rw [sameP_about, h2]; exact about_self (h2 ▸ h3)
        rw [if_pos this, h2]
      · have := h5 m (by omega) (by omega)
        rw [h2, ← sameP_about] at this
        rw [if_neg (by rw [this]; decide)]
        exact ih (by omega) (by omega)
  exact key _ h1 (Nat.le_refl _)
theorem pairwise_get {α : Type} [Inhabited α] {R : α → α → Prop} {l : List α} (h : l.Pairwise R) {i j : Nat} (hij : i < j) (hj : j < l.length) : R (l.getD i default) (l.getD j default) := by
  have := List.pairwise_iff_getElem.1 h i j (by omega) hj hij
  simpa [List.getD, hj, show i < l.length by omega] using this
/-- A list in which every decision is about another pair, all formed and none open: all are in force. -/
theorem inForce_all {l : List Dec} (hf : ∀ d ∈ l, formed d = true ∧ d.kind ≠ 3) (hp : l.Pairwise fun a b => pr a ≠ pr b) (d : Dec) : inForce l d ↔ d ∈ l := by
  constructor
  · rintro ⟨i, h1, h2, _⟩
    rw [← h2]
    simp [List.getD, h1]
  · intro h
    obtain ⟨i, hi, rfl⟩ := List.getElem_of_mem h
    have hg : l.getD i default = l[i] := by simp [List.getD, hi]
    refine ⟨i, hi, hg, ?_, ?_, fun j hij hj => ?_⟩
    · rw [hg]; exact (hf _ h).1
    · rw [hg]; exact (hf _ h).2
    · have := pairwise_get hp hij hj
      unfold about
      rw [decide_eq_false (fun e => this e.symm), Bool.and_false]
theorem effL_pr (l : List Dec) : (effL l).Pairwise fun a b => pr a ≠ pr b := (effL_sorted l).imp fun {a b} h e => by
  have := (cmpDec_pr a b).2 e
  omega
theorem effL_twice (l : List Dec) : effL (effL l) = effL l := by
  refine (effL_unique (effL_sorted l) fun d => ?_).symm
  rw [inForce_all (fun d h => effL_formed h) (effL_pr l)]
theorem effL_append (l : List Dec) : effL (l ++ l) = effL l := by
  refine (effL_unique (effL_sorted l) fun d => ?_).symm
  rw [effL_mem]
  have hg1 : ∀ i, i < l.length → (l ++ l).getD i default = l.getD i default := fun i hi => by simp [List.getD, List.getElem?_append, hi]
  have hg2 : ∀ i, (l ++ l).getD (l.length + i) default = l.getD i default := fun i => by rw [List.getD, List.getD, List.getElem?_append_right (by omega), Nat.add_sub_cancel_left]
  constructor
  · rintro ⟨i, h1, h2, h3, h4, h5⟩
    refine ⟨l.length + i, by simp; omega, by rw [hg2]; exact h2, ?_, ?_, fun j hj hjl => ?_⟩
    · rw [hg2]; exact h3
    · rw [hg2]; exact h4
    · rw [List.length_append] at hjl
      obtain ⟨k, rfl⟩ : ∃ k, j = l.length + k := ⟨j - l.length, by omega⟩
      rw [hg2, hg2]
      exact h5 k (by omega) (by omega)
  · rintro ⟨i, h1, h2, h3, h4, h5⟩
    rw [List.length_append] at h1
    by_cases hi : i < l.length
    · have := h5 (l.length + i) (by omega) (by rw [List.length_append]; omega)
      rw [hg2, ← hg1 i hi, about_self h3] at this
      cases this
    · obtain ⟨k, rfl⟩ : ∃ k, i = l.length + k := ⟨i - l.length, by omega⟩
      rw [hg2] at h2 h3 h4
      refine ⟨k, by omega, h2, h3, h4, fun j hj hjl => ?_⟩
      have := h5 (l.length + j) (by omega) (by rw [List.length_append]; omega)
      rw [hg2, hg2] at this
      exact this
def opn (d : Dec) : Dec := ⟨3, d.a, d.b⟩
theorem effL_open (l : List Dec) : effL (l ++ l.map opn) = [] := by
  refine List.eq_nil_iff_forall_not_mem.2 fun d hd => ?_
  obtain ⟨i, h1, h2, h3, h4, h5⟩ := (effL_mem _ d).1 hd
  rw [List.length_append, List.length_map] at h1
  have hg1 : ∀ i, i < l.length → (l ++ l.map opn).getD i default = l.getD i default := fun i hi => by simp [List.getD, List.getElem?_append, hi]
  have hg2 : ∀ i, i < l.length → (l ++ l.map opn).getD (l.length + i) default = opn (l.getD i default) := fun i hi => by simp [List.getD, List.getElem?_append, hi]
  by_cases hi : i < l.length
  · have := h5 (l.length + i) (by omega) (by rw [List.length_append, List.length_map]; omega)
    rw [hg2 i hi, hg1 i hi] at this
    rw [hg1 i hi] at h3
    unfold about formed opn pr at this
    unfold formed at h3
    rw [Bool.and_eq_true, Bool.and_eq_true] at h3
    have h32 := h3.2
    generalize l.getD i default = y at this h32
    simp [h32] at this
  · obtain ⟨k, rfl⟩ : ∃ k, i = l.length + k := ⟨i - l.length, by omega⟩
    rw [hg2 k (by omega)] at h4
    exact h4 rfl
/-- Both records of a decision are in the list. -/
def inB (recs : List Rec) (d : Dec) : Bool := decide (0 ≤ idxF recs d.a) && decide (0 ≤ idxF recs d.b)
theorem effL_turned (recs : List Rec) (l : List Dec) : effL ((effL l).reverse.filter (inB recs)) = (effL l).filter (inB recs) := by
  refine (effL_unique ((effL_sorted l).filter _) fun d => ?_).symm
  rw [inForce_all]
  · simp [List.mem_filter]
  · intro d h
    exact effL_formed (List.mem_reverse.1 (List.mem_filter.1 h).1)
  · refine List.Pairwise.filter _ ?_
    rw [List.pairwise_reverse]
    exact (effL_pr l).imp fun h e => h e.symm
theorem evs_in (recs : List Rec) (kind : Int) (l : List Dec) : evs recs kind (l.filter (inB recs)) = evs recs kind l := by
  unfold evs
  rw [List.filterMap_filter]
  refine congrArg (fun f => List.filterMap f l) (funext fun d => ?_)
  split
  · rfl
  · rename_i h
    unfold ev
    rw [if_neg]
    rintro ⟨_, h1, h2⟩
    apply h
    unfold inB
    rw [decide_eq_true h1, decide_eq_true h2]; rfl
theorem turn_hd (recs : List Rec) (l : List Dec) : hdR recs ((effL l).reverse.filter (inB recs)) = hdR recs l := by unfold hdR; rw [effL_turned, evs_in]
theorem turn_df (recs : List Rec) (l : List Dec) : dfR recs ((effL l).reverse.filter (inB recs)) = dfR recs l := by unfold dfR; rw [effL_turned, evs_in]
theorem turn_bnd (recs : List Rec) (l : List Dec) : bndP recs ((effL l).reverse.filter (inB recs)) = bndP recs l := by unfold bndP; rw [turn_hd, turn_df]
theorem turn_con (recs : List Rec) (l : List Dec) : conP recs ((effL l).reverse.filter (inB recs)) = conP recs l := by unfold conP; rw [turn_hd, turn_df]
theorem open_hd (recs : List Rec) (l : List Dec) (i : Nat) : hdR recs (l ++ l.map opn) i = i := by unfold hdR; rw [effL_open]; rfl
theorem open_df (recs : List Rec) (l : List Dec) : dfR recs (l ++ l.map opn) = [] := by unfold dfR; rw [effL_open]; rfl
theorem open_bnd (recs : List Rec) (l : List Dec) : bndP recs (l ++ l.map opn) = [] := by unfold bndP; rw [open_df]; rfl
theorem open_con (recs : List Rec) (l : List Dec) : conP recs (l ++ l.map opn) = [] := by unfold conP; rw [open_df]; rfl
/-- A head is its own. -/
theorem hdF_idem (es : List (Nat × Nat)) (m : Nat) : ∀ j, hdF es m (hdF es m j) = hdF es m j := by
  induction m with
  | zero => intro j; rfl
  | succ m ih =>
    intro j
    rw [hdF, hdF]
    have ha := ih (es.getD m (0, 0)).1
    have hb := ih (es.getD m (0, 0)).2
    have hj := ih j
    generalize hx : hdF es m (es.getD m (0, 0)).1 = x at *
    generalize hy : hdF es m (es.getD m (0, 0)).2 = y at *
    by_cases h : hdF es m j = max x y
    · rw [if_pos h]
      have : hdF es m (min x y) = min x y := by
        by_cases hxy : x ≤ y
        · rw [show min x y = x by omega]; exact ha
        · rw [show min x y = y by omega]; exact hb
      rw [this]
      split <;> omega
    · rw [if_neg h, hj, if_neg h]
/-- Classes that the pairs keep together are no smaller. -/
theorem hdF_class {α : Type} (cl : Nat → α) (es : List (Nat × Nat)) (h : ∀ p ∈ es, cl p.1 = cl p.2) (m : Nat) (hm : m ≤ es.length) : ∀ j, cl (hdF es m j) = cl j := by
  induction m with
  | zero => intro j; rfl
  | succ m ih =>
    intro j
    have ih := ih (by omega)
    rw [hdF]
    have hg : es.getD m (0, 0) = es[m] := by simp [List.getD, show m < es.length by omega]
    have he := h _ (List.getElem_mem (show m < es.length by omega))
    rw [← hg] at he
    have ha := ih (es.getD m (0, 0)).1
    have hb := ih (es.getD m (0, 0)).2
    generalize hdF es m (es.getD m (0, 0)).1 = x at *
    generalize hdF es m (es.getD m (0, 0)).2 = y at *
    have hxy : cl x = cl y := by rw [ha, hb, he]
    have hmin : cl (min x y) = cl x := by
      by_cases hx : x ≤ y
      · rw [show min x y = x by omega]
      · rw [show min x y = y by omega, hxy]
    split
    · rename_i hM
      rw [← ih j, hM, hmin]
      by_cases hx : x ≤ y
      · rw [show max x y = y by omega, hxy]
      · rw [show max x y = x by omega]
    · exact ih j
end Go.Proofs.Ytlefkkelohhnkaa
