/- Own library: clusterings, plainly: the partitions of a list of classes, and the best one. No program. -/
import Derived.Test.YtglaigeellpikaaXVcComp
namespace Go.Vc
/-- What the clusters of the first classes keep together. -/
def rowI (wt : Int → Int → Int) (cs hs : List Int) (i : Nat) : Nat → Int
  | 0 => 0
  | k + 1 => rowI wt cs hs i k + if hs.getD i default = hs.getD k default then wt (cs.getD k default) (cs.getD i default) else 0
def keptI (wt : Int → Int → Int) (cs hs : List Int) : Nat → Int
  | 0 => 0
  | i + 1 => keptI wt cs hs i + rowI wt cs hs i i
def keptF (wt : Int → Int → Int) (cs hs : List Int) : Int := keptI wt cs hs cs.length
/-- A class clashes with an earlier one of its cluster. -/
def clashF (ap : Int → Int → Bool) (cs hs : List Int) (i : Nat) : Bool := (List.range i).any fun k => decide (hs.getD k default = hs.getD i default) && ap (cs.getD k default) (cs.getD i default)
theorem clashF_iff {ap : Int → Int → Bool} {cs hs : List Int} {i : Nat} : clashF ap cs hs i = true ↔ ∃ k, k < i ∧ hs.getD k default = hs.getD i default ∧ ap (cs.getD k default) (cs.getD i default) = true := by
  unfold clashF; simp [List.any_eq_true]
/-- The heads of an allowed partition. -/
structure IsPart (ap : Int → Int → Bool) (cs hs : List Int) : Prop where
  len : hs.length = cs.length
  head : ∀ i, i < cs.length → ∃ j, j ≤ i ∧ hs.getD i default = cs.getD j default ∧ hs.getD j default = cs.getD j default
  free : ∀ i, i < cs.length → ∀ k, k < i → hs.getD k default = hs.getD i default → ap (cs.getD k default) (cs.getD i default) = false
/-- The heads with which a list of heads can go on. -/
def stepB (ap : Int → Int → Bool) (cs pre : List Int) (k : Nat) : Bool :=
  (decide (k = pre.length) || decide (pre.getD k default = cs.getD k default)) && !clashF ap cs (pre ++ [cs.getD k default]) pre.length
def nxtsF (ap : Int → Int → Bool) (cs pre : List Int) : List (List Int) := ((List.range (pre.length + 1)).filter (stepB ap cs pre)).map fun k => pre ++ [cs.getD k default]
def partsF (ap : Int → Int → Bool) (cs : List Int) : Nat → List Int → List (List Int)
  | 0, pre => [pre]
  | m + 1, pre => (nxtsF ap cs pre).flatMap (partsF ap cs m)
def pickF (wt : Int → Int → Int) (cs : List Int) (b : Option (List Int)) (h : List Int) : Option (List Int) := match b with
  | none => some h
  | some g => if keptF wt cs g < keptF wt cs h then some h else some g
def exactF (wt : Int → Int → Int) (ap : Int → Int → Bool) (cs : List Int) : List Int := ((partsF ap cs cs.length []).foldl (pickF wt cs) none).getD []

/-- The best partition. -/
structure IsBest (wt : Int → Int → Int) (ap : Int → Int → Bool) (cs hs : List Int) : Prop where
  part : IsPart ap cs hs
  best : ∀ g, IsPart ap cs g → keptF wt cs g < keptF wt cs hs ∨ (keptF wt cs g = keptF wt cs hs ∧ (g = hs ∨ lexB hs g = true))
theorem IsBest.unique {wt : Int → Int → Int} {ap : Int → Int → Bool} {cs hs gs : List Int} (h : IsBest wt ap cs hs) (g : IsBest wt ap cs gs) : hs = gs := by
  rcases h.best gs g.part with h1 | ⟨h1, h2 | h2⟩
  · rcases g.best hs h.part with g1 | ⟨g1, _⟩ <;> omega
  · exact h2.symm
  · rcases g.best hs h.part with g1 | ⟨g1, g2 | g2⟩
    · omega
    · exact g2
    · have := lexB_sto.asym h2; rw [this] at g2; cases g2

theorem gA_app {l m : List Int} {i : Nat} (h : i < l.length) : (l ++ m).getD i default = l.getD i default := by simp [List.getD, List.getElem?_append_left h]
theorem gA_end {l : List Int} {x : Int} : (l ++ [x]).getD l.length default = x := by simp [List.getD]
/-- What is so of the first heads of a partition. -/
structure PreP (ap : Int → Int → Bool) (cs pre : List Int) : Prop where
  len : pre.length ≤ cs.length
  head : ∀ i, i < pre.length → ∃ j, j ≤ i ∧ pre.getD i default = cs.getD j default ∧ pre.getD j default = cs.getD j default
  free : ∀ i, i < pre.length → ∀ k, k < i → pre.getD k default = pre.getD i default → ap (cs.getD k default) (cs.getD i default) = false
theorem PreP.nil (ap : Int → Int → Bool) (cs : List Int) : PreP ap cs [] := ⟨Nat.zero_le _, fun i h => absurd h (Nat.not_lt_zero i), fun i h => absurd h (Nat.not_lt_zero i)⟩
theorem nxts_mem {ap : Int → Int → Bool} {cs pre h : List Int} (hp : PreP ap cs pre) (hl : pre.length < cs.length) : h ∈ nxtsF ap cs pre ↔ PreP ap cs h ∧ h.length = pre.length + 1 ∧ h.take pre.length = pre := by
  unfold nxtsF
  rw [List.mem_map]
  constructor
  · rintro ⟨k, hk, rfl⟩
    rw [List.mem_filter, List.mem_range] at hk
    obtain ⟨hk, hs⟩ := hk
    unfold stepB at hs
    rw [Bool.and_eq_true, Bool.or_eq_true, decide_eq_true_eq, decide_eq_true_eq, Bool.not_eq_true', ← Bool.not_eq_true, clashF_iff] at hs
    refine ⟨⟨by simp; omega, fun i hi => ?_, fun i hi j hj e => ?_⟩, by simp, by simp⟩
    · rw [List.length_append, List.length_singleton] at hi
      by_cases h1 : i < pre.length
      · obtain ⟨j, h2, h3, h4⟩ := hp.head i h1
        exact ⟨j, h2, by rw [gA_app h1, h3], by rw [gA_app (by omega), h4]⟩
      · have : i = pre.length := by omega
        subst this
        refine ⟨k, by omega, gA_end, ?_⟩
        rcases hs.1 with h5 | h5
        · rw [h5, gA_end]
        · by_cases h6 : k = pre.length
          · rw [h6, gA_end]
          · rw [gA_app (by omega), h5]
    · rw [List.length_append, List.length_singleton] at hi
      by_cases h1 : i < pre.length
      · rw [gA_app h1, gA_app (by omega)] at e
        exact hp.free i h1 j hj e
      · have : i = pre.length := by omega
        subst this
        cases h7 : ap (cs.getD j default) (cs.getD pre.length default) with
        | false => rfl
        | true => exact absurd ⟨j, hj, e, h7⟩ hs.2
  · rintro ⟨h1, h2, h3⟩
    obtain ⟨j, h4, h5, h6⟩ := h1.head pre.length (by omega)
    have e : h = pre ++ [cs.getD j default] := by
      have := List.take_append_drop pre.length h
      rw [h3] at this
      rw [← this]
      congr 1
      refine List.ext_getElem (by simp; omega) fun q q1 q2 => ?_
      have : q = 0 := by simp at q2; omega
      subst this
      rw [← h5]
      simp [List.getD, show pre.length < h.length by omega]
    refine ⟨j, ?_, e.symm⟩
    rw [List.mem_filter, List.mem_range]
    refine ⟨by omega, ?_⟩
    unfold stepB
    rw [Bool.and_eq_true, Bool.or_eq_true, decide_eq_true_eq, decide_eq_true_eq, Bool.not_eq_true', ← Bool.not_eq_true, clashF_iff, ← e]
    refine ⟨?_, ?_⟩
    · by_cases h7 : j = pre.length
      · exact .inl h7
      · right
        rw [e, gA_app (by omega)] at h6
        exact h6
    · rintro ⟨k, k1, k2, k3⟩
      rw [h1.free pre.length (by omega) k k1 k2] at k3; cases k3
theorem parts_mem {ap : Int → Int → Bool} {cs : List Int} : ∀ (m : Nat) (pre h : List Int), PreP ap cs pre → pre.length + m = cs.length → (h ∈ partsF ap cs m pre ↔ IsPart ap cs h ∧ h.take pre.length = pre)
  | 0, pre, h, hp, hm => by
    rw [partsF, List.mem_singleton]
    constructor
    · rintro rfl
      exact ⟨⟨by omega, fun i hi => hp.head i (by omega), fun i hi => hp.free i (by omega)⟩, List.take_length⟩
    · rintro ⟨h1, h2⟩
      rw [← h2, List.take_of_length_le]; have := h1.len; omega
  | m + 1, pre, h, hp, hm => by
    rw [partsF, List.mem_flatMap]
    constructor
    · rintro ⟨q, h1, h2⟩
      obtain ⟨q1, q2, q3⟩ := (nxts_mem hp (by omega)).1 h1
      obtain ⟨a1, a2⟩ := (parts_mem m q h q1 (by omega)).1 h2
      refine ⟨a1, ?_⟩
      rw [← q3, ← a2, List.take_take, Nat.min_eq_left (by omega)]
      simp 
    · rintro ⟨h1, h2⟩
      have hlen := h1.len
      have q1 : PreP ap cs (h.take (pre.length + 1)) := by
        have gt : ∀ i, i < pre.length + 1 → (h.take (pre.length + 1)).getD i default = h.getD i default := fun i hi => by simp [List.getD, hi]
        refine ⟨by simp; omega, fun i hi => ?_, fun i hi k hk e => ?_⟩
        · rw [List.length_take] at hi
          obtain ⟨j, j1, j2, j3⟩ := h1.head i (by omega)
          exact ⟨j, j1, by rw [gt i (by omega), j2], by rw [gt j (by omega), j3]⟩
        · rw [List.length_take] at hi
          rw [gt i (by omega), gt k (by omega)] at e
          exact h1.free i (by omega) k hk e
      have l1 : (h.take (pre.length + 1)).length = pre.length + 1 := by rw [List.length_take]; omega
      refine ⟨h.take (pre.length + 1), (nxts_mem hp (by omega)).2 ⟨q1, l1, by rw [List.take_take, Nat.min_eq_left (by omega), h2]⟩, (parts_mem m _ h q1 (by omega)).2 ⟨h1, by rw [l1]⟩⟩
theorem parts_iff {ap : Int → Int → Bool} {cs h : List Int} : h ∈ partsF ap cs cs.length [] ↔ IsPart ap cs h := by
  rw [parts_mem cs.length [] h (PreP.nil ap cs) (by simp)]; simp
theorem lexB_app {a b : Int} (hab : a < b) : ∀ (p x y : List Int), lexB (p ++ a :: x) (p ++ b :: y) = true
  | [], x, y => by rw [List.nil_append, List.nil_append, lexB, if_pos hab]
  | c :: p, x, y => by rw [List.cons_append, List.cons_append, lexB, if_neg (by omega), if_neg (by omega)]; exact lexB_app hab p x y
theorem parts_up {ap : Int → Int → Bool} {cs : List Int} (hc : Inc cs) : ∀ (m : Nat) (pre : List Int), PreP ap cs pre → pre.length + m = cs.length → Up lexB (partsF ap cs m pre)
  | 0, pre, hp, hm => by rw [partsF]; exact List.pairwise_singleton _ _
  | m + 1, pre, hp, hm => by
    rw [partsF]
    unfold Up
    rw [List.pairwise_flatMap]
    refine ⟨fun q hq => ?_, ?_⟩
    · obtain ⟨q1, q2, q3⟩ := (nxts_mem hp (by omega)).1 hq
      exact parts_up hc m q q1 (by omega)
    · have key : ∀ x y : List Int, x ∈ nxtsF ap cs pre → y ∈ nxtsF ap cs pre → (∃ i j : Nat, i < j ∧ j ≤ pre.length ∧ x = pre ++ [cs.getD i default] ∧ y = pre ++ [cs.getD j default]) → ∀ u, u ∈ partsF ap cs m x → ∀ v, v ∈ partsF ap cs m y → lexB u v = true := by
        rintro x y hx hy ⟨i, j, hij, hj, ex, ey⟩ u hu v hv
        obtain ⟨x1, x2, _⟩ := (nxts_mem hp (by omega)).1 hx
        obtain ⟨y1, y2, _⟩ := (nxts_mem hp (by omega)).1 hy
        obtain ⟨_, eu⟩ := (parts_mem m x u x1 (by omega)).1 hu
        obtain ⟨_, ev⟩ := (parts_mem m y v y1 (by omega)).1 hv
        have hlt : cs.getD i default < cs.getD j default := by
          have := List.pairwise_iff_getElem.1 hc i j (by omega) (by omega) hij
          simpa [List.getD, show i < cs.length by omega, show j < cs.length by omega] using this
        have a1 := List.take_append_drop x.length u
        have a2 := List.take_append_drop y.length v
        rw [eu] at a1
        rw [ev] at a2
        rw [← a1, ← a2, ex, ey, List.append_assoc, List.append_assoc]
        exact lexB_app hlt pre _ _
      unfold nxtsF
      rw [List.pairwise_map]
      have hr : ((List.range (pre.length + 1)).filter (stepB ap cs pre)).Pairwise (· < ·) := List.Pairwise.sublist List.filter_sublist List.pairwise_lt_range
      refine List.Pairwise.imp_of_mem ?_ hr
      intro i j hi hj hij
      have hjl : j ≤ pre.length := by have := (List.mem_filter.1 hj).1; rw [List.mem_range] at this; omega
      exact key _ _ (List.mem_map.2 ⟨i, hi, rfl⟩) (List.mem_map.2 ⟨j, hj, rfl⟩) ⟨i, j, hij, hjl, rfl, rfl⟩
theorem rev_ind {α : Type} {M : List α → Prop} (h0 : M []) (h1 : ∀ l x, M l → M (l ++ [x])) : ∀ l, M l := fun l => by
  have key : ∀ n, ∀ l : List α, l.length = n → M l := by
    intro n
    induction n with
    | zero => intro l hl; rw [List.eq_nil_of_length_eq_zero hl]; exact h0
    | succ n ih =>
      intro l hl
      have hne : l ≠ [] := fun e => by subst e; simp at hl
      rw [← List.dropLast_concat_getLast hne]
      exact h1 _ _ (ih _ (by rw [List.length_dropLast]; omega))
  exact key _ l rfl
/-- What has been picked of the lists so far. -/
theorem pick_best {wt : Int → Int → Int} {cs : List Int} (l : List (List Int)) : l ≠ [] → Up lexB l → ∃ h, l.foldl (pickF wt cs) none = some h ∧ h ∈ l ∧ ∀ g ∈ l, keptF wt cs g < keptF wt cs h ∨ (keptF wt cs g = keptF wt cs h ∧ (g = h ∨ lexB h g = true)) := by
  refine rev_ind (M := fun l => l ≠ [] → Up lexB l → ∃ h, l.foldl (pickF wt cs) none = some h ∧ h ∈ l ∧ ∀ g ∈ l, keptF wt cs g < keptF wt cs h ∨ (keptF wt cs g = keptF wt cs h ∧ (g = h ∨ lexB h g = true))) ?_ (fun l x ih => ?_) l
  · intro h; exact absurd rfl h
  · intro _ hu
    have hu' := List.pairwise_append.1 hu
    rw [List.foldl_append]
    by_cases h0 : l = []
    · subst h0
      refine ⟨x, rfl, by simp, fun g hg => ?_⟩
      have : g = x := by simpa using hg
      exact .inr ⟨by rw [this], .inl this⟩
    · obtain ⟨h, e1, e2, e3⟩ := ih h0 hu'.1
      have hx : lexB h x = true := hu'.2.2 h e2 x (by simp)
      rw [e1]
      by_cases hk : keptF wt cs h < keptF wt cs x
      · refine ⟨x, by simp [pickF, hk], by simp, fun g hg => ?_⟩
        rcases List.mem_append.1 hg with hg | hg
        · rcases e3 g hg with e | ⟨e, _⟩ <;> left <;> omega
        · have : g = x := by simpa using hg
          exact .inr ⟨by rw [this], .inl this⟩
      · refine ⟨h, by simp [pickF, hk], List.mem_append_left _ e2, fun g hg => ?_⟩
        rcases List.mem_append.1 hg with hg | hg
        · exact e3 g hg
        · have : g = x := by simpa using hg
          subst this
          by_cases he : keptF wt cs g = keptF wt cs h
          · exact .inr ⟨he, .inr hx⟩
          · left; omega
/-- Each class a cluster of its own. -/
theorem part_self {ap : Int → Int → Bool} {cs : List Int} (hc : Inc cs) : IsPart ap cs cs := by
  refine ⟨rfl, fun i hi => ⟨i, Nat.le_refl _, rfl, rfl⟩, fun i hi k hk e => ?_⟩
  have := List.pairwise_iff_getElem.1 hc k i (by omega) hi hk
  simp [List.getD, hi, show k < cs.length by omega] at e
  omega
theorem exact_best {wt : Int → Int → Int} {ap : Int → Int → Bool} {cs : List Int} (hc : Inc cs) : IsBest wt ap cs (exactF wt ap cs) := by
  have hne : partsF ap cs cs.length [] ≠ [] := List.ne_nil_of_mem (parts_iff.2 (part_self hc))
  obtain ⟨h, e1, e2, e3⟩ := pick_best (wt := wt) (cs := cs) _ hne (parts_up hc cs.length [] (PreP.nil ap cs) (by simp))
  have e : exactF wt ap cs = h := by unfold exactF; rw [e1]; rfl
  rw [e]
  exact ⟨parts_iff.1 e2, fun g hg => e3 g (parts_iff.2 hg)⟩
end Go.Vc
