/- Golden: variants. -/
import Derived.Test.YtckihgamnmmbnaaM3
namespace Go.Proofs.Ytckihgamnmmbnaa
open Go.Vc Go.Sort
variable {s : Set_} {recs : List Rec} {L : List Int}
/-- Where the entity of the fact ahead of place i begins. -/
def BaseAt (s : Set_) (recs : List Rec) (L : List Int) (i b : Nat) : Prop := ∀ pre x post, hsF s recs L = pre ++ x :: post → off s recs L pre < i → i ≤ off s recs L pre + (entF s recs L x).length → b = off s recs L pre
theorem BaseAt.zero : BaseAt s recs L 0 0 := fun _ _ _ _ h _ => absurd h (Nat.not_lt_zero _)
theorem all_in (h : EOk s recs L) {pre post : List Int} {x : Int} {i : Nat} (hs : hsF s recs L = pre ++ x :: post) (h1 : off s recs L pre ≤ i) (h2 : i < off s recs L pre + (entF s recs L x).length) :
    (allF s recs L).getD i default = (entF s recs L x).getD (i - off s recs L pre) default ∧ (((allF s recs L).getD i default).variant = 0 ↔ i = off s recs L pre) := by
  have hk : i - off s recs L pre < (entF s recs L x).length := by omega
  have e := (all_at hs hk).1
  rw [show off s recs L pre + (i - off s recs L pre) = i by omega] at e
  refine ⟨e, ?_⟩
  rw [e, (ent_same h (mem_split hs) hk).2.2]
  omega
theorem BaseAt.new (h : EOk s recs L) {i : Nat} (hv : ((allF s recs L).getD i default).variant = 0) : BaseAt s recs L (i + 1) i := fun pre x post hs h1 h2 =>
  (all_in h hs (by omega) (by omega)).2.1 hv
theorem BaseAt.old (h : EOk s recs L) {i b : Nat} (hB : BaseAt s recs L i b) (hv : ((allF s recs L).getD i default).variant ≠ 0) : BaseAt s recs L (i + 1) b := fun pre x post hs h1 h2 => by
  have := mt (all_in h hs (by omega) (by omega)).2.2 hv
  exact hB pre x post hs (by omega) (by omega)
/-- What a variant is. -/
structure VarAt (F : List Fac) (b i : Nat) : Prop where
  lt : b < i
  num : (F.getD i default).variant = ((i - b : Nat) : Int)
  few : i - b ≤ 4
  cost : (F.getD i default).cost = 1
  frm : (F.getD i default).frm = (F.getD b default).frm
  row : ∃ c v, c < (F.getD b default).row.length ∧ (F.getD i default).row = (F.getD b default).row.set c v ∧ v ≠ (F.getD b default).row.getD c default
  ne : ∀ q, b ≤ q → q < i → (F.getD q default).row ≠ (F.getD i default).row
theorem var_at (h : EOk s recs L) {i b : Nat} (hi : i < (allF s recs L).length) (hv : 0 < ((allF s recs L).getD i default).variant) (hB : BaseAt s recs L i b) : VarAt (allF s recs L) b i := by
  obtain ⟨pre, x, post, k, h1, h2, h3⟩ := find_blk hi
  have e := (all_at h1 h2).1
  have hn := nV_ok s recs (grpF L x L.length) (tabOf recs x)
  rw [← h3] at e
  rcases facts_at h2 with ⟨k0, e2⟩ | ⟨k0, k1, c, o, hc, ho, e2⟩ | ⟨k0, k1, e2⟩
  · have e2 : (entF s recs L x).getD k default = _ := e2
    rw [e, e2] at hv
    exact absurd hv (by simp [baseF])
  · have e2 : (entF s recs L x).getD k default = _ := e2
    have hb : b = off s recs L pre := hB pre x post h1 (by omega) (by omega)
    have hV := vOut_ok s recs (grpF L x L.length) (tabOf recs x) _ (Nat.le_refl _)
    have hbl := baseG_len s recs (grpF L x L.length) (tabOf recs x)
    have at_ : ∀ q, q < nV s recs (grpF L x L.length) (tabOf recs x) → (allF s recs L).getD (off s recs L pre + q) default = (vOut s recs (grpF L x L.length) (tabOf recs x) (ncol s (tabOf recs x))).getD q default := fun q hq => by
      have hql : q < (entF s recs L x).length := by unfold entF; rw [factsG_num]; omega
      rw [(all_at h1 hql).1]
      exact facts_v hq
    have e0 : (allF s recs L).getD b default = baseF s recs (grpF L x L.length) (tabOf recs x) := by
      have := at_ 0 hn.1
      rw [hV.head, Nat.add_zero, ← hb] at this
      exact this
    refine ⟨by omega, ?_, by omega, ?_, ?_, ?_, fun q q1 q2 => ?_⟩
    · rw [e, e2, show i - b = k by omega]; rfl
    · rw [e, e2]; rfl
    · rw [e, e2, e0]; rfl
    · rw [e, e2, e0]
      refine ⟨c, cval recs (grpF L x L.length) c o, ?_, rfl, ?_⟩
      · show c < (baseG s recs (grpF L x L.length) (tabOf recs x)).length
        omega
      · show _ ≠ (baseG s recs (grpF L x L.length) (tabOf recs x)).getD c default
        rw [baseG_at _ _ _ _ hc]
        exact oth_base ho
    · have a1 := at_ (q - b) (by omega)
      have a2 := at_ k k1
      rw [← h3] at a2
      rw [show off s recs L pre + (q - b) = q by omega] at a1
      rw [a1, a2]
      exact hV.ne _ _ (by omega) k1
  · have e2 : (entF s recs L x).getD k default = _ := e2
    rw [e, e2] at hv
    exact absurd hv (by simp [spF])
end Go.Proofs.Ytckihgamnmmbnaa
