/- Golden: the facts of one entity among all. -/
import Derived.Test.YtckihgamnmmbnaaM7
namespace Go.Proofs.Ytckihgamnmmbnaa
open Go.Vc Go.Sort
variable {s : Set_} {recs : List Rec} {L : List Int}
theorem fil_flat (F : Int → List Fac) (x : Int) : ∀ hs : List Int, (∀ y ∈ hs, ∀ f ∈ F y, f.ent = y) → hs.Nodup → (hs.flatMap F).filter (fun f => decide (f.ent = x)) = if x ∈ hs then F x else [] := by
  intro hs
  induction hs with
  | nil => intro _ _; rfl
  | cons a hs ih =>
    intro h hn
    rw [List.nodup_cons] at hn
    rw [List.flatMap_cons, List.filter_append, ih (fun y hy => h y (by simp [hy])) hn.2]
    by_cases e : a = x
    · subst e
      rw [if_neg hn.1, if_pos (by simp), List.append_nil, List.filter_eq_self]
      intro f hf; exact decide_eq_true (h a (by simp) f hf)
    · have : (F a).filter (fun f => decide (f.ent = x)) = [] := by
        rw [List.filter_eq_nil_iff]
        intro f hf hd
        rw [h a (by simp) f hf] at hd
        exact e (of_decide_eq_true hd)
      rw [this, List.nil_append]
      by_cases hx : x ∈ hs
      · rw [if_pos hx, if_pos (by simp [hx])]
      · rw [if_neg hx, if_neg (by simp [hx]; exact fun h => e h.symm)]
theorem ent_fil (h : EOk s recs L) {x : Int} (hx : x ∈ headsF L L.length) : (allF s recs L).filter (fun f => decide (f.ent = x)) = entF s recs L x := by
  have h1 : (hsF s recs L).Nodup := (hsF_sorted s recs L).imp fun {a b} h e => by subst e; unfold HLt at h; omega
  unfold allF
  rw [fil_flat _ _ _ (fun y hy f hf => ?_) h1, if_pos ((hsF_mem h.heads).2 hx)]
  obtain ⟨k, hk, e⟩ := List.getElem_of_mem hf
  have := (ent_same h hy hk).2.1
  rwa [gget hk, e] at this
/-- What the law puts together. -/
def wantF (F : List Fac) (mem : List Int) (x : Int) (k : Nat) : List Fac := ((F.take k).filter fun f => decide (f.ent = x)).map (reF mem)
theorem wantF_succ (F : List Fac) (mem : List Int) (x : Int) {k : Nat} (hk : k < F.length) : wantF F mem x (k + 1) = wantF F mem x k ++ if (F.getD k default).ent = x then [reF mem (F.getD k default)] else [] := by
  unfold wantF
  rw [List.take_succ_eq_append_getElem hk, List.filter_append, List.map_append, gget hk]
  congr 1
  by_cases h : F[k].ent = x
  · rw [if_pos h, List.filter_cons_of_pos (by simpa using h)]; rfl
  · rw [if_neg h, List.filter_cons_of_neg (by simpa using h)]; rfl
theorem wantF_len (F : List Fac) (mem : List Int) (x : Int) (k : Nat) : (wantF F mem x k).length ≤ k := by
  unfold wantF
  rw [List.length_map]
  exact Nat.le_trans (List.length_filter_le _ _) (by simp; omega)
theorem want_all (h : EOk s recs L) {x : Int} (hx : x ∈ headsF L L.length) (mem : List Int) : wantF (allF s recs L) mem x (allF s recs L).length = (entF s recs L x).map (reF mem) := by
  unfold wantF
  rw [List.take_length, ent_fil h hx]
/-- The members found so far: the first 'k' of the fact's, and the first 'n' places for the next one. -/
def frmK (mem frm : List Int) (k : Nat) : List Int := (frm.take k).flatMap (pos mem)
theorem frmK_succ (mem frm : List Int) {k : Nat} (hk : k < frm.length) : frmK mem frm (k + 1) = frmK mem frm k ++ pos mem (frm.getD k default) := by
  unfold frmK
  rw [List.take_succ_eq_append_getElem hk, List.flatMap_append, gget hk]
  simp
theorem posK_len (mem : List Int) (v : Int) (k : Nat) : (posK mem v k).length ≤ k := by
  unfold posK
  rw [List.length_map]
  exact Nat.le_trans (List.length_filter_le _ _) (by simp)
theorem frmK_len (mem frm : List Int) (M : Nat) (hm : mem.length ≤ M) (k : Nat) : (frmK mem frm k).length ≤ k * M := by
  have := flat_len (pos mem) M (frm.take k) fun v _ => Nat.le_trans (posK_len mem v mem.length) hm
  unfold frmK
  refine Nat.le_trans this (Nat.mul_le_mul_right _ (by simp; omega))
theorem frmK_all (mem frm : List Int) : frmK mem frm frm.length = frm.flatMap (pos mem) := by unfold frmK; rw [List.take_length]
end Go.Proofs.Ytckihgamnmmbnaa
