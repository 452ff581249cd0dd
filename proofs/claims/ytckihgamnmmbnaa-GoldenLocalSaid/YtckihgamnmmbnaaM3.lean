/- Golden: heads of entities and their number. -/
import Derived.Test.YtckihgamnmmbnaaM2
import Derived.Test.YtckihgamnmmbnaaVcGuard
namespace Go.Proofs.Ytckihgamnmmbnaa
open Go.Vc Go.Sort
variable {s : Set_} {recs : List Rec} {L : List Int}
/-- The facts as they lie, and what they are. -/
theorem fct_at {l : List Fct} {F : List Fac} (h : l.map (·.f) = F) {k : Nat} (hk : k < l.length) : (l.getD k default).f = F.getD k default := by
  rw [← h, gmap _ _ _ hk]
theorem fct_mem {l : List Fct} {F : List Fac} (h : l.map (·.f) = F) {k : Nat} (hk : k < l.length) : (l.getD k default).f ∈ F := by
  rw [← h]; exact List.mem_map_of_mem (gmem hk)
theorem all_head (h : EOk s recs L) {i : Nat} (hi : i < (allF s recs L).length) (hv : ((allF s recs L).getD i default).variant = 0) :
    ∃ x ∈ headsF L L.length, (allF s recs L).getD i default = baseF s recs (grpF L x L.length) (tabOf recs x) := by
  obtain ⟨pre, x, post, k, h1, h2, h3⟩ := find_blk hi
  have hx := mem_split h1
  have e1 := (all_at h1 h2).1
  rw [← h3] at e1
  rw [e1] at hv ⊢
  have k0 := (ent_same h hx h2).2.2.1 hv
  subst k0
  refine ⟨x, h.mem hx, ?_⟩
  rcases facts_at h2 with ⟨_, e⟩ | ⟨h0, _⟩ | ⟨h0, _⟩
  · exact e
  · exact absurd h0 (Nat.lt_irrefl _)
  · have := (nV_ok s recs (grpF L x L.length) (tabOf recs x)).1
    omega
/-- What a head's fact is, as one asks for it. -/
structure HeadF (s : Set_) (recs : List Rec) (L : List Int) (f : Fac) : Prop where
  mb : memB s recs f.frm = true
  row : baseG s recs f.frm (recs.getD (f.frm.getD 0 default).toNat default).table = f.row
  cost : f.cost = 0
  frm : f.frm = grpF L f.ent L.length
theorem all_head' (h : EOk s recs L) {i : Nat} (hi : i < (allF s recs L).length) (hv : ((allF s recs L).getD i default).variant = 0) : HeadF s recs L ((allF s recs L).getD i default) := by
  obtain ⟨x, hx, e⟩ := all_head h hi hv
  rw [e]
  have hf := grp_first h hx
  refine ⟨grp_memB h.len h.at_ hx, ?_, rfl, ?_⟩
  · show baseG s recs (grpF L x L.length) (recs.getD ((grpF L x L.length).getD 0 default).toNat default).table = baseG s recs (grpF L x L.length) (tabOf recs x)
    rw [hf]; rfl
  · show grpF L x L.length = grpF L ((grpF L x L.length).getD 0 default) L.length
    rw [hf]
/-- The number of heads among the first facts. -/
def cntF (F : List Fac) (i : Nat) : Nat := ((F.take i).filter fun f => decide (f.variant = 0)).length
theorem cntF_succ (F : List Fac) {i : Nat} (hi : i < F.length) : cntF F (i + 1) = cntF F i + if (F.getD i default).variant = 0 then 1 else 0 := by
  unfold cntF
  rw [List.take_succ_eq_append_getElem hi, List.filter_append, List.length_append, show F.getD i default = F[i] by simp [List.getD, hi]]
  by_cases h : F[i].variant = 0
  · rw [if_pos h, List.filter_cons_of_pos (by simpa using h)]; rfl
  · rw [if_neg h, List.filter_cons_of_neg (by simpa using h)]; rfl
theorem cntF_le (F : List Fac) (i : Nat) : cntF F i ≤ i := by
  unfold cntF
  exact Nat.le_trans (List.length_filter_le _ _) (by simp; omega)
theorem cnt_one {l : List Fac} (hp : 0 < l.length) (h : ∀ k, k < l.length → ((l.getD k default).variant = 0 ↔ k = 0)) : (l.filter fun f => decide (f.variant = 0)).length = 1 := by
  cases l with
  | nil => simp at hp
  | cons a l =>
    have h0 : a.variant = 0 := (h 0 hp).2 rfl
    rw [List.filter_cons_of_pos (by simpa using h0)]
    have : l.filter (fun f => decide (f.variant = 0)) = [] := by
      rw [List.filter_eq_nil_iff]
      intro f hf
      obtain ⟨k, hk, rfl⟩ := List.getElem_of_mem hf
      have := h (k + 1) (by simp; omega)
      simp [List.getD, hk] at this
      simpa using this
    rw [this]; rfl
theorem cnt_flat (F : Int → List Fac) : ∀ hs : List Int, (∀ x ∈ hs, ((F x).filter fun f => decide (f.variant = 0)).length = 1) → ((hs.flatMap F).filter fun f => decide (f.variant = 0)).length = hs.length := by
  intro hs
  induction hs with
  | nil => intro _; rfl
  | cons a hs ih =>
    intro h
    rw [List.flatMap_cons, List.filter_append, List.length_append, h a (by simp), ih fun x hx => h x (by simp [hx]), List.length_cons]
    omega
theorem hs_perm (h : EOk s recs L) : (hsF s recs L).length = (headsF L L.length).length := by
  have h1 : (hsF s recs L).Nodup := (hsF_sorted s recs L).imp fun {a b} h e => by subst e; unfold HLt at h; omega
  have h2 : (headsF L L.length).Nodup := (headsF_lt L L.length).imp fun {a b} h e => by omega
  exact ((List.perm_ext_iff_of_nodup h1 h2).2 fun x => hsF_mem h.heads).length_eq
theorem cnt_all (h : EOk s recs L) : cntF (allF s recs L) (allF s recs L).length = (headsF L L.length).length := by
  unfold cntF
  rw [List.take_length, ← hs_perm h]
  exact cnt_flat _ _ fun x hx => cnt_one (ent_pos x) fun k hk => (ent_same h hx hk).2.2
theorem eqB4 : ∀ a b w, (Op.equal 4 (.bool a) (.bool b)).run Try.prog w = .ok (decide (a = b)) w := by
  intro a b w
  show (Op.equalIn (9999 + 1) 4 _ _).run Try.prog w = _
  unfold Op.equalIn
  simp [go_sem]
  exact Bool.eq_iff_iff.2 (by simp)
end Go.Proofs.Ytckihgamnmmbnaa
