/- Own library: appending a list to an own slice, told in both ways it goes: in place, or into a new block. -/
import Derived.Test.YtbfejgbeaehbmaaGreatDoorVcApp2
namespace Go.Vc
section
variable {P : Program} {ρ : Env} {w : World} {ty t : TypeId} {x y : Operand} {p : String} {af : Array Edge} {g : Option (Nat × Bool)} {d : Option Tmp}
theorem R.appN {α : Type} {enc : α → List Value} {B e s bytes : Nat} {z : Value} (E : ElT P t e s bytes z) {a : Option Addr} {cap : Nat} {l : List α} {ad : Addr} {m c : Nat} {news : List α}
    (hone : ∀ u, allOne (enc u) = true) (hx : tm ρ x = .slice a l.length cap) (hown : OwnT enc s e B w a cap l) (hy : tm ρ y = .slice (some ad) m c) (hm : m = news.length) (hpos : 0 < news.length) (hs : TSl enc s w (some ad) news)
    (hbytes : (l.length + news.length) * bytes ≤ 140737488355328) (h63 : l.length + news.length ≤ maxLen) (hB : B ≤ w.heap.size) :
    ∃ a' cap' w', run1 P ρ (.call { callee := .builtin .append, args := #[x, y], argTypes := #[t, t] }) ty w = .ok (.value (.slice a' (l.length + m) cap')) w' ∧ OwnT enc s e B w' a' cap' (l ++ news) ∧ Mod (aBlk a) w w' ∧ (∀ k, aBlk a' k → aBlk a k ∨ w.heap.size ≤ k) ∧ ((a' = a ∧ cap' = cap) ∨ (Ext w w' ∧ ∀ k, aBlk a' k → w.heap.size ≤ k)) := by
  subst hm
  have lift : ∀ a' n cap' w', (Builtin.append_ #[t, t] ty #[.slice a l.length cap, .slice (some ad) news.length c]).run P w = .ok (.slice a' n cap') w' → run1 P ρ (.call { callee := .builtin .append, args := #[x, y], argTypes := #[t, t] }) ty w = .ok (.value (.slice a' n cap')) w' := fun a' n cap' w' hr => by
    simp only [run1, execOp, resolve, invoke, builtin, Sem.run_bind, Sem.run_pure, Result.andThen_ok, List.map_toArray, List.map_cons, List.map_nil, hx, hy, hr]
  have hone' : ∀ r ∈ news.map enc, ∀ v ∈ r, v.oneCell' = true := by
    intro r hr v hv
    obtain ⟨u, _, rfl⟩ := List.mem_map.1 hr
    exact (allOne_iff _).1 (hone u) v hv
  obtain ⟨a', cap', w', hr, ho, hm, hf⟩ := run_append_any (P := P) (ty := ty) (rows := l.map enc) (news := news.map enc) (c := c) E hown hs (fun h => by cases h) hone' (by simpa using hbytes) (by simpa using h63) hB
  simp only [List.length_map] at hr
  refine ⟨a', cap', w', lift _ _ _ _ hr, by unfold OwnT; rw [List.map_append]; exact ho, hm, hf, ?_⟩
  clear ho hf hm
  obtain ⟨i, hi, hz, hsz, hby⟩ := E.hi
  subst hsz; subst hby
  have hl : (news.map enc).flatten.length = news.length * i.size := by rw [flatten_len _ i.size hs.1, List.length_map]
  have hadds : SlV w i.size (some ad) (news.map enc) := hs
  have hsmall : l.length + news.length ≤ 9223372036854775807 := by simp only [maxLen] at h63; omega
  rcases hown.own.2 with ⟨h, h0⟩ | ⟨g, cap0, cur, hv, hbg, hgg, hnc, hcm, hcs, htake⟩
  · rw [List.length_map] at h0
    injection h with ha _ hc
    subst ha; subst hc
    have hrun := run_append_nil (P := P) w t ty e i z E.ht hi hz ad news.length c (news.map enc).flatten hl hadds.adds (by omega) (by omega) (by rw [h0, Nat.zero_add] at hbytes; omega)
    rw [h0] at hr
    simp only [Nat.zero_add] at hr
    rw [hrun] at hr
    injection hr with hr hw
    injection hr with hr _ _
    rw [← hw]
    exact .inr ⟨(Ext.drawn w).trans (Ext.alloc _ _), by rintro k ⟨x, rfl, rfl⟩; injection hr with hr; subst hr; exact Nat.le_refl _⟩
  · injection hv with ha hn hc
    subst ha; subst hc
    rw [List.length_map] at hnc
    have hown' := hown.own
    simp only [List.length_map] at hown'
    by_cases hroom : l.length + news.length ≤ cap
    · have hfit : l.length * i.size + (news.map enc).flatten.length ≤ cur.size := by
        rw [hl, hcs, ← Nat.add_mul]; exact Nat.mul_le_mul_right _ hroom
      have hrun := run_append_room (P := P) w t ty e i E.ht hi g l.length cap cur hgg ad news.length c (news.map enc).flatten hl hadds.adds (by intro v hv; obtain ⟨r, hr, hv⟩ := List.mem_flatten.1 hv; exact hone' r hr v hv) hroom hfit
      rw [hrun] at hr
      injection hr with hr hw
      injection hr with hr _ hr2
      exact .inl ⟨hr.symm, hr2.symm⟩
    · have hrun := run_append_grow (P := P) w t ty e i z E.ht hi hz ⟨g, 0, none⟩ l.length cap (l.map enc).flatten (by rw [hown'.1]) (hown'.cells (g := g) rfl) ad news.length c (news.map enc).flatten hl hadds.adds (by omega) (by omega) (growslice_fits (by omega) hbytes)
      rw [hrun] at hr
      injection hr with hr hw
      injection hr with hr _ _
      rw [← hw]
      exact .inr ⟨(Ext.drawn w).trans (Ext.alloc _ _), by rintro k ⟨x, rfl, rfl⟩; injection hr with hr; subst hr; exact Nat.le_refl _⟩
end
/-- An own slice may be appended to once: what lies in it stays, whichever of the two it is. -/
structure TN {α : Type} (enc : α → List Value) (s e B : Nat) (a : Option Addr) (cap : Nat) (l u : List α) (w w' : World) : Prop where
  m : Mod (aBlk a) w w'
  s1 : OwnT enc s e B w a cap l → OwnT enc s e B w' a cap l
  s2 : OwnT enc s e B w a cap (l ++ u) → OwnT enc s e B w' a cap (l ++ u)
instance {α : Type} (enc : α → List Value) (s e B : Nat) (a : Option Addr) (cap : Nat) (l u : List α) : Turn (TN enc s e B a cap l u) where
  refl _w := ⟨Mod.refl _ _, fun h => h, fun h => h⟩
  trans h k := ⟨h.m.trans k.m, fun x => k.s1 (h.s1 x), fun x => k.s2 (h.s2 x)⟩
  ext e := ⟨e.mod, fun h => h.ext e, fun h => h.ext e⟩
/-- What the append yields. -/
def SN {α : Type} (enc : α → List Value) (s e B n0 : Nat) (a : Option Addr) (cap : Nat) (l u : List α) : Rel := fun v w => ∃ a' c', v = .slice a' (l.length + u.length) c' ∧ OwnT enc s e B w a' c' (l ++ u) ∧ ((a' = a ∧ c' = cap) ∨ ∀ q, aBlk a' q → n0 ≤ q)
theorem SN.mono {α : Type} {enc : α → List Value} {s e B : Nat} {a : Option Addr} {cap : Nat} {l u : List α} {w0 : World} (h0 : OwnT enc s e B w0 a cap l) : MonoT (TN enc s e B a cap l u) w0 (SN enc s e B w0.heap.size a cap l u) := fun v x y _ ⟨a', c', h1, h2, h3⟩ t => by
  refine ⟨a', c', h1, ?_, h3⟩
  rcases h3 with ⟨e1, e2⟩ | h3
  · subst e1; subst e2; exact t.s2 h2
  · exact h2.mod t.m fun q hq hs => by have := h3 q hq; have := h0.lt q hs; omega
theorem yieldsR_appN {P : Program} {ρ : Env} {w0 w : World} {ty t : TypeId} {x y : Operand} {p : String} {af : Array Edge} {g : Option (Nat × Bool)} {d : Option Tmp} {α : Type} {enc : α → List Value} {B e s bytes : Nat} {z : Value} (E : ElT P t e s bytes z) {a : Option Addr} {cap : Nat} {ad : Addr} {m c : Nat} {l u : List α}
    (hone : ∀ u, allOne (enc u) = true) (h0 : OwnT enc s e B w0 a cap l) (ht : TN enc s e B a cap l u w0 w) (hx : tm ρ x = .slice a l.length cap) (hy : tm ρ y = .slice (some ad) m c) (hm : m = u.length) (hpos : 0 < u.length) (hs : TSl enc s w (some ad) u)
    (hbytes : (l.length + u.length) * bytes ≤ 140737488355328) (h63 : l.length + u.length ≤ maxLen) (hB : B ≤ w0.heap.size) :
    yieldsR P ρ { dst := d, op := .call { callee := .builtin .append, args := #[x, y], argTypes := #[t, t] }, type := ty, pos := p, after := af, guard := g } w fun v w' => SN enc s e B w0.heap.size a cap l u v w' ∧ TN enc s e B a cap l u w w' := by
  have hown := ht.s1 h0
  have hsz := ht.m.size
  subst hm
  obtain ⟨a', c', w', hr, ho, hm, hf, hd⟩ := R.appN (P := P) (ρ := ρ) (ty := ty) E hone hx hown hy rfl hpos hs hbytes h63 (Nat.le_trans hB hsz)
  refine yieldsR_op hr ⟨⟨a', c', rfl, ho, ?_⟩, hm, fun h => ?_, fun h => ?_⟩
  · rcases hd with h | ⟨_, h⟩
    · exact .inl h
    · exact .inr fun q hq => Nat.le_trans hsz (h q hq)
  · rcases hd with ⟨e1, e2⟩ | ⟨h1, _⟩
    · subst e1; subst e2; exact ho.prefix_
    · exact h.ext h1
  · rcases hd with ⟨e1, e2⟩ | ⟨h1, _⟩
    · subst e1; subst e2; exact ho
    · exact h.ext h1
end Go.Vc
