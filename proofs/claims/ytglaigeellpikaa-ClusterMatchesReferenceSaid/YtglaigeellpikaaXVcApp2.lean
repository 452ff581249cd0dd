/- Own library: appending one element to an own slice, told in both ways it goes: in place, or into a new block. -/
import Derived.Test.YtglaigeellpikaaXVcTurn
import Derived.Test.YtglaigeellpikaaXVcGuard
namespace Go.Vc
section
variable {P : Program} {ρ : Env} {w : World} {ty t : TypeId} {x y : Operand} {p : String} {af : Array Edge} {g : Option (Nat × Bool)} {d : Option Tmp}
theorem R.app1 {α : Type} {enc : α → List Value} {B e s bytes : Nat} {z : Value} (E : ElT P t e s bytes z) {a : Option Addr} {cap b : Nat} {l : List α} {u : α}
    (hone : ∀ u, allOne (enc u) = true) (hx : tm ρ x = .slice a l.length cap) (hown : OwnT enc s e B w a cap l) (hy : tm ρ y = .slice (some ⟨b, 0, none⟩) 1 1) (hs : TSl enc s w (some ⟨b, 0, none⟩) [u])
    (hbytes : (l.length + 1) * bytes ≤ 140737488355328) (h63 : l.length + 1 ≤ maxLen) (hB : B ≤ w.heap.size) :
    ∃ a' cap' w', run1 P ρ (.call { callee := .builtin .append, args := #[x, y], argTypes := #[t, t] }) ty w = .ok (.value (.slice a' (l.length + 1) cap')) w' ∧ OwnT enc s e B w' a' cap' (l ++ [u]) ∧ Mod (aBlk a) w w' ∧ (∀ k, aBlk a' k → aBlk a k ∨ w.heap.size ≤ k) ∧ ((a' = a ∧ cap' = cap) ∨ (Ext w w' ∧ ∀ k, aBlk a' k → w.heap.size ≤ k)) := by
  have lift : ∀ a' n cap' w', (Builtin.append_ #[t, t] ty #[.slice a l.length cap, .slice (some ⟨b, 0, none⟩) 1 1]).run P w = .ok (.slice a' n cap') w' → run1 P ρ (.call { callee := .builtin .append, args := #[x, y], argTypes := #[t, t] }) ty w = .ok (.value (.slice a' n cap')) w' := fun a' n cap' w' hr => by
    simp only [run1, execOp, resolve, invoke, builtin, Sem.run_bind, Sem.run_pure, Result.andThen_ok, List.map_toArray, List.map_cons, List.map_nil, hx, hy, hr]
  have hone' : ∀ r ∈ [enc u], ∀ v ∈ r, v.oneCell' = true := by
    intro r hr v hv
    rw [List.mem_singleton] at hr
    rw [hr] at hv
    exact (allOne_iff _).1 (hone u) v hv
  obtain ⟨a', cap', w', hr, ho, hm, hf⟩ := run_append_any (P := P) (ty := ty) (rows := l.map enc) (news := [enc u]) E hown hs (fun h => by cases h) hone' (by simpa using hbytes) (by simpa using h63) hB
  simp only [List.length_map, List.length_singleton] at hr
  refine ⟨a', cap', w', lift _ _ _ _ hr, by unfold OwnT; rw [List.map_append]; exact ho, hm, hf, ?_⟩
  clear ho hf hm
  obtain ⟨i, hi, hz, hsz, hby⟩ := E.hi
  subst hsz; subst hby
  have hl : (enc u).length = 1 * i.size := by rw [Nat.one_mul]; exact hs.1 (enc u) (by simp)
  have hadds : SlV w i.size (some ⟨b, 0, none⟩) [enc u] := hs
  have hsmall : l.length + 1 ≤ 9223372036854775807 := by simp only [maxLen] at h63; omega
  rcases hown.own.2 with ⟨h, h0⟩ | ⟨g, cap0, cur, hv, hbg, hgg, hnc, hcm, hcs, htake⟩
  · rw [List.length_map] at h0
    injection h with ha _ hc
    subst ha; subst hc
    have hrun := run_append_nil (P := P) w t ty e i z E.ht hi hz ⟨b, 0, none⟩ 1 1 [enc u].flatten (by simpa using hl) hadds.adds (by omega) (by omega) (by rw [h0] at hbytes; omega)
    rw [h0] at hr
    simp only [Nat.zero_add] at hr
    rw [hrun] at hr
    injection hr with hr hw
    injection hr with hr _ _
    rw [← hw]
    exact .inr ⟨(Ext.drawn w).trans (Ext.alloc _ _), by rintro k ⟨x, rfl, rfl⟩; injection hr with hr; subst hr; exact Nat.le_refl _⟩
  · injection hv with ha hn hc
    subst ha; subst hc
    rw [List.length_map] at hnc
    have hown' := hown.own
    simp only [List.length_map] at hown'
    by_cases hroom : l.length + 1 ≤ cap
    · have hfit : l.length * i.size + [enc u].flatten.length ≤ cur.size := by
        simp only [List.flatten_cons, List.flatten_nil, List.append_nil]
        rw [hl, hcs, ← Nat.add_mul]; exact Nat.mul_le_mul_right _ hroom
      have hrun := run_append_room (P := P) w t ty e i E.ht hi g l.length cap cur hgg ⟨b, 0, none⟩ 1 1 [enc u].flatten (by simpa using hl) hadds.adds (by intro v hv; obtain ⟨r, hr, hv⟩ := List.mem_flatten.1 hv; exact hone' r hr v hv) hroom hfit
      rw [hrun] at hr
      injection hr with hr hw
      injection hr with hr _ hr2
      exact .inl ⟨hr.symm, hr2.symm⟩
    · have hrun := run_append_grow (P := P) w t ty e i z E.ht hi hz ⟨g, 0, none⟩ l.length cap (l.map enc).flatten (by rw [hown'.1]) (hown'.cells (g := g) rfl) ⟨b, 0, none⟩ 1 1 [enc u].flatten (by simpa using hl) hadds.adds (by omega) (by omega) (growslice_fits (by omega) hbytes)
      rw [hrun] at hr
      injection hr with hr hw
      injection hr with hr _ _
      rw [← hw]
      exact .inr ⟨(Ext.drawn w).trans (Ext.alloc _ _), by rintro k ⟨x, rfl, rfl⟩; injection hr with hr; subst hr; exact Nat.le_refl _⟩
end
/-- What is longer holds what is shorter. -/
theorem OwnT.prefix_ {α : Type} {enc : α → List Value} {s e B : Nat} {w : World} {a : Option Addr} {cap : Nat} {l m : List α} (h : OwnT enc s e B w a cap (l ++ m)) : OwnT enc s e B w a cap l := by
  have hl : ∀ r ∈ (l ++ m).map enc, r.length = s := h.len
  have hl1 : ∀ r ∈ l.map enc, r.length = s := fun r hr => hl r (by rw [List.map_append]; exact List.mem_append.2 (.inl hr))
  have hf1 : (l.map enc).flatten.length = l.length * s := by rw [flatten_len _ s hl1, List.length_map]
  refine ⟨hl1, by rw [hf1, List.length_map], ?_⟩
  rcases h.own.2 with ⟨hv, h0⟩ | ⟨g, cap', cur, hv, hB, hg, hn, hcm, hc, ht⟩
  · rw [List.length_map, List.length_append] at h0
    have h1 : l = [] := List.eq_nil_of_length_eq_zero (by omega)
    have h2 : m = [] := List.eq_nil_of_length_eq_zero (by omega)
    subst h1; subst h2
    exact .inl ⟨hv, rfl⟩
  · injection hv with ha hn' hcap
    simp only [List.length_map, List.length_append] at hn ht
    refine .inr ⟨g, cap', cur, by rw [ha, hcap], hB, hg, by rw [List.length_map]; omega, hcm, hc, ?_⟩
    rw [List.length_map]
    have h3 := congrArg (List.take (l.length * s)) ht
    rw [List.take_take, Nat.min_eq_left (Nat.mul_le_mul_right _ (by omega)), List.map_append, List.flatten_append, List.take_left' hf1] at h3
    exact h3
/-- An own slice may be appended to once: what lies in it stays, whichever of the two it is. -/
structure TA {α : Type} (enc : α → List Value) (s e B : Nat) (a : Option Addr) (cap : Nat) (l : List α) (u : α) (w w' : World) : Prop where
  m : Mod (aBlk a) w w'
  s1 : OwnT enc s e B w a cap l → OwnT enc s e B w' a cap l
  s2 : OwnT enc s e B w a cap (l ++ [u]) → OwnT enc s e B w' a cap (l ++ [u])
instance {α : Type} (enc : α → List Value) (s e B : Nat) (a : Option Addr) (cap : Nat) (l : List α) (u : α) : Turn (TA enc s e B a cap l u) where
  refl _w := ⟨Mod.refl _ _, fun h => h, fun h => h⟩
  trans h k := ⟨h.m.trans k.m, fun x => k.s1 (h.s1 x), fun x => k.s2 (h.s2 x)⟩
  ext e := ⟨e.mod, fun h => h.ext e, fun h => h.ext e⟩
/-- What the append yields. -/
def SA {α : Type} (enc : α → List Value) (s e B n0 : Nat) (a : Option Addr) (cap : Nat) (l : List α) (u : α) : Rel := fun v w => ∃ a' c', v = .slice a' (l.length + 1) c' ∧ OwnT enc s e B w a' c' (l ++ [u]) ∧ ((a' = a ∧ c' = cap) ∨ ∀ q, aBlk a' q → n0 ≤ q)
theorem SA.mono {α : Type} {enc : α → List Value} {s e B : Nat} {a : Option Addr} {cap : Nat} {l : List α} {u : α} {w0 : World} (h0 : OwnT enc s e B w0 a cap l) : MonoT (TA enc s e B a cap l u) w0 (SA enc s e B w0.heap.size a cap l u) := fun v x y _ ⟨a', c', h1, h2, h3⟩ t => by
  refine ⟨a', c', h1, ?_, h3⟩
  rcases h3 with ⟨e1, e2⟩ | h3
  · subst e1; subst e2; exact t.s2 h2
  · exact h2.mod t.m fun q hq hs => by have := h3 q hq; have := h0.lt q hs; omega
theorem yieldsR_app1 {P : Program} {ρ : Env} {w0 w : World} {ty t : TypeId} {x y : Operand} {p : String} {af : Array Edge} {g : Option (Nat × Bool)} {d : Option Tmp} {α : Type} {enc : α → List Value} {B e s bytes : Nat} {z : Value} (E : ElT P t e s bytes z) {a : Option Addr} {cap b : Nat} {l : List α} {u : α}
    (hone : ∀ u, allOne (enc u) = true) (h0 : OwnT enc s e B w0 a cap l) (ht : TA enc s e B a cap l u w0 w) (hx : tm ρ x = .slice a l.length cap) (hy : tm ρ y = .slice (some ⟨b, 0, none⟩) 1 1) (hs : TSl enc s w (some ⟨b, 0, none⟩) [u])
    (hbytes : (l.length + 1) * bytes ≤ 140737488355328) (h63 : l.length + 1 ≤ maxLen) (hB : B ≤ w0.heap.size) :
    yieldsR P ρ { dst := d, op := .call { callee := .builtin .append, args := #[x, y], argTypes := #[t, t] }, type := ty, pos := p, after := af, guard := g } w fun v w' => SA enc s e B w0.heap.size a cap l u v w' ∧ TA enc s e B a cap l u w w' := by
  have hown := ht.s1 h0
  have hsz := ht.m.size
  obtain ⟨a', c', w', hr, ho, hm, hf, hd⟩ := R.app1 (P := P) (ρ := ρ) (ty := ty) E hone hx hown hy hs hbytes h63 (Nat.le_trans hB hsz)
  refine yieldsR_op hr ⟨⟨a', c', rfl, ho, ?_⟩, hm, fun h => ?_, fun h => ?_⟩
  · rcases hd with h | ⟨_, h⟩
    · exact .inl h
    · exact .inr fun q hq => Nat.le_trans hsz (h q hq)
  · rcases hd with ⟨e1, e2⟩ | ⟨h1, _⟩
    · subst e1; subst e2; exact ho.prefix_
    · exact h.ext h1
  · rcases hd with ⟨e1, e2⟩ | ⟨h1, _⟩
    · subst e1; subst e2; exact ho
    · exact h.ext h1
end Go.Vc
