/- Own library: regions of open order in which some operations have values that hang on the order: each is told by a relation. The others' values are the same in every order. -/
import Derived.Test.YtglaigeellpikaaXVcNew
namespace Go.Vc
abbrev Rel := Value → World → Prop
/-- What is known of the result of operation 'x'. -/
def factS (Sl : List (Option Rel)) (us : Nat → Value) (x : Nat) (w : World) : Prop := match Sl[x]? with
  | some (some S) => S (us x) w
  | _ => True
def relS (Sl : List (Option Rel)) (vl : List Value) (x : Nat) (u : Value) (w : World) : Prop := match Sl[x]? with
  | some (some S) => S u w
  | _ => u = vl.getD x undef
def MonoS (w0 : World) (S : Rel) : Prop := ∀ u a b, Ext w0 a → S u a → Ext a b → S u b
def VSs (P : Program) (L : List Oper) (w0 : World) (us : Nat → Value) (F : Nat → World → Prop) : (j i : Nat) → List (Option Rel) → List Value → List Oper → Env → (Env → Prop) → Prop
  | 0, _, Sl, vl, _, ρ, K => Sl = [] ∧ vl = [] ∧ K ρ
  | j + 1, i, none :: Sl, v :: vl, o :: l, ρ, K =>
    (wantedE L ρ o = true → ∀ w', Ext w0 w' → (∀ x, ((ancs L []).getD i 0).testBit x = true → F x w') → yieldsTo P ρ o w' v (Ext w')) ∧ (wantedE L ρ o = false → v = undef) ∧
      VSs P L w0 us F j (i + 1) Sl vl l (put ρ o.dst v) K
  | j + 1, i, some S :: Sl, _ :: vl, o :: l, ρ, K =>
    MonoS w0 S ∧ wantedE L ρ o = true ∧ (∀ w', Ext w0 w' → (∀ x, ((ancs L []).getD i 0).testBit x = true → F x w') → yieldsR P ρ o w' fun u w'' => S u w'' ∧ Ext w' w'') ∧
      VSs P L w0 us F j (i + 1) Sl vl l (put ρ o.dst (us i)) K
  | _, _, _, _, _, _, _ => False
structure VS (P : Program) (L : List Oper) (w0 : World) (us : Nat → Value) (F : Nat → World → Prop) (j i : Nat) (Sl : List (Option Rel)) (vl : List Value) (l : List Oper) (ρ : Env) (K : Env → Prop) : Prop where
  go : VSs P L w0 us F j i Sl vl l ρ K
section
variable {P : Program} {N : Nat} {L : List Oper} {Q : Exit → Env → World → Prop} {ρ : Env}
/-- The values of one order: those of the specials as they come, the others as they are told. -/
def valsS (Sl : List (Option Rel)) (vl : List Value) (us : Nat → Value) (x : Nat) : Value := match Sl[x]? with
  | some (some _) => us x
  | _ => vl.getD x undef
theorem VSs_spec {w0 : World} {us : Nat → Value} {F : Nat → World → Prop} {K : Env → Prop} {Sl0 : List (Option Rel)} {vl0 : List Value} : ∀ (j i : Nat), i + j ≤ L.length → VSs P L w0 us F j i (Sl0.drop i) (vl0.drop i) (L.drop i) (envL L (valsS Sl0 vl0 us) ρ i) K →
    (∀ x o, i ≤ x → x < i + j → L[x]? = some o → ∀ w', Ext w0 w' → (∀ y, ((ancs L []).getD x 0).testBit y = true → F y w') →
      (wantedE L (envL L (valsS Sl0 vl0 us) ρ x) o = true → yieldsR P (envL L (valsS Sl0 vl0 us) ρ x) o w' fun u w'' => relS Sl0 vl0 x u w'' ∧ Ext w' w'') ∧ (wantedE L (envL L (valsS Sl0 vl0 us) ρ x) o = false → relS Sl0 vl0 x undef w')) ∧
    (∀ x S, i ≤ x → x < i + j → Sl0[x]? = some (some S) → MonoS w0 S) ∧ K (envL L (valsS Sl0 vl0 us) ρ (i + j)) := by
  intro j
  induction j with
  | zero =>
    intro i _ h
    exact ⟨fun x o h1 h2 => by omega, fun x S h1 h2 => by omega, h.2.2⟩
  | succ j ih =>
    intro i hij h
    have hi : i < L.length := by omega
    have ho : L[i]? = some L[i] := List.getElem?_eq_getElem hi
    rw [List.drop_eq_getElem_cons hi] at h
    cases hS : Sl0.drop i with
    | nil => rw [hS] at h; exact h.elim
    | cons s Sl =>
      cases hv : vl0.drop i with
      | nil => rw [hS, hv] at h; cases s <;> exact h.elim
      | cons v vl =>
        rw [hS, hv] at h
        have hS1 : Sl0.drop (i + 1) = Sl := by rw [← List.drop_drop, hS]; rfl
        have hv1 : vl0.drop (i + 1) = vl := by rw [← List.drop_drop, hv]; rfl
        have hSi : Sl0[i]? = some s := by
          have := List.getElem?_drop (xs := Sl0) (i := i) (j := 0)
          rw [hS] at this; simpa using this.symm
        have hvi : vl0.getD i undef = v := by
          have := List.getElem?_drop (xs := vl0) (i := i) (j := 0)
          rw [hv] at this
          simp only [List.getElem?_cons_zero, Nat.add_zero] at this
          simp [List.getD, ← this]
        cases s with
        | none =>
          have hval : valsS Sl0 vl0 us i = v := by unfold valsS; rw [hSi]; exact hvi
          obtain ⟨h1, h2, h3⟩ := h
          rw [← hval, ← envL_succ ho, ← hS1, ← hv1] at h3
          obtain ⟨k1, k2, k3⟩ := ih (i + 1) (by omega) h3
          refine ⟨fun x o hx1 hx2 hxo w' e hF => ?_, fun x S hx1 hx2 hx3 => ?_, by rw [show i + (j + 1) = i + 1 + j by omega]; exact k3⟩
          · by_cases hxi : x = i
            · subst hxi
              rw [ho] at hxo
              injection hxo with hxo
              subst hxo
              have hr : ∀ u w, u = v → relS Sl0 vl0 x u w := fun u w hu => by unfold relS; rw [hSi]; exact hu.trans hvi.symm
              exact ⟨fun hw => yieldsR_mono (yieldsR_of_to (h1 hw w' e hF)) fun u w'' hu => ⟨hr _ _ hu.1, hu.2⟩, fun hw => hr _ _ (h2 hw).symm⟩
            · exact k1 x o (by omega) (by omega) hxo w' e hF
          · by_cases hxi : x = i
            · subst hxi; rw [hSi] at hx3; cases hx3
            · exact k2 x S (by omega) (by omega) hx3
        | some S =>
          have hval : valsS Sl0 vl0 us i = us i := by unfold valsS; rw [hSi]
          obtain ⟨h0, h1, h2, h3⟩ := h
          rw [← hval, ← envL_succ ho, ← hS1, ← hv1] at h3
          obtain ⟨k1, k2, k3⟩ := ih (i + 1) (by omega) h3
          refine ⟨fun x o hx1 hx2 hxo w' e hF => ?_, fun x S' hx1 hx2 hx3 => ?_, by rw [show i + (j + 1) = i + 1 + j by omega]; exact k3⟩
          · by_cases hxi : x = i
            · subst hxi
              rw [ho] at hxo
              injection hxo with hxo
              subst hxo
              refine ⟨fun hw => yieldsR_mono (h2 w' e hF) fun u w'' hu => ⟨?_, hu.2⟩, fun hw => by rw [h1] at hw; cases hw⟩
              unfold relS; rw [hSi]; exact hu.1
            · exact k1 x o (by omega) (by omega) hxo w' e hF
          · by_cases hxi : x = i
            · subst hxi; rw [hSi] at hx3; injection hx3 with hx3; injection hx3 with hx3; subst hx3; exact h0
            · exact k2 x S' (by omega) (by omega) hx3
theorem V.regionS {id : Nat} {w : World} (hm : P.follows .mixedOrders = true) (k : Nat) (hr : regOk L k = true) (hk : Nat.ble k L.length = true) {Sl : List (Option Rel)} {vl : List Value}
    (h : ∀ us, VS P L w us (factS Sl us) k 0 Sl vl L ρ fun ρ' => ∀ w', Ext w w' → (∀ x, factS Sl us x w') → VL P N L Q (L.drop k) ρ' w') (hl : Nat.ble Sl.length k = true) :
    V P N (.region id L.toArray true) Q ρ w := by
  refine ⟨fun ok => ?_⟩
  have okL : okOps N L = true := by simpa [okCode] using ok
  have RO := regOk_spec hr
  have hkl := Nat.le_of_ble_eq_true hk
  have sp := fun us => VSs_spec (P := P) (L := L) (ρ := ρ) (Sl0 := Sl) (vl0 := vl) (us := us) k 0 (by omega) (by rw [envL_zero]; exact (h us).go)
  refine (V.regionM (Q := Q) (ρ := ρ) (id := id) (w := w) hm k hr hk (relS Sl vl) (fun i u w1 w2 h1 h2 h3 => ?_) (N := N) fun vals => ?_).go ok
  · unfold relS at h2 ⊢
    cases hS : Sl[i]? with
    | none => rw [hS] at h2; exact h2
    | some s =>
      cases s with
      | none => rw [hS] at h2; exact h2
      | some S =>
        rw [hS] at h2
        have hik : i < k := by have := (List.getElem?_eq_some_iff.1 hS).1; have := Nat.le_of_ble_eq_true hl; omega
        exact (sp (fun _ => undef)).2.1 i S (Nat.zero_le _) (by omega) hS u w1 w2 h1 h2 h3
  · obtain ⟨s1, s2, s3⟩ := sp vals
    have hrel : ∀ y w', relS Sl vl y (vals y) w' → vals y = valsS Sl vl vals y ∧ factS Sl vals y w' := fun y w' hy => by
      unfold relS at hy
      unfold valsS factS
      split
      · rename_i S hS
        rw [hS] at hy
        exact ⟨rfl, hy⟩
      · rename_i hn
        refine ⟨?_, trivial⟩
        split at hy
        · rename_i S hS; exact (hn S hS).elim
        · exact hy
    have hVM := VMs_of (P := P) (A := ancs L []) (L := L) (ρ := ρ) (R := relS Sl vl) (w0 := w) (vals := vals)
      (K := fun ρ' => ∀ w', Ext w w' → (∀ j, j < k → relS Sl vl j (vals j) w') → VL P N L Q (L.drop k) ρ' w') k 0 (by omega) ?_ ?_
    · rw [envL_zero] at hVM; exact hVM
    · intro x ox hx0 hx hox w' e hanc
      have hxl := (List.getElem?_eq_some_iff.1 hox).1
      have hsame : ∀ t ∈ names L ox, envL L (valsS Sl vl vals) ρ x t = envL L vals ρ x t := fun t ht => by
        refine envL_vals x (by omega) fun j hj hd => ?_
        exact (hrel j w' (hanc j (names_anc RO hox ht hj hd))).1.symm
      have hokx : okOp N ox = true := List.all_eq_true.1 okL ox (List.mem_of_getElem? hox)
      obtain ⟨o1, o2⟩ := s1 x ox hx0 hx hox w' e fun y hy => (hrel y w' (hanc y hy)).2
      rw [← wanted_same hsame]
      exact ⟨fun hw => yieldsR_same (tm_same hsame hokx) (o1 hw), o2⟩
    · rw [Nat.zero_add] at s3 ⊢
      intro w' e hR
      have hE : envL L vals ρ k = envL L (valsS Sl vl vals) ρ k := by
        funext t
        exact envL_vals k hkl fun j hj _ => (hrel j w' (hR j hj)).1
      rw [hE]
      refine s3 w' e fun x => ?_
      by_cases hx : x < k
      · exact (hrel x w' (hR x hx)).2
      · unfold factS
        have : Sl[x]? = none := List.getElem?_eq_none (by have := Nat.le_of_ble_eq_true hl; omega)
        rw [this]; trivial

section
variable {w0 : World} {us : Nat → Value} {F : Nat → World → Prop} {K : Env → Prop} {j i : Nat} {Sl : List (Option Rel)} {vl : List Value} {l : List Oper} {d : Nat} {q : Op} {ty : TypeId} {p : String} {af : Array Edge} {v : Value}
theorem VS.nil (h : K ρ) : VS P L w0 us F 0 i [] [] l ρ K := ⟨rfl, rfl, h⟩
theorem VS.op (hr : ∀ w, Ext w0 w → run1 P ρ q ty w = .ok (.value v) w) (h : VS P L w0 us F j (i + 1) Sl vl l (upd ρ d v) K) :
    VS P L w0 us F (j + 1) i (none :: Sl) (v :: vl) ({ dst := some d, op := q, type := ty, pos := p, after := af, guard := none } :: l) ρ K :=
  ⟨⟨fun _ w e _ => by unfold yieldsTo; rw [run1_eq, hr w e]; exact ⟨rfl, Mod.refl _ _⟩, fun hw => by simp [wantedE, Region.wanted] at hw, h.go⟩⟩
theorem VS.callP {f : FuncId} {l' : List Operand} {vs : List Value} {ts : Array TypeId} (hc : IsFn P f) (ha : l'.map (tm ρ) = vs) (hf : ∀ w, Ext w0 w → RetsP P f vs.toArray w v)
    (h : VS P L w0 us F j (i + 1) Sl vl l (upd ρ d v) K) :
    VS P L w0 us F (j + 1) i (none :: Sl) (v :: vl) ({ dst := some d, op := .call { callee := .value (.func f), args := l'.toArray, argTypes := ts }, type := ty, pos := p, after := af, guard := none } :: l) ρ K :=
  ⟨⟨fun _ w e _ => by unfold yieldsTo; rw [run1_eq, R.call hc ha]; exact hf w e, fun hw => by simp [wantedE, Region.wanted] at hw, h.go⟩⟩
/-- Any other operation that makes something new. -/
theorem VS.spec {o : Oper} (S : Rel) (mono : MonoS w0 S) (hw : wantedE L ρ o = true) (hf : ∀ w, Ext w0 w → (∀ x, ((ancs L []).getD i 0).testBit x = true → F x w) → yieldsR P ρ o w fun u w' => S u w' ∧ Ext w w')
    (h : VS P L w0 us F j (i + 1) Sl vl l (put ρ o.dst (us i)) K) :
    VS P L w0 us F (j + 1) i (some S :: Sl) (undef :: vl) (o :: l) ρ K := ⟨⟨mono, hw, fun w e hF => hf w e hF, h.go⟩⟩
end
end
end Go.Vc
