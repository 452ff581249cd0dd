/- Own library: regions of open order in which the blocks T may turn (printed by mkturn.py). -/
import Derived.Test.YtglaigeellpikaaXVcSpec
set_option linter.unusedSectionVars false
namespace Go.Vc
/-- How worlds may go on. -/
class Turn (T : World → World → Prop) : Prop where
  refl : ∀ a, T a a
  trans : ∀ {a b c}, T a b → T b c → T a c
  ext : ∀ {a b}, Ext a b → T a b
section
variable {T : World → World → Prop} [Turn T] {P : Program} {N : Nat} {L : List Oper} {Q : Exit → Env → World → Prop} {ρ : Env} {k : Nat}
/-- The walk in the text's order: 'R i' tells the result of operation 'i' in every later world. -/
def VMt (T : World → World → Prop) (P : Program) (A : List Nat) (L : List Oper) (R : Nat → Value → World → Prop) (w0 : World) (vals : Nat → Value) (K : Env → Prop) : (j i : Nat) → List Oper → Env → Prop
  | 0, _, _, ρ => K ρ
  | _ + 1, _, [], _ => False
  | j + 1, i, o :: l, ρ =>
    (∀ w', T w0 w' → (∀ x, (A.getD i 0).testBit x = true → R x (vals x) w') →
      (wantedE L ρ o = true → yieldsR P ρ o w' fun u w'' => R i u w'' ∧ T w' w'') ∧ (wantedE L ρ o = false → R i undef w')) ∧
    VMt T P A L R w0 vals K j (i + 1) l (put ρ o.dst (vals i))

theorem VMt_spec {A : List Nat} {R : Nat → Value → World → Prop} {w0 : World} {vals : Nat → Value} {K : Env → Prop} : ∀ (j i : Nat) (l : List Oper), l = L.drop i → VMt T P A L R w0 vals K j i l (envL L vals ρ i) → i + j ≤ L.length →
    (∀ x o, x < j → L[i + x]? = some o → ∀ w', T w0 w' → (∀ y, (A.getD (i + x) 0).testBit y = true → R y (vals y) w') →
      (wantedE L (envL L vals ρ (i + x)) o = true → yieldsR P (envL L vals ρ (i + x)) o w' fun u w'' => R (i + x) u w'' ∧ T w' w'') ∧ (wantedE L (envL L vals ρ (i + x)) o = false → R (i + x) undef w')) ∧ K (envL L vals ρ (i + j)) := by
  intro j
  induction j with
  | zero => intro i l hl h hj; exact ⟨fun x o hx => by omega, h⟩
  | succ j ih =>
    intro i l hl h hj
    have hi : i < L.length := by omega
    rw [List.drop_eq_getElem_cons hi] at hl
    subst hl
    obtain ⟨h1, h2⟩ := h
    have ho : L[i]? = some L[i] := List.getElem?_eq_getElem hi
    rw [← envL_succ ho] at h2
    obtain ⟨h3, h4⟩ := ih (i + 1) _ rfl h2 (by omega)
    refine ⟨fun x o hx ho2 => ?_, by rw [show i + (j + 1) = i + 1 + j by omega]; exact h4⟩
    cases x with
    | zero =>
      rw [Nat.add_zero] at ho2 ⊢
      rw [ho] at ho2
      injection ho2 with ho2
      subst ho2
      exact h1
    | succ x =>
      rw [show i + (x + 1) = i + 1 + x by omega] at ho2 ⊢
      exact h3 x o (by omega) ho2

theorem V.regionMT {id : Nat} {w : World} (hm : P.follows .mixedOrders = true) (k : Nat) (hr : regOk L k = true) (hk : Nat.ble k L.length = true) (R : Nat → Value → World → Prop)
    (mono : ∀ i u w1 w2, T w w1 → R i u w1 → T w1 w2 → R i u w2)
    (h : ∀ vals, VMt T P (ancs L []) L R w vals (fun ρ' => ∀ w', T w w' → (∀ j, j < k → R j (vals j) w') → VL P N L Q (L.drop k) ρ' w') k 0 L ρ) :
    V P N (.region id L.toArray true) Q ρ w := by
  refine ⟨fun ok => ?_⟩
  have okL : okOps N L = true := by simpa [okCode] using ok
  have RO := regOk_spec hr
  have hkl := Nat.le_of_ble_eq_true hk
  refine wp_region_any hm ?_
  have hv := fun vals => VMt_spec (P := P) (ρ := ρ) k 0 L rfl (by rw [envL_zero]; exact h vals) (by omega)
  let C : (Nat → Bool) → (Nat → Value) → World → Prop := fun D vals w' => T w w' ∧ ∀ j, j < k → D j = true → R j (vals j) w'
  have start := wpAny_any2 (P := P) (N := N) (ρ := ρ) (C := C) (QQ := lift N Q) RO okL hkl ?_ ?_ k L.toArray.size (Array.replicate L.toArray.size false) (fun _ => undef) { w with drawn := w.drawn + 1 } (by simp) ?_ ?_ ?_ (by simp; omega) ?_
  · have e : lst (Array.replicate L.toArray.size false) = fun _ => false := by
      funext j; unfold lst; simp [Array.getElem?_replicate]; split <;> rfl
    rw [e, envD_none] at start
    exact start
  · intro i o ho hik D vals hcl hDi hdeps hsuf w' hC
    obtain ⟨h1, _⟩ := hv vals
    have h1 := h1 i o hik (by rw [Nat.zero_add]; exact ho) w' hC.1 fun y hy => by
      rw [Nat.zero_add] at hy
      have hil : i < L.length := (List.getElem?_eq_some_iff.1 ho).1
      have hyi := anc_lt RO hil hy
      exact hC.2 y (by omega) (anc_done RO hcl ho hdeps hy)
    rw [Nat.zero_add] at h1
    have keep : ∀ u w'', R i u w'' → T w' w'' → C (setD D i) (updV vals i u) w'' := fun u w'' hR he => by
      refine ⟨Turn.trans hC.1 he, fun j hj hD => ?_⟩
      by_cases hji : j = i
      · subst hji; rw [updV_self]; exact hR
      · rw [updV_ne _ _ hji]
        have : D j = true := by simpa [setD, nbeq_ne hji] using hD
        exact mono j _ _ _ hC.1 (hC.2 j hj this) he
    refine ⟨fun hw => ?_, fun hw => keep _ _ (h1.2 hw) (Turn.refl _)⟩
    have h2 := h1.1 hw
    unfold yieldsR at h2 ⊢
    revert h2
    generalize (execOp (tm (envL L vals ρ i)) o).run P w' = r
    intro h2
    cases r with
    | ok n w'' =>
      cases n with
      | value u => exact keep _ _ h2.1 h2.2
      | skip => exact keep _ _ h2.1 h2.2
      | enter f args => exact h2.mono fun u w3 h3 => keep _ _ h3.1 h3.2
      | _ => exact h2
    | halt => exact h2
  · intro vals w' hC
    obtain ⟨_, h2⟩ := hv vals
    rw [Nat.zero_add] at h2
    have hvl := h2 w' hC.1 fun j hj => hC.2 j hj (nblt.2 hj)
    have hdrop : okOps N (L.drop k) = true := by
      unfold okOps at *
      rw [List.all_eq_true] at *
      exact fun o ho => okL o (List.mem_of_mem_drop ho)
    have := wpList_mono (lift_mono fun _ _ _ h => h.1) _ _ _ (hvl.go okL hdrop)
    rw [← wpOps_eq_wpList (L.drop k) k (by intro j; simp)] at this
    simpa using this
  · intro i o _ hi
    unfold lst at hi
    simp [Array.getElem?_replicate] at hi
    split at hi <;> cases hi
  · intro j _; unfold lst; simp [Array.getElem?_replicate]; split <;> rfl
  · have : ((List.range k).filter fun j => !lst (Array.replicate L.toArray.size false) j) = List.range k := by
      rw [List.filter_eq_self]
      intro j _; unfold lst; simp [Array.getElem?_replicate]; split <;> rfl
    rw [this, List.length_range]
  · refine ⟨(Turn.ext (Ext.drawn _)), fun j _ hj => ?_⟩
    unfold lst at hj
    simp [Array.getElem?_replicate] at hj
    split at hj <;> cases hj
end

section
variable {T : World → World → Prop} [Turn T] {P : Program} {N : Nat} {L : List Oper} {Q : Exit → Env → World → Prop} {ρ : Env}
theorem VMt_of {A : List Nat} {R : Nat → Value → World → Prop} {w0 : World} {vals : Nat → Value} {K : Env → Prop} : ∀ (j i : Nat), i + j ≤ L.length →
    (∀ x o, i ≤ x → x < i + j → L[x]? = some o → ∀ w', T w0 w' → (∀ y, (A.getD x 0).testBit y = true → R y (vals y) w') →
      (wantedE L (envL L vals ρ x) o = true → yieldsR P (envL L vals ρ x) o w' fun u w'' => R x u w'' ∧ T w' w'') ∧ (wantedE L (envL L vals ρ x) o = false → R x undef w')) →
    K (envL L vals ρ (i + j)) → VMt T P A L R w0 vals K j i (L.drop i) (envL L vals ρ i) := by
  intro j
  induction j with
  | zero => intro i _ _ hK; exact hK
  | succ j ih =>
    intro i hij h hK
    have hi : i < L.length := by omega
    have ho : L[i]? = some L[i] := List.getElem?_eq_getElem hi
    rw [List.drop_eq_getElem_cons hi]
    refine ⟨h i L[i] (Nat.le_refl _) (by omega) ho, ?_⟩
    rw [← envL_succ ho]
    exact ih (i + 1) (by omega) (fun x o h1 h2 => h x o (by omega) (by omega)) (by rw [show i + 1 + j = i + (j + 1) by omega]; exact hK)
end
def MonoT (T : World → World → Prop) (w0 : World) (S : Rel) : Prop := ∀ u a b, T w0 a → S u a → T a b → S u b
def VTs (T : World → World → Prop) (P : Program) (L : List Oper) (w0 : World) (us : Nat → Value) (F : Nat → World → Prop) : (j i : Nat) → List (Option Rel) → List Value → List Oper → Env → (Env → Prop) → Prop
  | 0, _, Sl, vl, _, ρ, K => Sl = [] ∧ vl = [] ∧ K ρ
  | j + 1, i, none :: Sl, v :: vl, o :: l, ρ, K =>
    (wantedE L ρ o = true → ∀ w', T w0 w' → (∀ x, ((ancs L []).getD i 0).testBit x = true → F x w') → yieldsTo P ρ o w' v (T w')) ∧ (wantedE L ρ o = false → v = undef) ∧
      VTs T P L w0 us F j (i + 1) Sl vl l (put ρ o.dst v) K
  | j + 1, i, some S :: Sl, _ :: vl, o :: l, ρ, K =>
    MonoT T w0 S ∧ wantedE L ρ o = true ∧ (∀ w', T w0 w' → (∀ x, ((ancs L []).getD i 0).testBit x = true → F x w') → yieldsR P ρ o w' fun u w'' => S u w'' ∧ T w' w'') ∧
      VTs T P L w0 us F j (i + 1) Sl vl l (put ρ o.dst (us i)) K
  | _, _, _, _, _, _, _ => False
structure VT (T : World → World → Prop) (P : Program) (L : List Oper) (w0 : World) (us : Nat → Value) (F : Nat → World → Prop) (j i : Nat) (Sl : List (Option Rel)) (vl : List Value) (l : List Oper) (ρ : Env) (K : Env → Prop) : Prop where
  go : VTs T P L w0 us F j i Sl vl l ρ K
section
variable {T : World → World → Prop} [Turn T] {P : Program} {N : Nat} {L : List Oper} {Q : Exit → Env → World → Prop} {ρ : Env}
theorem VTs_spec {w0 : World} {us : Nat → Value} {F : Nat → World → Prop} {K : Env → Prop} {Sl0 : List (Option Rel)} {vl0 : List Value} : ∀ (j i : Nat), i + j ≤ L.length → VTs T P L w0 us F j i (Sl0.drop i) (vl0.drop i) (L.drop i) (envL L (valsS Sl0 vl0 us) ρ i) K →
    (∀ x o, i ≤ x → x < i + j → L[x]? = some o → ∀ w', T w0 w' → (∀ y, ((ancs L []).getD x 0).testBit y = true → F y w') →
      (wantedE L (envL L (valsS Sl0 vl0 us) ρ x) o = true → yieldsR P (envL L (valsS Sl0 vl0 us) ρ x) o w' fun u w'' => relS Sl0 vl0 x u w'' ∧ T w' w'') ∧ (wantedE L (envL L (valsS Sl0 vl0 us) ρ x) o = false → relS Sl0 vl0 x undef w')) ∧
    (∀ x S, i ≤ x → x < i + j → Sl0[x]? = some (some S) → MonoT T w0 S) ∧ K (envL L (valsS Sl0 vl0 us) ρ (i + j)) := by
  intro j
  induction j with
  | zero =>
    intro i _ h
    exact ⟨fun x o h1 h2 => by omega, fun x S h1 h2 => by omega, h.2.2⟩
  | succ j ih =>
    intro i hij h
    have hi : i < L.length := by omega
    have ho : L[i]? = some L[i] := List.getElem?_eq_getElem hi
    rw [List.drop_eq_getElem_cons hi] at h
    cases hS : Sl0.drop i with
    | nil => rw [hS] at h; exact h.elim
    | cons s Sl =>
      cases hv : vl0.drop i with
      | nil => rw [hS, hv] at h; cases s <;> exact h.elim
      | cons v vl =>
        rw [hS, hv] at h
        have hS1 : Sl0.drop (i + 1) = Sl := by rw [← List.drop_drop, hS]; rfl
        have hv1 : vl0.drop (i + 1) = vl := by rw [← List.drop_drop, hv]; rfl
        have hSi : Sl0[i]? = some s := by
          have := List.getElem?_drop (xs := Sl0) (i := i) (j := 0)
          rw [hS] at this; simpa using this.symm
        have hvi : vl0.getD i undef = v := by
          have := List.getElem?_drop (xs := vl0) (i := i) (j := 0)
          rw [hv] at this
          simp only [List.getElem?_cons_zero, Nat.add_zero] at this
          simp [List.getD, ← this]
        cases s with
        | none =>
          have hval : valsS Sl0 vl0 us i = v := by unfold valsS; rw [hSi]; exact hvi
          obtain ⟨h1, h2, h3⟩ := h
          rw [← hval, ← envL_succ ho, ← hS1, ← hv1] at h3
          obtain ⟨k1, k2, k3⟩ := ih (i + 1) (by omega) h3
          refine ⟨fun x o hx1 hx2 hxo w' e hF => ?_, fun x S hx1 hx2 hx3 => ?_, by rw [show i + (j + 1) = i + 1 + j by omega]; exact k3⟩
          · by_cases hxi : x = i
            · subst hxi
              rw [ho] at hxo
              injection hxo with hxo
              subst hxo
              have hr : ∀ u w, u = v → relS Sl0 vl0 x u w := fun u w hu => by unfold relS; rw [hSi]; exact hu.trans hvi.symm
              exact ⟨fun hw => yieldsR_mono (yieldsR_of_to (h1 hw w' e hF)) fun u w'' hu => ⟨hr _ _ hu.1, hu.2⟩, fun hw => hr _ _ (h2 hw).symm⟩
            · exact k1 x o (by omega) (by omega) hxo w' e hF
          · by_cases hxi : x = i
            · subst hxi; rw [hSi] at hx3; cases hx3
            · exact k2 x S (by omega) (by omega) hx3
        | some S =>
          have hval : valsS Sl0 vl0 us i = us i := by unfold valsS; rw [hSi]
          obtain ⟨h0, h1, h2, h3⟩ := h
          rw [← hval, ← envL_succ ho, ← hS1, ← hv1] at h3
          obtain ⟨k1, k2, k3⟩ := ih (i + 1) (by omega) h3
          refine ⟨fun x o hx1 hx2 hxo w' e hF => ?_, fun x S' hx1 hx2 hx3 => ?_, by rw [show i + (j + 1) = i + 1 + j by omega]; exact k3⟩
          · by_cases hxi : x = i
            · subst hxi
              rw [ho] at hxo
              injection hxo with hxo
              subst hxo
              refine ⟨fun hw => yieldsR_mono (h2 w' e hF) fun u w'' hu => ⟨?_, hu.2⟩, fun hw => by rw [h1] at hw; cases hw⟩
              unfold relS; rw [hSi]; exact hu.1
            · exact k1 x o (by omega) (by omega) hxo w' e hF
          · by_cases hxi : x = i
            · subst hxi; rw [hSi] at hx3; injection hx3 with hx3; injection hx3 with hx3; subst hx3; exact h0
            · exact k2 x S' (by omega) (by omega) hx3
theorem V.regionT {id : Nat} {w : World} (hm : P.follows .mixedOrders = true) (k : Nat) (hr : regOk L k = true) (hk : Nat.ble k L.length = true) {Sl : List (Option Rel)} {vl : List Value}
    (h : ∀ us, VT T P L w us (factS Sl us) k 0 Sl vl L ρ fun ρ' => ∀ w', T w w' → (∀ x, factS Sl us x w') → VL P N L Q (L.drop k) ρ' w') (hl : Nat.ble Sl.length k = true) :
    V P N (.region id L.toArray true) Q ρ w := by
  refine ⟨fun ok => ?_⟩
  have okL : okOps N L = true := by simpa [okCode] using ok
  have RO := regOk_spec hr
  have hkl := Nat.le_of_ble_eq_true hk
  have sp := fun us => VTs_spec (P := P) (L := L) (ρ := ρ) (Sl0 := Sl) (vl0 := vl) (us := us) k 0 (by omega) (by rw [envL_zero]; exact (h us).go)
  refine (V.regionMT (T := T) (Q := Q) (ρ := ρ) (id := id) (w := w) hm k hr hk (relS Sl vl) (fun i u w1 w2 h1 h2 h3 => ?_) (N := N) fun vals => ?_).go ok
  · unfold relS at h2 ⊢
    cases hS : Sl[i]? with
    | none => rw [hS] at h2; exact h2
    | some s =>
      cases s with
      | none => rw [hS] at h2; exact h2
      | some S =>
        rw [hS] at h2
        have hik : i < k := by have := (List.getElem?_eq_some_iff.1 hS).1; have := Nat.le_of_ble_eq_true hl; omega
        exact (sp (fun _ => undef)).2.1 i S (Nat.zero_le _) (by omega) hS u w1 w2 h1 h2 h3
  · obtain ⟨s1, s2, s3⟩ := sp vals
    have hrel : ∀ y w', relS Sl vl y (vals y) w' → vals y = valsS Sl vl vals y ∧ factS Sl vals y w' := fun y w' hy => by
      unfold relS at hy
      unfold valsS factS
      split
      · rename_i S hS
        rw [hS] at hy
        exact ⟨rfl, hy⟩
      · rename_i hn
        refine ⟨?_, trivial⟩
        split at hy
        · rename_i S hS; exact (hn S hS).elim
        · exact hy
    have hVM := VMt_of (T := T) (P := P) (A := ancs L []) (L := L) (ρ := ρ) (R := relS Sl vl) (w0 := w) (vals := vals)
      (K := fun ρ' => ∀ w', T w w' → (∀ j, j < k → relS Sl vl j (vals j) w') → VL P N L Q (L.drop k) ρ' w') k 0 (by omega) ?_ ?_
    · rw [envL_zero] at hVM; exact hVM
    · intro x ox hx0 hx hox w' e hanc
      have hxl := (List.getElem?_eq_some_iff.1 hox).1
      have hsame : ∀ t ∈ names L ox, envL L (valsS Sl vl vals) ρ x t = envL L vals ρ x t := fun t ht => by
        refine envL_vals x (by omega) fun j hj hd => ?_
        exact (hrel j w' (hanc j (names_anc RO hox ht hj hd))).1.symm
      have hokx : okOp N ox = true := List.all_eq_true.1 okL ox (List.mem_of_getElem? hox)
      obtain ⟨o1, o2⟩ := s1 x ox hx0 hx hox w' e fun y hy => (hrel y w' (hanc y hy)).2
      rw [← wanted_same hsame]
      exact ⟨fun hw => yieldsR_same (tm_same hsame hokx) (o1 hw), o2⟩
    · rw [Nat.zero_add] at s3 ⊢
      intro w' e hR
      have hE : envL L vals ρ k = envL L (valsS Sl vl vals) ρ k := by
        funext t
        exact envL_vals k hkl fun j hj _ => (hrel j w' (hR j hj)).1
      rw [hE]
      refine s3 w' e fun x => ?_
      by_cases hx : x < k
      · exact (hrel x w' (hR x hx)).2
      · unfold factS
        have : Sl[x]? = none := List.getElem?_eq_none (by have := Nat.le_of_ble_eq_true hl; omega)
        rw [this]; trivial

section
variable {T : World → World → Prop} [Turn T] {w0 : World} {us : Nat → Value} {F : Nat → World → Prop} {K : Env → Prop} {j i : Nat} {Sl : List (Option Rel)} {vl : List Value} {l : List Oper} {d : Nat} {q : Op} {ty : TypeId} {p : String} {af : Array Edge} {v : Value}
theorem VT.nil (h : K ρ) : VT T P L w0 us F 0 i [] [] l ρ K := ⟨rfl, rfl, h⟩
theorem VT.op (hr : ∀ w, T w0 w → run1 P ρ q ty w = .ok (.value v) w) (h : VT T P L w0 us F j (i + 1) Sl vl l (upd ρ d v) K) :
    VT T P L w0 us F (j + 1) i (none :: Sl) (v :: vl) ({ dst := some d, op := q, type := ty, pos := p, after := af, guard := none } :: l) ρ K :=
  ⟨⟨fun _ w e _ => by unfold yieldsTo; rw [run1_eq, hr w e]; exact ⟨rfl, Turn.refl _⟩, fun hw => by simp [wantedE, Region.wanted] at hw, h.go⟩⟩
/-- Any other operation that makes something new. -/
theorem VT.spec {o : Oper} (S : Rel) (mono : MonoT T w0 S) (hw : wantedE L ρ o = true) (hf : ∀ w, T w0 w → (∀ x, ((ancs L []).getD i 0).testBit x = true → F x w) → yieldsR P ρ o w fun u w' => S u w' ∧ T w w')
    (h : VT T P L w0 us F j (i + 1) Sl vl l (put ρ o.dst (us i)) K) :
    VT T P L w0 us F (j + 1) i (some S :: Sl) (undef :: vl) (o :: l) ρ K := ⟨⟨mono, hw, fun w e hF => hf w e hF, h.go⟩⟩

end
end

/-- One old block may be written once: what has been written stays. -/
structure Wr (b : Nat) (o : Obj) (w w' : World) : Prop where
  m : Mod (one b) w w'
  k : Blk w b o → Blk w' b o
  s : ∀ T n, (∃ c, Blk w b (.cells c T (0, 0)) ∧ c.size = n) → ∃ c, Blk w' b (.cells c T (0, 0)) ∧ c.size = n
instance (b : Nat) (o : Obj) : Turn (Wr b o) where
  refl _a := ⟨Mod.refl _ _, fun h => h, fun _ _ h => h⟩
  trans h k := ⟨h.m.trans k.m, fun x => k.k (h.k x), fun T n x => k.s T n (h.s T n x)⟩
  ext e := ⟨e.mod, fun h => h.ext e, fun _ _ ⟨c, h, hn⟩ => ⟨c, h.ext e, hn⟩⟩
end Go.Vc
