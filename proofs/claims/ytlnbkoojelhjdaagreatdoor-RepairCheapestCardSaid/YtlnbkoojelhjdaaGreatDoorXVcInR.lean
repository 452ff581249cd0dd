/- Own library: loops and open regions within a round (printed by mkvi.py). -/
import Derived.Test.YtlnbkoojelhjdaaGreatDoorXVcLaw
import Derived.Test.YtlnbkoojelhjdaaGreatDoorXVcGuard
namespace Go.Vc
section
variable {l n : Nat} {P : Program} {N : Nat} {Q : Exit → Env → World → Prop} {ρ : Env} {w : World}
theorem VI.exit {id : Nat} (h : Q (.exit id) ρ w) : VI l n P N (.exit id) Q ρ w := ⟨fun _ => wpIn_exit ⟨ρ, rfl, h⟩⟩
theorem VI.condP {c : Operand} {x y : Code} {p : Prop} [Decidable p] (hc : tm ρ c = .bool (decide p)) (ht : p → VI l n P N x Q ρ w) (hf : ¬ p → VI l n P N y Q ρ w) : VI l n P N (.cond c x y) Q ρ w :=
  VI.cond hc (fun h => ht (of_decide_eq_true h)) (fun h => hf (of_decide_eq_false h))
theorem VI.condT {c : Operand} {x y : Code} (hc : tm ρ c = .bool true) (h : VI l n P N x Q ρ w) : VI l n P N (.cond c x y) Q ρ w := VI.cond hc (fun _ => h) (fun h => nomatch h)
theorem VI.mono {c : Code} {Q' : Exit → Env → World → Prop} (h : VI l n P N c Q ρ w) (hq : ∀ e ρ w, Q e ρ w → Q' e ρ w) : VI l n P N c Q' ρ w :=
  ⟨fun ok => Code.wpIn_mono (fun _ _ _ ⟨ρ', ha, hQ⟩ => ⟨ρ', ha, hq _ _ _ hQ⟩) (h.go ok)⟩
theorem VI.cut (L : List Nat) {ι : Type} (vals : ι → List Value) (J : ι → World → Prop) {x y : Code}
    (h1 : VI l n P N x (thn (fun ρ' w' => ∃ i, L.map ρ' = vals i ∧ J i w') Q) ρ w)
    (h2 : ∀ ρ i w, J i w → VI l n P N y Q (setL L (vals i) ρ) w) : VI l n P N (.seq x y) Q ρ w := by
  refine VI.seq (VI.mono h1 ?_)
  intro e ρ' w' hQ
  cases e with
  | normal =>
    obtain ⟨i, hL, hJ⟩ := hQ
    have := h2 ρ' i w' hJ
    rw [setL_self _ _ _ hL] at this
    exact this
  | _ => exact hQ
theorem VI.loop (L : List Nat) {ι : Type} (vals : ι → List Value) (J : ι → World → Prop) (μ : ι → Nat) {c : Code} (i₀ : ι)
    (h₀ : L.map ρ = vals i₀) (hJ : J i₀ w)
    (round : ∀ ρ i w, J i w → VI l n P N c (thn (fun ρ' w' => ∃ i', L.map ρ' = vals i' ∧ J i' w' ∧ μ i' < μ i) Q) (setL L (vals i) ρ) w) :
    VI l n P N (.loop c) Q ρ w := by
  refine ⟨fun ok => ?_⟩
  simp only [okCode] at ok
  intro b k cs hro hb hrm
  have key : ∀ m i, μ i = m → ∀ ρ w, L.map ρ = vals i → J i w →
      ∃ e a' w', lift N Q e a' w' ∧ ArrivesIn (Machine.fenced P (Fence.wide.inRound l)) P (lone (b.atR (act N ρ) (.code c :: .inLoop c :: k)) cs w) b k cs e a' w' := by
    intro m
    induction m using Nat.strongRecOn with
    | _ m ih =>
      intro i hn ρ w hL hJ
      have hr := round ρ i w hJ
      rw [setL_self _ _ _ hL] at hr
      replace hr := hr.go ok
      obtain ⟨e, a₁, w₁, ⟨ρ₁, rfl, hq⟩, harr⟩ := hr b (.inLoop c :: k) cs hro hb hrm
      cases e with
      | normal =>
        obtain ⟨i', hL', hJ', hlt⟩ := hq
        obtain ⟨e₂, a₂, w₂, hq₂, harr₂⟩ := ih (μ i') (hn ▸ hlt) i' rfl ρ₁ w₁ hL' hJ'
        exact ⟨e₂, a₂, w₂, hq₂, .of_steps (StepsIn.trans harr (.one (fenced_calm hb hrm rfl) stepR_inLoop)) harr₂⟩
      | exit id => exact ⟨_, _, w₁, ⟨ρ₁, rfl, hq⟩, .pass (x := .inLoop c) rfl (fun _ _ => .inl (by simp)) harr⟩
      | goto l => exact ⟨_, _, w₁, ⟨ρ₁, rfl, hq⟩, .pass (x := .inLoop c) rfl (fun _ _ => .inl (by simp)) harr⟩
      | ret => exact ⟨_, _, w₁, ⟨ρ₁, rfl, hq⟩, .pass (x := .inLoop c) rfl (fun _ _ => .inl (by simp)) harr⟩
      | panic ch => exact ⟨_, _, w₁, ⟨ρ₁, rfl, hq⟩, .pass (x := .inLoop c) rfl (fun _ _ => .inl (by simp)) harr⟩
      | outgrown => exact ⟨_, _, w₁, ⟨ρ₁, rfl, hq⟩, .pass (x := .inLoop c) rfl (fun _ _ => .inl (by simp)) harr⟩
  obtain ⟨e, a', w', hq, harr⟩ := key _ i₀ rfl ρ w h₀ hJ
  exact ⟨e, a', w', hq, .of_steps (.one (fenced_calm hb hrm rfl) stepR_loop) harr⟩
end
section
variable {P : Program} {N : Nat} {L : List Oper} {Q : Exit → Env → World → Prop} {ρ : Env} {k : Nat}

theorem VI.regionM {l n id : Nat} {w : World} (hq : ∀ ρ w, ¬ Q .outgrown ρ w) (hd : noDefer L = true) (hm : P.follows .mixedOrders = true) (k : Nat) (hr : regOk L k = true) (hk : Nat.ble k L.length = true) (R : Nat → Value → World → Prop)
    (mono : ∀ i u w1 w2, Ext w w1 → R i u w1 → Ext w1 w2 → R i u w2)
    (h : ∀ vals, VMs P (ancs L []) L R w vals (fun ρ' => ∀ w', Ext w w' → (∀ j, j < k → R j (vals j) w') → VL P N L Q (L.drop k) ρ' w') k 0 L ρ) :
    VI l n P N (.region id L.toArray true) Q ρ w := by
  refine ⟨fun ok => ?_⟩
  have okL : okOps N L = true := by simpa [okCode] using ok
  have RO := regOk_spec hr
  have hkl := Nat.le_of_ble_eq_true hk
  refine wpIn_region_any hm (any_in (lets_no hq) hd _ _ _ _ ?_)
  have hv := fun vals => VMs_spec (P := P) (ρ := ρ) k 0 L rfl (by rw [envL_zero]; exact h vals) (by omega)
  let C : (Nat → Bool) → (Nat → Value) → World → Prop := fun D vals w' => Ext w w' ∧ ∀ j, j < k → D j = true → R j (vals j) w'
  have start := wpAny_any2 (P := P) (N := N) (ρ := ρ) (C := C) (QQ := lift N Q) RO okL hkl ?_ ?_ k L.toArray.size (Array.replicate L.toArray.size false) (fun _ => undef) { w with drawn := w.drawn + 1 } (by simp) ?_ ?_ ?_ (by simp; omega) ?_
  · have e : lst (Array.replicate L.toArray.size false) = fun _ => false := by
      funext j; unfold lst; simp [Array.getElem?_replicate]; split <;> rfl
    rw [e, envD_none] at start
    exact start
  · intro i o ho hik D vals hcl hDi hdeps hsuf w' hC
    obtain ⟨h1, _⟩ := hv vals
    have h1 := h1 i o hik (by rw [Nat.zero_add]; exact ho) w' hC.1 fun y hy => by
      rw [Nat.zero_add] at hy
      have hil : i < L.length := (List.getElem?_eq_some_iff.1 ho).1
      have hyi := anc_lt RO hil hy
      exact hC.2 y (by omega) (anc_done RO hcl ho hdeps hy)
    rw [Nat.zero_add] at h1
    have keep : ∀ u w'', R i u w'' → Ext w' w'' → C (setD D i) (updV vals i u) w'' := fun u w'' hR he => by
      refine ⟨hC.1.trans he, fun j hj hD => ?_⟩
      by_cases hji : j = i
      · subst hji; rw [updV_self]; exact hR
      · rw [updV_ne _ _ hji]
        have : D j = true := by simpa [setD, nbeq_ne hji] using hD
        exact mono j _ _ _ hC.1 (hC.2 j hj this) he
    refine ⟨fun hw => ?_, fun hw => keep _ _ (h1.2 hw) (Mod.refl _ _)⟩
    have h2 := h1.1 hw
    unfold yieldsR at h2 ⊢
    revert h2
    generalize (execOp (tm (envL L vals ρ i)) o).run P w' = r
    intro h2
    cases r with
    | ok n w'' =>
      cases n with
      | value u => exact keep _ _ h2.1 h2.2
      | skip => exact keep _ _ h2.1 h2.2
      | enter f args => exact h2.mono fun u w3 h3 => keep _ _ h3.1 h3.2
      | _ => exact h2
    | halt => exact h2
  · intro vals w' hC
    obtain ⟨_, h2⟩ := hv vals
    rw [Nat.zero_add] at h2
    have hvl := h2 w' hC.1 fun j hj => hC.2 j hj (nblt.2 hj)
    have hdrop : okOps N (L.drop k) = true := by
      unfold okOps at *
      rw [List.all_eq_true] at *
      exact fun o ho => okL o (List.mem_of_mem_drop ho)
    have := wpList_mono (lift_mono fun _ _ _ h => h.1) _ _ _ (hvl.go okL hdrop)
    rw [← wpOps_eq_wpList (L.drop k) k (by intro j; simp)] at this
    simpa using this
  · intro i o _ hi
    unfold lst at hi
    simp [Array.getElem?_replicate] at hi
    split at hi <;> cases hi
  · intro j _; unfold lst; simp [Array.getElem?_replicate]; split <;> rfl
  · have : ((List.range k).filter fun j => !lst (Array.replicate L.toArray.size false) j) = List.range k := by
      rw [List.filter_eq_self]
      intro j _; unfold lst; simp [Array.getElem?_replicate]; split <;> rfl
    rw [this, List.length_range]
  · refine ⟨Ext.drawn _, fun j _ hj => ?_⟩
    unfold lst at hj
    simp [Array.getElem?_replicate] at hj
    split at hj <;> cases hj

end
section
variable {P : Program} {N : Nat} {L : List Oper} {Q : Exit → Env → World → Prop} {ρ : Env}
theorem VI.regionS {l n id : Nat} {w : World} (hq : ∀ ρ w, ¬ Q .outgrown ρ w) (hd : noDefer L = true) (hm : P.follows .mixedOrders = true) (k : Nat) (hr : regOk L k = true) (hk : Nat.ble k L.length = true) {Sl : List (Option Rel)} {vl : List Value}
    (h : ∀ us, VS P L w us (factS Sl us) k 0 Sl vl L ρ fun ρ' => ∀ w', Ext w w' → (∀ x, factS Sl us x w') → VL P N L Q (L.drop k) ρ' w') (hl : Nat.ble Sl.length k = true) :
    VI l n P N (.region id L.toArray true) Q ρ w := by
  refine ⟨fun ok => ?_⟩
  have okL : okOps N L = true := by simpa [okCode] using ok
  have RO := regOk_spec hr
  have hkl := Nat.le_of_ble_eq_true hk
  have sp := fun us => VSs_spec (P := P) (L := L) (ρ := ρ) (Sl0 := Sl) (vl0 := vl) (us := us) k 0 (by omega) (by rw [envL_zero]; exact (h us).go)
  refine (VI.regionM (l := l) (n := n) (Q := Q) (ρ := ρ) (id := id) (w := w) hq hd hm k hr hk (relS Sl vl) (fun i u w1 w2 h1 h2 h3 => ?_) (N := N) fun vals => ?_).go ok
  · unfold relS at h2 ⊢
    cases hS : Sl[i]? with
    | none => rw [hS] at h2; exact h2
    | some s =>
      cases s with
      | none => rw [hS] at h2; exact h2
      | some S =>
        rw [hS] at h2
        have hik : i < k := by have := (List.getElem?_eq_some_iff.1 hS).1; have := Nat.le_of_ble_eq_true hl; omega
        exact (sp (fun _ => undef)).2.1 i S (Nat.zero_le _) (by omega) hS u w1 w2 h1 h2 h3
  · obtain ⟨s1, s2, s3⟩ := sp vals
    have hrel : ∀ y w', relS Sl vl y (vals y) w' → vals y = valsS Sl vl vals y ∧ factS Sl vals y w' := fun y w' hy => by
      unfold relS at hy
      unfold valsS factS
      split
      · rename_i S hS
        rw [hS] at hy
        exact ⟨rfl, hy⟩
      · rename_i hn
        refine ⟨?_, trivial⟩
        split at hy
        · rename_i S hS; exact (hn S hS).elim
        · exact hy
    have hVM := VMs_of (P := P) (A := ancs L []) (L := L) (ρ := ρ) (R := relS Sl vl) (w0 := w) (vals := vals)
      (K := fun ρ' => ∀ w', Ext w w' → (∀ j, j < k → relS Sl vl j (vals j) w') → VL P N L Q (L.drop k) ρ' w') k 0 (by omega) ?_ ?_
    · rw [envL_zero] at hVM; exact hVM
    · intro x ox hx0 hx hox w' e hanc
      have hxl := (List.getElem?_eq_some_iff.1 hox).1
      have hsame : ∀ t ∈ names L ox, envL L (valsS Sl vl vals) ρ x t = envL L vals ρ x t := fun t ht => by
        refine envL_vals x (by omega) fun j hj hd => ?_
        exact (hrel j w' (hanc j (names_anc RO hox ht hj hd))).1.symm
      have hokx : okOp N ox = true := List.all_eq_true.1 okL ox (List.mem_of_getElem? hox)
      obtain ⟨o1, o2⟩ := s1 x ox hx0 hx hox w' e fun y hy => (hrel y w' (hanc y hy)).2
      rw [← wanted_same hsame]
      exact ⟨fun hw => yieldsR_same (tm_same hsame hokx) (o1 hw), o2⟩
    · rw [Nat.zero_add] at s3 ⊢
      intro w' e hR
      have hE : envL L vals ρ k = envL L (valsS Sl vl vals) ρ k := by
        funext t
        exact envL_vals k hkl fun j hj _ => (hrel j w' (hR j hj)).1
      rw [hE]
      refine s3 w' e fun x => ?_
      by_cases hx : x < k
      · exact (hrel x w' (hR x hx)).2
      · unfold factS
        have : Sl[x]? = none := List.getElem?_eq_none (by have := Nat.le_of_ble_eq_true hl; omega)
        rw [this]; trivial

end
end Go.Vc
