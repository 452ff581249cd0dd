/- Own library: loops and open regions within a round (printed by mkvi.py). -/
import Derived.Test.YtglaigeellpikaaXVcRound
import Derived.Test.YtglaigeellpikaaXVcSpec
namespace Go.Vc
section
variable {l n : Nat} {P : Program} {N : Nat} {Q : Exit → Env → World → Prop} {ρ : Env} {w : World}
theorem VI.exit {id : Nat} (h : Q (.exit id) ρ w) : VI l n P N (.exit id) Q ρ w := ⟨fun _ => wpIn_exit ⟨ρ, rfl, h⟩⟩
theorem VI.condP {c : Operand} {x y : Code} {p : Prop} [Decidable p] (hc : tm ρ c = .bool (decide p)) (ht : p → VI l n P N x Q ρ w) (hf : ¬ p → VI l n P N y Q ρ w) : VI l n P N (.cond c x y) Q ρ w :=
  VI.cond hc (fun h => ht (of_decide_eq_true h)) (fun h => hf (of_decide_eq_false h))
theorem VI.condT {c : Operand} {x y : Code} (hc : tm ρ c = .bool true) (h : VI l n P N x Q ρ w) : VI l n P N (.cond c x y) Q ρ w := VI.cond hc (fun _ => h) (fun h => nomatch h)
theorem VI.mono {c : Code} {Q' : Exit → Env → World → Prop} (h : VI l n P N c Q ρ w) (hq : ∀ e ρ w, Q e ρ w → Q' e ρ w) : VI l n P N c Q' ρ w :=
  ⟨fun ok => Code.wpIn_mono (fun _ _ _ ⟨ρ', ha, hQ⟩ => ⟨ρ', ha, hq _ _ _ hQ⟩) (h.go ok)⟩
theorem VI.cut (L : List Nat) {ι : Type} (vals : ι → List Value) (J : ι → World → Prop) {x y : Code}
    (h1 : VI l n P N x (thn (fun ρ' w' => ∃ i, L.map ρ' = vals i ∧ J i w') Q) ρ w)
    (h2 : ∀ ρ i w, J i w → VI l n P N y Q (setL L (vals i) ρ) w) : VI l n P N (.seq x y) Q ρ w := by
  refine VI.seq (VI.mono h1 ?_)
  intro e ρ' w' hQ
  cases e with
  | normal =>
    obtain ⟨i, hL, hJ⟩ := hQ
    have := h2 ρ' i w' hJ
    rw [setL_self _ _ _ hL] at this
    exact this
  | _ => exact hQ
theorem VI.loop (L : List Nat) {ι : Type} (vals : ι → List Value) (J : ι → World → Prop) (μ : ι → Nat) {c : Code} (i₀ : ι)
    (h₀ : L.map ρ = vals i₀) (hJ : J i₀ w)
    (round : ∀ ρ i w, J i w → VI l n P N c (thn (fun ρ' w' => ∃ i', L.map ρ' = vals i' ∧ J i' w' ∧ μ i' < μ i) Q) (setL L (vals i) ρ) w) :
    VI l n P N (.loop c) Q ρ w := by
  refine ⟨fun ok => ?_⟩
  simp only [okCode] at ok
  intro b k cs hro hb hrm
  have key : ∀ m i, μ i = m → ∀ ρ w, L.map ρ = vals i → J i w →
      ∃ e a' w', lift N Q e a' w' ∧ ArrivesIn (Machine.fenced P (Fence.wide.inRound l)) P (lone (b.atR (act N ρ) (.code c :: .inLoop c :: k)) cs w) b k cs e a' w' := by
    intro m
    induction m using Nat.strongRecOn with
    | _ m ih =>
      intro i hn ρ w hL hJ
      have hr := round ρ i w hJ
      rw [setL_self _ _ _ hL] at hr
      replace hr := hr.go ok
      obtain ⟨e, a₁, w₁, ⟨ρ₁, rfl, hq⟩, harr⟩ := hr b (.inLoop c :: k) cs hro hb hrm
      cases e with
      | normal =>
        obtain ⟨i', hL', hJ', hlt⟩ := hq
        obtain ⟨e₂, a₂, w₂, hq₂, harr₂⟩ := ih (μ i') (hn ▸ hlt) i' rfl ρ₁ w₁ hL' hJ'
        exact ⟨e₂, a₂, w₂, hq₂, .of_steps (StepsIn.trans harr (.one (fenced_calm hb hrm rfl) stepR_inLoop)) harr₂⟩
      | exit id => exact ⟨_, _, w₁, ⟨ρ₁, rfl, hq⟩, .pass (x := .inLoop c) rfl (fun _ _ => .inl (by simp)) harr⟩
      | goto l => exact ⟨_, _, w₁, ⟨ρ₁, rfl, hq⟩, .pass (x := .inLoop c) rfl (fun _ _ => .inl (by simp)) harr⟩
      | ret => exact ⟨_, _, w₁, ⟨ρ₁, rfl, hq⟩, .pass (x := .inLoop c) rfl (fun _ _ => .inl (by simp)) harr⟩
      | panic ch => exact ⟨_, _, w₁, ⟨ρ₁, rfl, hq⟩, .pass (x := .inLoop c) rfl (fun _ _ => .inl (by simp)) harr⟩
      | outgrown => exact ⟨_, _, w₁, ⟨ρ₁, rfl, hq⟩, .pass (x := .inLoop c) rfl (fun _ _ => .inl (by simp)) harr⟩
  obtain ⟨e, a', w', hq, harr⟩ := key _ i₀ rfl ρ w h₀ hJ
  exact ⟨e, a', w', hq, .of_steps (.one (fenced_calm hb hrm rfl) stepR_loop) harr⟩
end
end Go.Vc
