/- Own library: appending one element in a region of open order that makes calls: the literal's place is unknown. -/
import Derived.Test.YtglaigeellpikaaXVcApp
namespace Go.Vc
section
variable {P : Program} {N : Nat} {L : List Oper} {Q : Exit → Env → World → Prop} {ρ : Env}

theorem envL_vals {vals vals' : Nat → Value} {t : Nat} : ∀ (n : Nat), n ≤ L.length → (∀ j, j < n → dstAt L j = some t → vals j = vals' j) → envL L vals ρ n t = envL L vals' ρ n t := by
  intro n
  induction n with
  | zero => intro _ _; rw [envL_zero, envL_zero]
  | succ n ih =>
    intro hn h
    have ho : L[n]? = some L[n] := List.getElem?_eq_getElem (by omega)
    rw [envL_succ ho, envL_succ ho]
    have ih := ih (by omega) fun j hj => h j (by omega)
    cases hd : L[n].dst with
    | none => exact ih
    | some d =>
      show upd _ d _ t = upd _ d _ t
      unfold upd
      cases hb : Nat.beq t d with
      | false => exact ih
      | true =>
        have htd := Nat.eq_of_beq_eq_true hb
        have := h n (by omega) (by rw [dstAt_eq, ho]; simp [hd, htd])
        simp only [cond_true]; exact this
theorem names_anc {k : Nat} (R : RegOk L k) {i : Nat} {o : Oper} (ho : L[i]? = some o) {t j : Nat} (ht : t ∈ names L o) (hj : j < i) (hd : dstAt L j = some t) : ((ancs L []).getD i 0).testBit j = true := by
  have hil := (List.getElem?_eq_some_iff.1 ho).1
  obtain ⟨o', ho'⟩ : ∃ o', L[j]? = some o' := ⟨L[j], List.getElem?_eq_getElem (by omega)⟩
  have hd' : o'.dst = some t := by rw [dstAt_eq, ho'] at hd; exact hd
  rcases R.apart i o j o' ho ho' (by omega) (clash_of hd' ht) with ⟨_, hb⟩ | ⟨hlt, _⟩
  · exact hb
  · omega
theorem yieldsR_mono {ρ : Env} {o : Oper} {w : World} {K K' : Value → World → Prop} (h : yieldsR P ρ o w K) (hk : ∀ u w', K u w' → K' u w') : yieldsR P ρ o w K' := by
  unfold yieldsR at h ⊢
  revert h
  generalize (execOp (tm ρ) o).run P w = r
  intro h
  cases r with
  | ok n w' =>
    cases n with
    | value u => exact hk _ _ h
    | skip => exact hk _ _ h
    | enter f args => exact h.mono hk
    | _ => exact h
  | halt => exact h
theorem yieldsR_of_to {ρ : Env} {o : Oper} {w : World} {v : Value} {K : World → Prop} (h : yieldsTo P ρ o w v K) : yieldsR P ρ o w fun u w' => u = v ∧ K w' := by
  unfold yieldsTo at h
  unfold yieldsR
  revert h
  generalize (execOp (tm ρ) o).run P w = r
  intro h
  cases r with
  | ok n w' =>
    cases n with
    | value u => exact h
    | skip => exact ⟨h.1.symm, h.2⟩
    | enter f args => exact Calls.mono h fun e w'' ⟨u, he, h1, h2⟩ => ⟨u, he, h1, h2⟩
    | _ => exact h
  | halt => exact h
theorem yieldsR_same {ρ ρ' : Env} {o : Oper} {w : World} {K : Value → World → Prop} (hs : execOp (tm ρ) o = execOp (tm ρ') o) (h : yieldsR P ρ o w K) : yieldsR P ρ' o w K := by
  unfold yieldsR at h ⊢
  rw [← hs]; exact h
/-- A literal of one element, its place unknown. -/
def SB1 {α : Type} (enc : α → List Value) (s e B : Nat) (x : α) (u : Value) (w : World) : Prop := ∃ b, u = .slice (some ⟨b, 0, none⟩) 1 1 ∧ OwnT enc s e B w (some ⟨b, 0, none⟩) 1 [x]
end
section
variable {P : Program} {ρ : Env} {w : World} {ty t ty2 : TypeId} {x y : Operand} {e : TypeId}
/-- A slice is compared with nil. -/
theorem R.eqlNil {a : Option Addr} {n c : Nat} (hu : ∀ w, (underlying t).run P w = .ok (.slice e) w) (hx : tm ρ x = .slice a n c) (hy : tm ρ y = .slice none 0 0) : run1 P ρ (.binOp .eql t x y ty2) ty w = .ok (.value (.bool (decide (a = none)))) w := by
  have hp : (eqGuard .eql t x y (.slice a n c) (.slice none 0 0)).run P w = .ok () w := by
    simp [eqGuard, go_sem]
  have h : (Op.equal t (.slice a n c) (.slice none 0 0)).run P w = .ok (decide (a = none)) w := by
    show (Op.equalIn (9999 + 1) t _ _).run P w = _
    unfold Op.equalIn
    cases a <;> simp [go_sem, hu]
  simp only [run1, execOp, hx, hy, Sem.run_bind, hp, Result.andThen_ok, binOp, h, Sem.run_pure]
end
end Go.Vc
