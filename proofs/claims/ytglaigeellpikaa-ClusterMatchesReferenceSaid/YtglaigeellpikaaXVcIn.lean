/- Own library: a region of open order whose first k operations are open and behind which a round is called (printed by mkin.py). -/
import Derived.Test.YtglaigeellpikaaXVcLaw2
namespace Go.Vc
section
variable {P : Program} {N : Nat} {L : List Oper} {Q : Exit → Env → World → Prop} {ρ : Env} {k : Nat}
/-- A list of operations of which one calls a round. -/
structure VY (m : Nat) (P : Program) (N : Nat) (L0 : List Oper) (Q : Exit → Env → World → Prop) (l : List Oper) (ρ : Env) (w : World) : Prop where
  go : okOps N L0 = true → okOps N l = true → wpListIn Fence.wide m P L0.toArray (lift N Q) l (act N ρ) w
theorem VY.nil {m : Nat} {w : World} (h : Q .normal ρ w) : VY m P N L Q [] ρ w := ⟨fun _ _ => wpListIn_nil ⟨ρ, rfl, h⟩⟩
theorem VY.op {m d : Nat} {q : Op} {ty : TypeId} {p : String} {af : Array Edge} {v : Value} {w w' : World} {rest : List Oper} (hr : run1 P ρ q ty w = .ok (.value v) w')
    (h : VY m P N L Q rest (upd ρ d v) w') : VY m P N L Q ({ dst := some d, op := q, type := ty, pos := p, after := af, guard := none } :: rest) ρ w :=
  ⟨fun ok okl => VLI.op okl hr fun ok2 => h.go ok ok2⟩
theorem VY.round {m d : Nat} {x : Operand} {y : Operand} {ts : Array TypeId} {ty : TypeId} {p : String} {af : Array Edge} {v : Value} {w : World} {rest : List Oper} {lp : Nat} {RR : Ending → World → Prop} (hx : tm ρ x = .func (.yield lp) #[] #[]) (hy : tm ρ y = v) (hY : YieldAt Fence.wide m P lp #[v] w RR)
    (h : ∀ e w', RR e w' → ∃ u, e = .returned u ∧ VY (m + 1) P N L Q rest (upd ρ d u) w') : VY (m + 1) P N L Q ({ dst := some d, op := .call { callee := .value x, args := #[y], argTypes := ts }, type := ty, pos := p, after := af, guard := none } :: rest) ρ w := by
  refine ⟨fun ok okl => ?_⟩
  obtain ⟨fn, tmps, assign, body, hrun, hR⟩ := hY
  exact VLI.round okl (R.callY (v := v) hx hy hrun) hR fun ok2 e w' he => by
    obtain ⟨u, rfl, hv⟩ := h e w' he
    exact ⟨u, rfl, hv.go ok ok2⟩
theorem VY.region {m id : Nat} {w : World} (h : VY m P N L Q L ρ w) : V P N (.region id L.toArray false) Q ρ w := by
  refine ⟨fun ok => ?_⟩
  have okL : okOps N L = true := by simpa [okCode] using ok
  exact (wpIn_wide (n := m)).1 (wpIn_region_lit (h.go okL okL))

end
end Go.Vc
